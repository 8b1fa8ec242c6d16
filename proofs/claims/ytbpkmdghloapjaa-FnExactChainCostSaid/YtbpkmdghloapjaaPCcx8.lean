/- Plain Lean functions of a law's Go functions, their contracts, by a program of this session (wip/pr.py over the kit's print). -/
import Derived.Test.YtbpkmdghloapjaaPCcx0
import Derived.Test.YtbpkmdghloapjaaPCcx1
import Derived.Test.YtbpkmdghloapjaaPCcx3
import Derived.Test.YtbpkmdghloapjaaPCcx7
namespace Go.Proofs.Ytbpkmdghloapjaa.PCc
open Go.RowKit Go.Proofs.YtbpkmdghloapjaaW.PrintWords Go.Proofs.YtbpkmdghloapjaaW.PrintLast Go.Proofs.YtbpkmdghloapjaaW.PrintMore
attribute [local go_sem] max2_int min2_int max_two min_two max_three min_three max_four min_four   -- for this text's walks alone
set_option linter.unusedVariables false
set_option linter.unusedSimpArgs false

attribute [local go_sem high] eqA26 eqA38
/-! ### impl_AddrOf: function 87 -/
def impl_AddrOf.f (k : Nat) (l0 : List Int) : Option (Int × Int × Int × Int × Int × Bool) := if (l0.length : Int) = 4 then ((impl_beOf.f k l0).bind fun t362 => (some (4, 0, 0, 0, t362, true))) else (if (l0.length : Int) = 16 then (if 4 ≤ (l0.length : Int) then ((impl_beOf.f k (l0.take 4)).bind fun t364 => (if 4 ≤ 8 then (if 8 ≤ (l0.length : Int) then ((impl_beOf.f k ((l0.take 8).drop 4)).bind fun t366 => (if 8 ≤ 12 then (if 12 ≤ (l0.length : Int) then ((impl_beOf.f k ((l0.take 12).drop 8)).bind fun t368 => ((impl_beOf.f k (l0.drop 12)).bind fun t370 => (some (6, t364, t366, t368, t370, true)))) else (none)) else (none))) else (none)) else (none))) else (none)) else (some (0, 0, 0, 0, 0, false)))
theorem impl_AddrOf.mono : ∀ a0 k, LeO (impl_AddrOf.f k a0) (impl_AddrOf.f (k + 1) a0) := by
 intro a0 k
 unfold impl_AddrOf.f
 repeat' first
   | (with_reducible exact impl_beOf.mono _ _)
   | (with_reducible exact LeO.refl _)
   | (with_reducible exact LeO.none _)
   | (with_reducible refine LeO.ite ?_ ?_)
   | (with_reducible refine LeO.bind ?_ (fun _ => ?_))
   | exact impl_beOf.mono _ _
   | exact LeO.none _
   | refine LeO.ite ?_ ?_
   | refine LeO.bind ?_ (fun _ => ?_)
def impl_AddrOf.T5 : Bool × List (List Nat × List Nat) := (true, [([], []), ([0], [0]), ([1], [1]), ([], []), ([3], [3]), ([4, 2], [4]), ([], []), ([6], [6]), ([7, 5], [7]), ([], []), ([9], [9]), ([10, 8], [10]), ([2, 5, 8, 11], [2, 5, 8, 11]), ([12, 11, 0, 1, 2, 3, 4, 5, 6, 7, 8, 9, 10, 11, 12], [12]), ([13, 0, 1, 2, 3, 4, 5, 6, 7, 8, 9, 10, 11, 12, 13], [])])
def impl_AddrOf.B5 : List Nat := [0, 1, 3, 0, 8, 31, 0, 64, 255, 0, 512, 2047, 4095, 8191, 16383]
theorem impl_AddrOf.tab5 : rtab .any (opsOf Try.f87 5) = impl_AddrOf.T5 := by kernel_rfl
theorem impl_AddrOf.bits5 : waitsOk impl_AddrOf.T5.2 impl_AddrOf.B5 = true := by kernel_rfl
set_option maxHeartbeats 8000000 in
set_option maxRecDepth 100000 in
theorem impl_AddrOf.calls (k : Nat) (A0 : Option Addr) (c0 : Nat) (l0 : List Int) (r1 : Int) (r2 : Int) (r3 : Int) (r4 : Int) (r5 : Int) (r6 : Bool) (w : World) (hr0 : Kd.C (Kd.int .u8) w A0 l0.length l0) (hc0 : l0.length ≤ c0) (h : impl_AddrOf.f k l0 = some (r1, r2, r3, r4, r5, r6)) :
  Calls Try.prog 87 #[.slice A0 l0.length c0] w fun e w' => e = .returned (.tuple #[.agg #[.int .i64 r1, .int .i64 r2, .int .i64 r3, .int .i64 r4, .int .i64 r5], .bool r6]) ∧ Below w.heap.size w w' := by
 have hu26 := Try.underlying26
 have HR0 := Gv.a0 hr0
 have HC0 := Gv.a0 hc0
 clear hr0 hc0
 have HB := Gv.a0 (Below.refl w.heap.size w)
 have H : (if (l0.length : Int) = 4 then ((impl_beOf.f k l0).bind fun t362 => (some (4, 0, 0, 0, t362, true))) else (if (l0.length : Int) = 16 then (if 4 ≤ (l0.length : Int) then ((impl_beOf.f k (l0.take 4)).bind fun t364 => (if 4 ≤ 8 then (if 8 ≤ (l0.length : Int) then ((impl_beOf.f k ((l0.take 8).drop 4)).bind fun t366 => (if 8 ≤ 12 then (if 12 ≤ (l0.length : Int) then ((impl_beOf.f k ((l0.take 12).drop 8)).bind fun t368 => ((impl_beOf.f k (l0.drop 12)).bind fun t370 => (some (6, t364, t366, t368, t370, true)))) else (none)) else (none))) else (none)) else (none))) else (none)) else (some (0, 0, 0, 0, 0, false)))) = some (r1, r2, r3, r4, r5, r6) := h
 clear h
 by_cases c2 : (l0.length : Int) = 4
 ·rw [if_pos c2] at H
  have c2b0 : ((l0.length : Int) == 4) = true := beq_iff_eq.mpr c2
  have c2b1 : ((l0.length : Int) != 4) = false := bne_eq_false_iff_eq.mpr c2
  clear c2
  replace H := Option.bind_eq_some_iff.mp H
  obtain ⟨t362, A30, H⟩ := H
  replace H : (some (4, 0, 0, 0, t362, true)) = some (r1, r2, r3, r4, r5, r6) := H
  have A3 := Gv.a0 A30
  clear A30
  simp only [Option.some.injEq, Prod.mk.injEq] at H
  obtain ⟨rfl, rfl, rfl, rfl, rfl, rfl⟩ := H
  go_enter Try.func87, Try.ntmps87
  go_wp2_with (first | ((with_reducible refine gate_dst (N := 2) rfl ?_); refine box_event ?hg (N := 2) ?hd (cs := #[.int .i64 0, .int .i64 0, .int .i64 0, .int .i64 0, .int .i64 0]) (t := 26) ?hr ?_; (case hd => rfl); (case hg => rfl); (case hr => first | (go_simp; done) | (go_simp; rfl)); intro gb361 hg w4 hbox hb; have n0_ := Gv.a0 (below_step Gv.bw hb); have n1_ := Gv.a0 (hbox); have n2_ := Gv.a0 ((Gv.ble hg Gv.bw : w.heap.size ≤ gb361)); have n3_ := Gv.a0 ((Gv.ble hg Gv.bw : w.heap.size ≤ gb361)); clear HB; have HB := n0_; have BK361 := n1_; have GW361 := n2_; have GE361 := n3_; clear n0_ n1_ n2_ n3_; clear hb hbox hg) | ((with_reducible refine gate_callee (f := 92) rfl ?_); refine goesL_ (some 9) rfl rfl Try.func92 (by kernel_rfl) rfl #[.slice A0 l0.length c0] rfl Gv.lm ?_; (with_reducible refine (impl_beOf.calls k _ _ l0 t362 _ ?side1 ?side2 A3.out).mono ?_); (case side1 => repeat (first | exact (Kd.C_below HR0.out HB.out) | (with_reducible refine Kd.C_alloc ?_ _) | (with_reducible refine Kd.C_drewN ?_ _) | (with_reducible refine Kd.C_drew ?_))); (case side2 => exact HC0.out); rintro e w' ⟨rfl, ⟨nd, rfl⟩⟩; refine ⟨_, rfl, ?_⟩; (try (rw [drewN_self w4]; generalize hq_ : World.drewN w4 _ = w4; have n0_ : Aside0 (w4.heap[gb361]? = some (.cells #[.int .i64 0, .int .i64 0, .int .i64 0, .int .i64 0, .int .i64 0] 26 (0, 0))) := ⟨by rw [← hq_]; exact Gv.bk⟩; have n1_ : Aside0 (Below w.heap.size w w4) := ⟨by rw [← hq_]; exact Gv.bw⟩; clear BK361 HB hq_; have BK361 := n0_; have HB := n1_; clear n0_ n1_)); obtain ⟨hcz5_0, hcz5_1, hcz5_2, hcz5_3, hcz5_4⟩ := Gv.c5 BK361.out; obtain ⟨hfz5_0, hfz5_1, hfz5_2, hfz5_3, hfz5_4⟩ := Gv.f5 BK361.out))
  refine bodyPost_ret (results_ct rfl _ _ gb361 26 #[.int .i64 4, .int .i64 0, .int .i64 0, .int .i64 0, .int .i64 t362] (0, 0) _ rfl (by (with_reducible repeat (first | refine blk_drewN ?_ _ | refine blk_drew ?_ | refine blk_alloc ?_ _)); refine blk_put (cs := #[.int .i64 4, .int .i64 0, .int .i64 0, .int .i64 0, .int .i64 0]) ?_ 4 _ rfl; (with_reducible repeat (first | refine blk_drewN ?_ _ | refine blk_drew ?_ | refine blk_alloc ?_ _)); refine blk_put (cs := #[.int .i64 4, .int .i64 0, .int .i64 0, .int .i64 0, .int .i64 0]) ?_ 3 _ rfl; (with_reducible repeat (first | refine blk_drewN ?_ _ | refine blk_drew ?_ | refine blk_alloc ?_ _)); refine blk_put (cs := #[.int .i64 4, .int .i64 0, .int .i64 0, .int .i64 0, .int .i64 0]) ?_ 2 _ rfl; (with_reducible repeat (first | refine blk_drewN ?_ _ | refine blk_drew ?_ | refine blk_alloc ?_ _)); refine blk_put (cs := #[.int .i64 4, .int .i64 0, .int .i64 0, .int .i64 0, .int .i64 0]) ?_ 1 _ rfl; (with_reducible repeat (first | refine blk_drewN ?_ _ | refine blk_drew ?_ | refine blk_alloc ?_ _)); refine blk_put (cs := #[.int .i64 0, .int .i64 0, .int .i64 0, .int .i64 0, .int .i64 0]) ?_ 0 _ rfl; (with_reducible repeat (first | refine blk_drewN ?_ _ | refine blk_drew ?_ | refine blk_alloc ?_ _)); exact BK361.out) Try.underlying26 rfl (by kernel_rfl)) rfl ?_
  exact ⟨Gv.rt, Gv.bw⟩
 ·rw [if_neg c2] at H
  have c2b0 : ((l0.length : Int) == 4) = false := beq_eq_false_iff_ne.mpr c2
  have c2b1 : ((l0.length : Int) != 4) = true := bne_iff_ne.mpr c2
  by_cases c6 : (l0.length : Int) = 16
  ·rw [if_pos c6] at H
   have c6b0 : ((l0.length : Int) == 16) = true := beq_iff_eq.mpr c6
   have c6b1 : ((l0.length : Int) != 16) = false := bne_eq_false_iff_eq.mpr c6
   clear c6
   by_cases c7 : 4 ≤ (l0.length : Int)
   ·rw [if_pos c7] at H
    have c7b0 := eq_true c7
    have c7b1 : decide (4 ≤ (l0.length : Int)) = true := decide_eq_true c7
    clear c7
    replace H := Option.bind_eq_some_iff.mp H
    obtain ⟨t364, A80, H⟩ := H
    replace H : (if 4 ≤ 8 then (if 8 ≤ (l0.length : Int) then ((impl_beOf.f k ((l0.take 8).drop 4)).bind fun t366 => (if 8 ≤ 12 then (if 12 ≤ (l0.length : Int) then ((impl_beOf.f k ((l0.take 12).drop 8)).bind fun t368 => ((impl_beOf.f k (l0.drop 12)).bind fun t370 => (some (6, t364, t366, t368, t370, true)))) else (none)) else (none))) else (none)) else (none)) = some (r1, r2, r3, r4, r5, r6) := H
    have A8 := Gv.a0 A80
    clear A80
    by_cases c9 : 4 ≤ 8
    ·rw [if_pos c9] at H
     have c9b0 := eq_true c9
     have c9b1 : decide (4 ≤ 8) = true := decide_eq_true c9
     clear c9
     by_cases c10 : 8 ≤ (l0.length : Int)
     ·rw [if_pos c10] at H
      have c10b0 := eq_true c10
      have c10b1 : decide (8 ≤ (l0.length : Int)) = true := decide_eq_true c10
      clear c10
      replace H := Option.bind_eq_some_iff.mp H
      obtain ⟨t366, A110, H⟩ := H
      replace H : (if 8 ≤ 12 then (if 12 ≤ (l0.length : Int) then ((impl_beOf.f k ((l0.take 12).drop 8)).bind fun t368 => ((impl_beOf.f k (l0.drop 12)).bind fun t370 => (some (6, t364, t366, t368, t370, true)))) else (none)) else (none)) = some (r1, r2, r3, r4, r5, r6) := H
      have A11 := Gv.a0 A110
      clear A110
      by_cases c12 : 8 ≤ 12
      ·rw [if_pos c12] at H
       have c12b0 := eq_true c12
       have c12b1 : decide (8 ≤ 12) = true := decide_eq_true c12
       clear c12
       by_cases c13 : 12 ≤ (l0.length : Int)
       ·rw [if_pos c13] at H
        have c13b0 := eq_true c13
        have c13b1 : decide (12 ≤ (l0.length : Int)) = true := decide_eq_true c13
        clear c13
        replace H := Option.bind_eq_some_iff.mp H
        obtain ⟨t368, A140, H⟩ := H
        replace H : ((impl_beOf.f k (l0.drop 12)).bind fun t370 => (some (6, t364, t366, t368, t370, true))) = some (r1, r2, r3, r4, r5, r6) := H
        have A14 := Gv.a0 A140
        clear A140
        have c15b0 := eq_true (of_decide_eq_true (by first | (with_reducible assumption) | assumption) : 12 ≤ (l0.length : Int))
        replace H := Option.bind_eq_some_iff.mp H
        obtain ⟨t370, A160, H⟩ := H
        replace H : (some (6, t364, t366, t368, t370, true)) = some (r1, r2, r3, r4, r5, r6) := H
        have A16 := Gv.a0 A160
        clear A160
        simp only [Option.some.injEq, Prod.mk.injEq] at H
        obtain ⟨rfl, rfl, rfl, rfl, rfl, rfl⟩ := H
        go_enter Try.func87, Try.ntmps87
        try go_wp2_with (first | ((with_reducible refine gate_dst (N := 2) rfl ?_); refine box_event ?hg (N := 2) ?hd (cs := #[.int .i64 0, .int .i64 0, .int .i64 0, .int .i64 0, .int .i64 0]) (t := 26) ?hr ?_; (case hd => rfl); (case hg => rfl); (case hr => first | (go_simp; done) | (go_simp; rfl)); intro gb361 hg w17 hbox hb; have n0_ := Gv.a0 (below_step Gv.bw hb); have n1_ := Gv.a0 (hbox); have n2_ := Gv.a0 ((Gv.ble hg Gv.bw : w.heap.size ≤ gb361)); have n3_ := Gv.a0 ((Gv.ble hg Gv.bw : w.heap.size ≤ gb361)); clear HB; have HB := n0_; have BK361 := n1_; have GW361 := n2_; have GE361 := n3_; clear n0_ n1_ n2_ n3_; clear hb hbox hg))
        have n0_ := Gv.a0 (blk_drew BK361.out)
        have n1_ := Gv.a0 (below_drew1 HB.out)
        clear BK361
        clear HB
        have BK361 := n0_
        have HB := n1_
        clear n0_ n1_
        obtain ⟨i019, hi019, _, hsz19, _⟩ := info_parts info5
        obtain ⟨hcut19, hA19, hC19⟩ := print_take_of (P := Try.prog) (Value.int .u8) 0 62 5 .i64 Try.underlying62 hi019 hsz19 A0 c0 l0 4 (by omega) (of_decide_eq_true (by first | (with_reducible assumption) | assumption)) HC0.out
        have HR363 := Gv.a0 (Kd.C_of_reads (h1 := fun _ => rfl) (hA19 _ (Kd.reads_of_C HR0.out)))
        have HC363 := Gv.a0 hC19
        clear hA19 hC19 hi019 hsz19
        obtain ⟨i020, hi020, _, hsz20, _⟩ := info_parts info5
        obtain ⟨A20, hcut20, hA20, hC20⟩ := print_mid_of (P := Try.prog) (Value.int .u8) 0 62 5 .i64 .i64 Try.underlying62 hi020 hsz20 A0 c0 l0 4 8 (by omega) (by first | omega | exact of_decide_eq_true (by first | (with_reducible assumption) | assumption)) (of_decide_eq_true (by first | (with_reducible assumption) | assumption)) HC0.out
        have HR365 := Gv.a0 (Kd.C_of_reads (h1 := fun _ => rfl) (hA20 _ (Kd.reads_of_C HR0.out)))
        have HC365 := Gv.a0 hC20
        clear hA20 hC20 hi020 hsz20
        obtain ⟨i021, hi021, _, hsz21, _⟩ := info_parts info5
        obtain ⟨A21, hcut21, hA21, hC21⟩ := print_mid_of (P := Try.prog) (Value.int .u8) 0 62 5 .i64 .i64 Try.underlying62 hi021 hsz21 A0 c0 l0 8 12 (by omega) (by first | omega | exact of_decide_eq_true (by first | (with_reducible assumption) | assumption)) (of_decide_eq_true (by first | (with_reducible assumption) | assumption)) HC0.out
        have HR367 := Gv.a0 (Kd.C_of_reads (h1 := fun _ => rfl) (hA21 _ (Kd.reads_of_C HR0.out)))
        have HC367 := Gv.a0 hC21
        clear hA21 hC21 hi021 hsz21
        obtain ⟨i022, hi022, _, hsz22, _⟩ := info_parts info5
        obtain ⟨A22, hcut22, hA22, hC22⟩ := print_drop_of (P := Try.prog) (Value.int .u8) 0 62 5 .i64 Try.underlying62 hi022 hsz22 A0 c0 l0 12 (by omega) (of_decide_eq_true (by first | (with_reducible assumption) | assumption)) HC0.out
        have HR369 := Gv.a0 (Kd.C_of_reads (h1 := fun _ => rfl) (hA22 _ (Kd.reads_of_C HR0.out)))
        have HC369 := Gv.a0 hC22
        clear hA22 hC22 hi022 hsz22
        refine start_ (n := 15) (S := fun w' => True) (ds := []) #[false, false, false, false, false, false, false, false, false, false, false, false, false, false, false] (by kernel_rfl) rfl rfl trivial (fun hHeld => ?_); refine with_tabW impl_AddrOf.tab5 impl_AddrOf.bits5 (fun HT_ HW_ => ?_)
        generalize w17.drew = w18 at BK361 HB HR363 HR365 HR367 HR369 hHeld ⊢
        refine Gv.pu 0 (some 13) HT_ ?_
        refine Gv.pu 1 (some 14) HT_ ?_
        refine Gv.pu 3 (some 16) HT_ ?_
        refine Gv.pu 4 (some 17) HT_ ?_
        refine Gv.pu 6 (some 19) HT_ ?_
        refine Gv.pu 7 (some 20) HT_ ?_
        refine Gv.pu 9 (some 22) HT_ ?_
        refine Gv.pu 10 (some 23) HT_ ?_
        refine one_ (i := 2) (N := some 15) #[true, true, true, true, true, false, true, true, false, true, true, false, false, false, false] rfl rfl (one_of HT_.out (by kernel_rfl)) (by decide) (fun K hK => ?_)
        refine goes_ Try.func92 (by kernel_rfl) rfl #[.slice A0 (l0.take 4).length c0] (by rfl) rfl rfl (by (try simp only [List.map_toArray, List.map_cons, List.map_nil]); first | done | (rw [show (l0.take 4).length = 4 from (by rw [List.length_take]; have h_ : (4 : Int) ≤ (l0.length : Int) := of_decide_eq_true (by first | (with_reducible assumption) | assumption); omega)] <;> rfl) | rfl | (simp only [List.length_drop, List.length_take]; rfl)) ?_
        with_reducible refine (impl_beOf.calls k _ _ (l0.take 4) t364 _ ?side1 ?side2 A8.out).mono ?_
        (case side1 => repeat (first | exact (Kd.C_below HR363.out HB.out) | (with_reducible refine Kd.C_alloc ?_ _) | (with_reducible refine Kd.C_drewN ?_ _) | (with_reducible refine Kd.C_drew ?_)))
        (case side2 => exact HC363.out)
        rintro e w' ⟨rfl, ⟨nd, rfl⟩⟩
        refine ⟨_, rfl, ?_⟩
        refine hK.out _ _ trivial (fun hHeld => ?_)
        clear hK K
        refine norm_ (a' := ?_) ?_ ?_
        rotate_left
        ·show Act.put _ (some 15) _ = _
         simp only [Act.put, List.setIfInBounds_toArray, List.set_cons_zero, List.set_cons_succ, i64_w, i32_w]
         rfl
        refine one_ (i := 5) (N := some 18) #[true, true, true, true, true, true, true, true, false, true, true, false, false, false, false] rfl rfl (one_of HT_.out (by kernel_rfl)) (by decide) (fun K hK => ?_)
        refine goes_ Try.func92 (by kernel_rfl) rfl #[.slice A20 ((l0.take 8).drop 4).length (c0 - 4)] (by rfl) rfl rfl (by (try simp only [List.map_toArray, List.map_cons, List.map_nil]); first | done | (rw [show ((l0.take 8).drop 4).length = (8 - 4) from (by rw [List.length_drop, List.length_take]; have h_ : (8 : Int) ≤ (l0.length : Int) := of_decide_eq_true (by first | (with_reducible assumption) | assumption); omega)] <;> rfl) | rfl | (simp only [List.length_drop, List.length_take]; rfl)) ?_
        with_reducible refine (impl_beOf.calls k _ _ ((l0.take 8).drop 4) t366 _ ?side1 ?side2 A11.out).mono ?_
        (case side1 => repeat (first | exact (Kd.C_below HR365.out Gv.bw) | (with_reducible refine Kd.C_alloc ?_ _) | (with_reducible refine Kd.C_drewN ?_ _) | (with_reducible refine Kd.C_drew ?_)))
        (case side2 => exact HC365.out)
        rintro e w' ⟨rfl, ⟨nd, rfl⟩⟩
        refine ⟨_, rfl, ?_⟩
        refine hK.out _ _ trivial (fun hHeld => ?_)
        clear hK K
        refine norm_ (a' := ?_) ?_ ?_
        rotate_left
        ·show Act.put _ (some 18) _ = _
         simp only [Act.put, List.setIfInBounds_toArray, List.set_cons_zero, List.set_cons_succ, i64_w, i32_w]
         rfl
        refine one_ (i := 8) (N := some 21) #[true, true, true, true, true, true, true, true, true, true, true, false, false, false, false] rfl rfl (one_of HT_.out (by kernel_rfl)) (by decide) (fun K hK => ?_)
        refine goes_ Try.func92 (by kernel_rfl) rfl #[.slice A21 ((l0.take 12).drop 8).length (c0 - 8)] (by rfl) rfl rfl (by (try simp only [List.map_toArray, List.map_cons, List.map_nil]); first | done | (rw [show ((l0.take 12).drop 8).length = (12 - 8) from (by rw [List.length_drop, List.length_take]; have h_ : (12 : Int) ≤ (l0.length : Int) := of_decide_eq_true (by first | (with_reducible assumption) | assumption); omega)] <;> rfl) | rfl | (simp only [List.length_drop, List.length_take]; rfl)) ?_
        with_reducible refine (impl_beOf.calls k _ _ ((l0.take 12).drop 8) t368 _ ?side1 ?side2 A14.out).mono ?_
        (case side1 => repeat (first | exact (Kd.C_below HR367.out Gv.bw) | (with_reducible refine Kd.C_alloc ?_ _) | (with_reducible refine Kd.C_drewN ?_ _) | (with_reducible refine Kd.C_drew ?_)))
        (case side2 => exact HC367.out)
        rintro e w' ⟨rfl, ⟨nd, rfl⟩⟩
        refine ⟨_, rfl, ?_⟩
        refine hK.out _ _ trivial (fun hHeld => ?_)
        clear hK K
        refine norm_ (a' := ?_) ?_ ?_
        rotate_left
        ·show Act.put _ (some 21) _ = _
         simp only [Act.put, List.setIfInBounds_toArray, List.set_cons_zero, List.set_cons_succ, i64_w, i32_w]
         rfl
        refine one_ (i := 11) (N := some 24) #[true, true, true, true, true, true, true, true, true, true, true, true, false, false, false] rfl rfl (one_of HT_.out (by kernel_rfl)) (by decide) (fun K hK => ?_)
        refine goes_ Try.func92 (by kernel_rfl) rfl #[.slice A22 (l0.drop 12).length (c0 - 12)] (by rfl) rfl rfl (by (try simp only [List.map_toArray, List.map_cons, List.map_nil]); first | done | (rw [show (l0.drop 12).length = (l0.length - 12) from List.length_drop] <;> rfl) | rfl | (simp only [List.length_drop, List.length_take]; rfl)) ?_
        with_reducible refine (impl_beOf.calls k _ _ (l0.drop 12) t370 _ ?side1 ?side2 A16.out).mono ?_
        (case side1 => repeat (first | exact (Kd.C_below HR369.out Gv.bw) | (with_reducible refine Kd.C_alloc ?_ _) | (with_reducible refine Kd.C_drewN ?_ _) | (with_reducible refine Kd.C_drew ?_)))
        (case side2 => exact HC369.out)
        rintro e w' ⟨rfl, ⟨nd, rfl⟩⟩
        refine ⟨_, rfl, ?_⟩
        refine hK.out _ _ trivial (fun hHeld => ?_)
        clear hK K
        refine norm_ (a' := ?_) ?_ ?_
        rotate_left
        ·show Act.put _ (some 24) _ = _
         simp only [Act.put, List.setIfInBounds_toArray, List.set_cons_zero, List.set_cons_succ, i64_w, i32_w]
         rfl
        refine Gv.pu 12 (some 25) HT_ ?_
        refine one_ (i := 13) (N := none) #[true, true, true, true, true, true, true, true, true, true, true, true, true, true, false] rfl rfl (one_of HT_.out (by kernel_rfl)) (by decide) (fun K hK => ?_)
        have hs23 : w18.cell? ⟨gb361, 0, none⟩ = some (.int .i64 0) := (blk_cell BK361.out 0).trans rfl
        have hfs23 := blk_frozen BK361.out 0
        have hs24 : w18.cell? ⟨gb361, 1, none⟩ = some (.int .i64 0) := (blk_cell BK361.out 1).trans rfl
        have hfs24 := blk_frozen BK361.out 1
        have hs25 : w18.cell? ⟨gb361, 2, none⟩ = some (.int .i64 0) := (blk_cell BK361.out 2).trans rfl
        have hfs25 := blk_frozen BK361.out 2
        have hs26 : w18.cell? ⟨gb361, 3, none⟩ = some (.int .i64 0) := (blk_cell BK361.out 3).trans rfl
        have hfs26 := blk_frozen BK361.out 3
        have hs27 : w18.cell? ⟨gb361, 4, none⟩ = some (.int .i64 0) := (blk_cell BK361.out 4).trans rfl
        have hfs27 := blk_frozen BK361.out 4
        refine skip_ (w1 := ?_) (by rfl) rfl ?_ ?_
        rotate_left
        ·go_simp
         rfl
        refine hK.out _ _ trivial (fun hHeld => ?_)
        clear hK K
        refine Gv.pu 14 (some 3) HT_ ?_
        refine done_ (done_of HT_.out (by kernel_rfl)) ?_
        try go_wp2
        refine bodyPost_ret (results_ct rfl _ _ gb361 26 #[.int .i64 6, .int .i64 t364, .int .i64 t366, .int .i64 t368, .int .i64 t370] (0, 0) _ rfl (by (with_reducible repeat (first | refine blk_drewN ?_ _ | refine blk_drew ?_ | refine blk_alloc ?_ _)); refine blk_put (cs := #[.int .i64 6, .int .i64 t364, .int .i64 t366, .int .i64 t368, .int .i64 0]) ?_ 4 _ rfl; (with_reducible repeat (first | refine blk_drewN ?_ _ | refine blk_drew ?_ | refine blk_alloc ?_ _)); refine blk_put (cs := #[.int .i64 6, .int .i64 t364, .int .i64 t366, .int .i64 0, .int .i64 0]) ?_ 3 _ rfl; (with_reducible repeat (first | refine blk_drewN ?_ _ | refine blk_drew ?_ | refine blk_alloc ?_ _)); refine blk_put (cs := #[.int .i64 6, .int .i64 t364, .int .i64 0, .int .i64 0, .int .i64 0]) ?_ 2 _ rfl; (with_reducible repeat (first | refine blk_drewN ?_ _ | refine blk_drew ?_ | refine blk_alloc ?_ _)); refine blk_put (cs := #[.int .i64 6, .int .i64 0, .int .i64 0, .int .i64 0, .int .i64 0]) ?_ 1 _ rfl; (with_reducible repeat (first | refine blk_drewN ?_ _ | refine blk_drew ?_ | refine blk_alloc ?_ _)); refine blk_put (cs := #[.int .i64 0, .int .i64 0, .int .i64 0, .int .i64 0, .int .i64 0]) ?_ 0 _ rfl; (with_reducible repeat (first | refine blk_drewN ?_ _ | refine blk_drew ?_ | refine blk_alloc ?_ _)); exact BK361.out) Try.underlying26 rfl (by kernel_rfl)) rfl ?_
        exact ⟨Gv.rt, Gv.bw⟩
       ·rw [if_neg c13] at H
        exact absurd H (by simp)
      ·rw [if_neg c12] at H
       exact absurd H (by simp)
     ·rw [if_neg c10] at H
      exact absurd H (by simp)
    ·rw [if_neg c9] at H
     exact absurd H (by simp)
   ·rw [if_neg c7] at H
    exact absurd H (by simp)
  ·rw [if_neg c6] at H
   have c6b0 : ((l0.length : Int) == 16) = false := beq_eq_false_iff_ne.mpr c6
   have c6b1 : ((l0.length : Int) != 16) = true := bne_iff_ne.mpr c6
   simp only [Option.some.injEq, Prod.mk.injEq] at H
   obtain ⟨rfl, rfl, rfl, rfl, rfl, rfl⟩ := H
   go_enter Try.func87, Try.ntmps87
   go_wp2_with (first | ((with_reducible refine gate_dst (N := 2) rfl ?_); refine box_event ?hg (N := 2) ?hd (cs := #[.int .i64 0, .int .i64 0, .int .i64 0, .int .i64 0, .int .i64 0]) (t := 26) ?hr ?_; (case hd => rfl); (case hg => rfl); (case hr => first | (go_simp; done) | (go_simp; rfl)); intro gb361 hg w28 hbox hb; have n0_ := Gv.a0 (below_step Gv.bw hb); have n1_ := Gv.a0 (hbox); have n2_ := Gv.a0 ((Gv.ble hg Gv.bw : w.heap.size ≤ gb361)); have n3_ := Gv.a0 ((Gv.ble hg Gv.bw : w.heap.size ≤ gb361)); clear HB; have HB := n0_; have BK361 := n1_; have GW361 := n2_; have GE361 := n3_; clear n0_ n1_ n2_ n3_; clear hb hbox hg; obtain ⟨hcz29_0, hcz29_1, hcz29_2, hcz29_3, hcz29_4⟩ := Gv.c5 BK361.out; obtain ⟨hfz29_0, hfz29_1, hfz29_2, hfz29_3, hfz29_4⟩ := Gv.f5 BK361.out))
   refine bodyPost_ret (results_ct rfl _ _ gb361 26 #[.int .i64 0, .int .i64 0, .int .i64 0, .int .i64 0, .int .i64 0] (0, 0) _ rfl (by (with_reducible repeat (first | refine blk_drewN ?_ _ | refine blk_drew ?_ | refine blk_alloc ?_ _)); refine blk_put (cs := #[.int .i64 0, .int .i64 0, .int .i64 0, .int .i64 0, .int .i64 0]) ?_ 4 _ rfl; (with_reducible repeat (first | refine blk_drewN ?_ _ | refine blk_drew ?_ | refine blk_alloc ?_ _)); refine blk_put (cs := #[.int .i64 0, .int .i64 0, .int .i64 0, .int .i64 0, .int .i64 0]) ?_ 3 _ rfl; (with_reducible repeat (first | refine blk_drewN ?_ _ | refine blk_drew ?_ | refine blk_alloc ?_ _)); refine blk_put (cs := #[.int .i64 0, .int .i64 0, .int .i64 0, .int .i64 0, .int .i64 0]) ?_ 2 _ rfl; (with_reducible repeat (first | refine blk_drewN ?_ _ | refine blk_drew ?_ | refine blk_alloc ?_ _)); refine blk_put (cs := #[.int .i64 0, .int .i64 0, .int .i64 0, .int .i64 0, .int .i64 0]) ?_ 1 _ rfl; (with_reducible repeat (first | refine blk_drewN ?_ _ | refine blk_drew ?_ | refine blk_alloc ?_ _)); refine blk_put (cs := #[.int .i64 0, .int .i64 0, .int .i64 0, .int .i64 0, .int .i64 0]) ?_ 0 _ rfl; (with_reducible repeat (first | refine blk_drewN ?_ _ | refine blk_drew ?_ | refine blk_alloc ?_ _)); exact BK361.out) Try.underlying26 rfl (by kernel_rfl)) rfl ?_
   exact ⟨Gv.rt, Gv.bw⟩

/-! ### impl_Cut: function 69 -/
mutual
def impl_Cut.j0 : Nat → Int → Bool → Int → Int → Int → Int → Int → Option (Int × Int × Int × Int × Int)
 | 0, _, _, _, _, _, _, _ => none
 | k + 1, x1, x19, x372000, x372001, x372002, x372003, x372004 => if x19 = true then (some (0, 0, 0, 0, 0)) else ((impl_AddrBytes.f k x372000 x372001 x372002 x372003 x372004).bind fun t376 => (impl_Cut.l0 k x1 t376 (t376.length : Int) 0))
def impl_Cut.l0 : Nat → Int → List Int → Int → Int → Option (Int × Int × Int × Int × Int)
 | 0, _, _, _, _ => none
 | k + 1, x1, x5, x24, x25 => if x25 < x24 then ((impl_Clip.f (wrap64 (x1 - (wrap64 (8 * x25)))) 0 8).bind fun t379 => (if 0 ≤ x25 then (if x25 < (x5.length : Int) then (if 0 ≤ t379 then (impl_Cut.l0 k x1 (x5.set (x25 : Int).toNat (Go.bits .and .u8 (rd x5 x25) ((shr .u16 65280 t379) % 256))) x24 (wrap64 (x25 + 1))) else (none)) else (none)) else (none))) else ((impl_AddrOf.f k x5).bind fun bt382 => (some (bt382.1, bt382.2.1, bt382.2.2.1, bt382.2.2.2.1, bt382.2.2.2.2.1)))
end
def impl_Cut.f (k : Nat) (a0_0 : Int) (a0_1 : Int) (a0_2 : Int) (a0_3 : Int) (a0_4 : Int) (a1 : Int) : Option (Int × Int × Int × Int × Int) := (impl_AddrOk.f a0_0 a0_1 a0_2 a0_3 a0_4).bind fun t373 => (if t373 = true then ((impl_bitsOf.f a0_0 a0_1 a0_2 a0_3 a0_4).bind fun t374 => ((impl_within.f a1 0 t374).bind fun t375 => (impl_Cut.j0 k a1 (!t375) a0_0 a0_1 a0_2 a0_3 a0_4))) else (impl_Cut.j0 k a1 true a0_0 a0_1 a0_2 a0_3 a0_4))
theorem impl_Cut.mono_l : ∀ k, (∀ y0 y1 y2 y3 y4 y5 y6, LeO (impl_Cut.j0 k y0 y1 y2 y3 y4 y5 y6) (impl_Cut.j0 (k + 1) y0 y1 y2 y3 y4 y5 y6)) ∧ (∀ y0 y1 y2 y3, LeO (impl_Cut.l0 k y0 y1 y2 y3) (impl_Cut.l0 (k + 1) y0 y1 y2 y3))
 | 0 => ⟨fun _ _ _ _ _ _ _ r h => by simp [impl_Cut.j0] at h, fun _ _ _ _ r h => by simp [impl_Cut.l0] at h⟩
 | k + 1 => by
  obtain ⟨ih0, ih1⟩ := impl_Cut.mono_l k
  refine ⟨?_, ?_⟩
  ·intro y0 y1 y2 y3 y4 y5 y6
   unfold impl_Cut.j0
   repeat' first
   | (with_reducible exact ih0 _ _ _ _ _ _ _)
   | (with_reducible exact ih1 _ _ _ _)
   | (with_reducible exact impl_AddrBytes.mono _ _ _ _ _ _)
   | (with_reducible exact impl_AddrOf.mono _ _)
   | (with_reducible exact LeO.refl _)
   | (with_reducible exact LeO.none _)
   | (with_reducible refine LeO.ite ?_ ?_)
   | (with_reducible refine LeO.bind ?_ (fun _ => ?_))
   | exact ih0 _ _ _ _ _ _ _
   | exact ih1 _ _ _ _
   | exact impl_AddrBytes.mono _ _ _ _ _ _
   | exact impl_AddrOf.mono _ _
   | exact LeO.none _
   | refine LeO.ite ?_ ?_
   | refine LeO.bind ?_ (fun _ => ?_)
  ·intro y0 y1 y2 y3
   unfold impl_Cut.l0
   repeat' first
   | (with_reducible exact ih0 _ _ _ _ _ _ _)
   | (with_reducible exact ih1 _ _ _ _)
   | (with_reducible exact impl_AddrBytes.mono _ _ _ _ _ _)
   | (with_reducible exact impl_AddrOf.mono _ _)
   | (with_reducible exact LeO.refl _)
   | (with_reducible exact LeO.none _)
   | (with_reducible refine LeO.ite ?_ ?_)
   | (with_reducible refine LeO.bind ?_ (fun _ => ?_))
   | exact ih0 _ _ _ _ _ _ _
   | exact ih1 _ _ _ _
   | exact impl_AddrBytes.mono _ _ _ _ _ _
   | exact impl_AddrOf.mono _ _
   | exact LeO.none _
   | refine LeO.ite ?_ ?_
   | refine LeO.bind ?_ (fun _ => ?_)
theorem impl_Cut.mono : ∀ a0 a1 a2 a3 a4 a5 k, LeO (impl_Cut.f k a0 a1 a2 a3 a4 a5) (impl_Cut.f (k + 1) a0 a1 a2 a3 a4 a5) := by
 intro a0 a1 a2 a3 a4 a5 k
 obtain ⟨ih0, ih1⟩ := impl_Cut.mono_l k
 unfold impl_Cut.f
 repeat' first
   | (with_reducible exact ih0 _ _ _ _ _ _ _)
   | (with_reducible exact ih1 _ _ _ _)
   | (with_reducible exact impl_AddrBytes.mono _ _ _ _ _ _)
   | (with_reducible exact impl_AddrOf.mono _ _)
   | (with_reducible exact LeO.refl _)
   | (with_reducible exact LeO.none _)
   | (with_reducible refine LeO.ite ?_ ?_)
   | (with_reducible refine LeO.bind ?_ (fun _ => ?_))
   | exact ih0 _ _ _ _ _ _ _
   | exact ih1 _ _ _ _
   | exact impl_AddrBytes.mono _ _ _ _ _ _
   | exact impl_AddrOf.mono _ _
   | exact LeO.none _
   | refine LeO.ite ?_ ?_
   | refine LeO.bind ?_ (fun _ => ?_)
def impl_Cut.T8 : Bool × List (List Nat × List Nat) := (true, [([], []), ([], []), ([0, 1], [0, 1]), ([2], [2]), ([], []), ([4], [4]), ([5], [5]), ([3, 6], [3, 6]), ([0, 1, 0, 1, 2, 3, 4, 5, 6, 7], [0, 1]), ([8, 7, 0, 1, 2, 3, 4, 5, 6, 7], [7, 8])])
def impl_Cut.B8 : List Nat := [0, 0, 3, 7, 0, 16, 48, 127, 255, 511]
theorem impl_Cut.tab8 : rtab .any (opsOf Try.f69 8) = impl_Cut.T8 := by kernel_rfl
theorem impl_Cut.bits8 : waitsOk impl_Cut.T8.2 impl_Cut.B8 = true := by kernel_rfl
set_option maxHeartbeats 8000000 in
set_option maxRecDepth 100000 in
theorem impl_Cut.calls (k : Nat) (a0_0 : Int) (a0_1 : Int) (a0_2 : Int) (a0_3 : Int) (a0_4 : Int) (a1 : Int) (r1 : Int) (r2 : Int) (r3 : Int) (r4 : Int) (r5 : Int) (w : World) (h : impl_Cut.f k a0_0 a0_1 a0_2 a0_3 a0_4 a1 = some (r1, r2, r3, r4, r5)) :
  Calls Try.prog 69 #[.agg #[.int .i64 a0_0, .int .i64 a0_1, .int .i64 a0_2, .int .i64 a0_3, .int .i64 a0_4], .int .i64 a1] w fun e w' => e = .returned (.agg #[.int .i64 r1, .int .i64 r2, .int .i64 r3, .int .i64 r4, .int .i64 r5]) ∧ Below w.heap.size w w' := by
 have hu26 := Try.underlying26
 have HB := Gv.a0 (Below.refl w.heap.size w)
 have H : ((impl_AddrOk.f a0_0 a0_1 a0_2 a0_3 a0_4).bind fun t373 => (if t373 = true then ((impl_bitsOf.f a0_0 a0_1 a0_2 a0_3 a0_4).bind fun t374 => ((impl_within.f a1 0 t374).bind fun t375 => (impl_Cut.j0 k a1 (!t375) a0_0 a0_1 a0_2 a0_3 a0_4))) else (impl_Cut.j0 k a1 true a0_0 a0_1 a0_2 a0_3 a0_4))) = some (r1, r2, r3, r4, r5) := h
 clear h
 have HC3 := Gv.a0 H
 clear H
 go_enter Try.func69, Try.ntmps69
 go_upto_region 1 with (first | ((with_reducible refine gate_dst (N := 2) rfl ?_); refine box_event ?hg (N := 2) ?hd (cs := #[.int .i64 a0_0, .int .i64 a0_1, .int .i64 a0_2, .int .i64 a0_3, .int .i64 a0_4]) (t := 26) ?hr ?_; (case hd => rfl); (case hg => rfl); (case hr => first | (go_simp; done) | (go_simp; rfl)); intro gb371 hg w4 hbox hb; have n0_ := Gv.a0 (below_step Gv.bw hb); have n1_ := Gv.a0 (hbox); have n2_ := Gv.a0 ((Gv.ble hg Gv.bw : w.heap.size ≤ gb371)); have n3_ := Gv.a0 ((Gv.ble hg Gv.bw : w.heap.size ≤ gb371)); clear HB; have HB := n0_; have BK371 := n1_; have GW371 := n2_; have GE371 := n3_; clear n0_ n1_ n2_ n3_; clear hb hbox hg) | ((with_reducible refine gate_dst (N := 4) rfl ?_); refine box_event ?hg (N := 4) ?hd (cs := #[.int .i64 0, .int .i64 0, .int .i64 0, .int .i64 0, .int .i64 0]) (t := 26) ?hr ?_; (case hd => rfl); (case hg => rfl); (case hr => first | (go_simp; done) | (go_simp; rfl)); intro gb372 hg w5 hbox hb; have n0_ := Gv.a0 (Gv.bb BK371.out hb); have n1_ := Gv.a0 (below_step Gv.bw hb); have n2_ := Gv.a0 (hbox); have n3_ := Gv.a0 ((Gv.ble hg Gv.bw : w.heap.size ≤ gb372)); have n4_ := Gv.a0 ((Gv.ble hg Gv.bw : w.heap.size ≤ gb372)); have n5_ := Gv.a0 ((Gv.nlt hg (Gv.kb BK371.out) : gb371 ≠ gb372)); have n6_ := Gv.a0 ((Gv.ngt hg (Gv.kb BK371.out) : gb372 ≠ gb371)); clear BK371; clear HB; have BK371 := n0_; have HB := n1_; have BK372 := n2_; have GW372 := n3_; have GE372 := n4_; have NB371_372 := n5_; have NB372_371 := n6_; clear n0_ n1_ n2_ n3_ n4_ n5_ n6_; clear hb hbox hg))
 (try simp only [Act.put, List.setIfInBounds_toArray, List.set_cons_zero, List.set_cons_succ])
 go_cut [19] (fun v19 wc => ∃ (kq : Nat) (x19_2 : Bool), v19 = .bool x19_2 ∧ Aside0 (impl_Cut.j0 kq a1 x19_2 a0_0 a0_1 a0_2 a0_3 a0_4 = some (r1, r2, r3, r4, r5)) ∧ Aside0 (kq ≤ k) ∧ Aside0 (wc.heap[gb371]? = some (.cells #[.int .i64 a0_0, .int .i64 a0_1, .int .i64 a0_2, .int .i64 a0_3, .int .i64 a0_4] 26 (0, 0))) ∧ Aside0 (wc.heap[gb372]? = some (.cells #[.int .i64 0, .int .i64 0, .int .i64 0, .int .i64 0, .int .i64 0] 26 (0, 0))) ∧ Aside0 (Below w.heap.size w wc))
 case first =>
  have H := HC3.out
  clear HC3
  replace H := Option.bind_eq_some_iff.mp H
  obtain ⟨t373, A60, H⟩ := H
  replace H : (if t373 = true then ((impl_bitsOf.f a0_0 a0_1 a0_2 a0_3 a0_4).bind fun t374 => ((impl_within.f a1 0 t374).bind fun t375 => (impl_Cut.j0 k a1 (!t375) a0_0 a0_1 a0_2 a0_3 a0_4))) else (impl_Cut.j0 k a1 true a0_0 a0_1 a0_2 a0_3 a0_4)) = some (r1, r2, r3, r4, r5) := H
  have A6 := Gv.a0 A60
  clear A60
  by_cases c7 : t373 = true
  ·subst c7
   have H1 : ((impl_bitsOf.f a0_0 a0_1 a0_2 a0_3 a0_4).bind fun t374 => ((impl_within.f a1 0 t374).bind fun t375 => (impl_Cut.j0 k a1 (!t375) a0_0 a0_1 a0_2 a0_3 a0_4))) = some (r1, r2, r3, r4, r5) := by rw [if_pos rfl] at H; exact H
   clear H
   have H := H1
   clear H1
   replace H := Option.bind_eq_some_iff.mp H
   obtain ⟨t374, A80, H⟩ := H
   replace H : ((impl_within.f a1 0 t374).bind fun t375 => (impl_Cut.j0 k a1 (!t375) a0_0 a0_1 a0_2 a0_3 a0_4)) = some (r1, r2, r3, r4, r5) := H
   have A8 := Gv.a0 A80
   clear A80
   replace H := Option.bind_eq_some_iff.mp H
   obtain ⟨t375, A90, H⟩ := H
   replace H : (impl_Cut.j0 k a1 (!t375) a0_0 a0_1 a0_2 a0_3 a0_4) = some (r1, r2, r3, r4, r5) := H
   have A9 := Gv.a0 A90
   clear A90
   have H' := Gv.a0 H
   clear H
   have hnb10 := NB371_372.out
   have hnc10 := NB372_371.out
   obtain ⟨hcz11_0, hcz11_1, hcz11_2, hcz11_3, hcz11_4⟩ := Gv.c5 BK371.out
   obtain ⟨hfz11_0, hfz11_1, hfz11_2, hfz11_3, hfz11_4⟩ := Gv.f5 BK371.out
   go_wp2_with (first | ((with_reducible refine gate_callee (f := 67) rfl ?_); refine goesL_ (some 11) rfl rfl Try.func67 (by kernel_rfl) rfl #[.agg #[.int .i64 a0_0, .int .i64 a0_1, .int .i64 a0_2, .int .i64 a0_3, .int .i64 a0_4]] rfl Gv.lm ?_; (with_reducible refine (impl_AddrOk.calls a0_0 a0_1 a0_2 a0_3 a0_4 true _ A6.out).mono ?_); rintro e w12 ⟨rfl, hb⟩; refine ⟨_, rfl, ?_⟩; have n0_ := Gv.a0 (Gv.bb BK371.out hb); have n1_ := Gv.a0 (Gv.bb BK372.out hb); have n2_ := Gv.a0 (below_step Gv.bw hb); clear BK371; clear BK372; clear HB; have BK371 := n0_; have BK372 := n1_; have HB := n2_; clear n0_ n1_ n2_; (try clear hb); (try clear hb2); (try clear hk); (try clear hi); obtain ⟨hcz13_0, hcz13_1, hcz13_2, hcz13_3, hcz13_4⟩ := Gv.c5 BK371.out; obtain ⟨hfz13_0, hfz13_1, hfz13_2, hfz13_3, hfz13_4⟩ := Gv.f5 BK371.out) | (go_at_call 70; (with_reducible refine (impl_bitsOf.calls a0_0 a0_1 a0_2 a0_3 a0_4 t374 _ A8.out).mono ?_); rintro e w14 ⟨rfl, hb⟩; have n0_ := Gv.a0 (Gv.bb BK371.out hb); have n1_ := Gv.a0 (Gv.bb BK372.out hb); have n2_ := Gv.a0 (below_step Gv.bw hb); clear BK371; clear BK372; clear HB; have BK371 := n0_; have BK372 := n1_; have HB := n2_; clear n0_ n1_ n2_; (try clear hb); (try clear hb2); (try clear hk); (try clear hi)) | (go_at_call 44; (with_reducible refine (impl_within.calls a1 0 t374 t375 _ A9.out).mono ?_); rintro e w' ⟨rfl, ⟨nd, rfl⟩⟩))
   go_meet
   case rel => exact ⟨_, (!t375), Gv.rq, H', ⟨by first | omega | exact Nat.le_refl _⟩, ⟨by (with_reducible repeat (first | refine blk_drewN ?_ _ | refine blk_drew ?_ | refine blk_alloc ?_ _)); exact BK371.out⟩, ⟨by (with_reducible repeat (first | refine blk_drewN ?_ _ | refine blk_drew ?_ | refine blk_alloc ?_ _)); exact BK372.out⟩, ⟨Gv.bw⟩⟩
  ·replace c7 := Bool.eq_false_iff.mpr c7
   subst c7
   have H1 : (impl_Cut.j0 k a1 true a0_0 a0_1 a0_2 a0_3 a0_4) = some (r1, r2, r3, r4, r5) := by rw [if_neg (show ¬ (false = true) by decide)] at H; exact H
   clear H
   have H := H1
   clear H1
   have H' := Gv.a0 H
   clear H
   have hnb15 := NB371_372.out
   have hnc15 := NB372_371.out
   obtain ⟨hcz16_0, hcz16_1, hcz16_2, hcz16_3, hcz16_4⟩ := Gv.c5 BK371.out
   obtain ⟨hfz16_0, hfz16_1, hfz16_2, hfz16_3, hfz16_4⟩ := Gv.f5 BK371.out
   go_wp2_with (first | ((with_reducible refine gate_callee (f := 67) rfl ?_); refine goesL_ (some 11) rfl rfl Try.func67 (by kernel_rfl) rfl #[.agg #[.int .i64 a0_0, .int .i64 a0_1, .int .i64 a0_2, .int .i64 a0_3, .int .i64 a0_4]] rfl Gv.lm ?_; (with_reducible refine (impl_AddrOk.calls a0_0 a0_1 a0_2 a0_3 a0_4 false _ A6.out).mono ?_); rintro e w17 ⟨rfl, hb⟩; refine ⟨_, rfl, ?_⟩; have n0_ := Gv.a0 (Gv.bb BK371.out hb); have n1_ := Gv.a0 (Gv.bb BK372.out hb); have n2_ := Gv.a0 (below_step Gv.bw hb); clear BK371; clear BK372; clear HB; have BK371 := n0_; have BK372 := n1_; have HB := n2_; clear n0_ n1_ n2_; (try clear hb); (try clear hb2); (try clear hk); (try clear hi)))
   go_meet
   case rel => exact ⟨_, (true), Gv.rq, H', ⟨by first | omega | exact Nat.le_refl _⟩, ⟨by (with_reducible repeat (first | refine blk_drewN ?_ _ | refine blk_drew ?_ | refine blk_alloc ?_ _)); exact BK371.out⟩, ⟨by (with_reducible repeat (first | refine blk_drewN ?_ _ | refine blk_drew ?_ | refine blk_alloc ?_ _)); exact BK372.out⟩, ⟨Gv.bw⟩⟩
 case rest =>
  clear HC3
  try clear c1
  try clear p2
  try clear c6
  try clear c7
  try clear c10
  try clear c15
  try clear hcz11_0 hcz11_1 hcz11_2 hcz11_3 hcz11_4
  try clear hcz13_0 hcz13_1 hcz13_2 hcz13_3 hcz13_4
  try clear hcz16_0 hcz16_1 hcz16_2 hcz16_3 hcz16_4
  try clear hfz11_0 hfz11_1 hfz11_2 hfz11_3 hfz11_4
  try clear hfz13_0 hfz13_1 hfz13_2 hfz13_3 hfz13_4
  try clear hfz16_0 hfz16_1 hfz16_2 hfz16_3 hfz16_4
  obtain ⟨kq, x19_2, rfl, HA, HJ2, BK371, BK372, HB⟩ := hcut
  cases kq with
  | zero => exact absurd HA.out (by simp [impl_Cut.j0])
  | succ kj2 =>
   have H := HA.out
   clear HA
   simp only [impl_Cut.j0] at H
   by_cases c18 : x19_2 = true
   ·subst c18
    have H1 : (some (0, 0, 0, 0, 0)) = some (r1, r2, r3, r4, r5) := by rw [if_pos rfl] at H; exact H
    clear H
    have H := H1
    clear H1
    simp only [Option.some.injEq, Prod.mk.injEq] at H
    obtain ⟨rfl, rfl, rfl, rfl, rfl⟩ := H
    have hnb19 := NB372_371.out
    have hnc19 := NB371_372.out
    obtain ⟨hcz20_0, hcz20_1, hcz20_2, hcz20_3, hcz20_4⟩ := Gv.c5 BK372.out
    obtain ⟨hfz20_0, hfz20_1, hfz20_2, hfz20_3, hfz20_4⟩ := Gv.f5 BK372.out
    go_wp2
    refine bodyPost_ret (results_cell_row rfl _ _ gb372 26 #[.int .i64 0, .int .i64 0, .int .i64 0, .int .i64 0, .int .i64 0] (0, 0) _ rfl (by (with_reducible repeat (first | refine blk_drewN ?_ _ | refine blk_drew ?_ | refine blk_alloc ?_ _)); refine blk_put (cs := #[.int .i64 0, .int .i64 0, .int .i64 0, .int .i64 0, .int .i64 0]) ?_ 4 _ rfl; (with_reducible repeat (first | refine blk_drewN ?_ _ | refine blk_drew ?_ | refine blk_alloc ?_ _)); refine blk_put (cs := #[.int .i64 0, .int .i64 0, .int .i64 0, .int .i64 0, .int .i64 0]) ?_ 3 _ rfl; (with_reducible repeat (first | refine blk_drewN ?_ _ | refine blk_drew ?_ | refine blk_alloc ?_ _)); refine blk_put (cs := #[.int .i64 0, .int .i64 0, .int .i64 0, .int .i64 0, .int .i64 0]) ?_ 2 _ rfl; (with_reducible repeat (first | refine blk_drewN ?_ _ | refine blk_drew ?_ | refine blk_alloc ?_ _)); refine blk_put (cs := #[.int .i64 0, .int .i64 0, .int .i64 0, .int .i64 0, .int .i64 0]) ?_ 1 _ rfl; (with_reducible repeat (first | refine blk_drewN ?_ _ | refine blk_drew ?_ | refine blk_alloc ?_ _)); refine blk_put (cs := #[.int .i64 0, .int .i64 0, .int .i64 0, .int .i64 0, .int .i64 0]) ?_ 0 _ rfl; (with_reducible repeat (first | refine blk_drewN ?_ _ | refine blk_drew ?_ | refine blk_alloc ?_ _)); exact BK372.out) Try.underlying26 rfl (by kernel_rfl)) rfl ?_
    exact ⟨Gv.rt, Gv.bw⟩
   ·replace c18 := Bool.eq_false_iff.mpr c18
    subst c18
    have H1 : ((impl_AddrBytes.f kj2 a0_0 a0_1 a0_2 a0_3 a0_4).bind fun t376 => (impl_Cut.l0 kj2 a1 t376 (t376.length : Int) 0)) = some (r1, r2, r3, r4, r5) := by rw [if_neg (show ¬ (false = true) by decide)] at H; exact H
    clear H
    have H := H1
    clear H1
    replace H := Option.bind_eq_some_iff.mp H
    obtain ⟨t376, A210, H⟩ := H
    replace H : (impl_Cut.l0 kj2 a1 t376 (t376.length : Int) 0) = some (r1, r2, r3, r4, r5) := H
    have A21 := Gv.a0 A210
    clear A210
    have H' := Gv.a0 H
    clear H
    have hnb22 := NB371_372.out
    have hnc22 := NB372_371.out
    obtain ⟨hcz23_0, hcz23_1, hcz23_2, hcz23_3, hcz23_4⟩ := Gv.c5 BK371.out
    obtain ⟨hfz23_0, hfz23_1, hfz23_2, hfz23_3, hfz23_4⟩ := Gv.f5 BK371.out
    go_wp2_with (first | ((with_reducible refine gate_callee (f := 86) rfl ?_); refine goesL_ (some 22) rfl rfl Try.func86 (by kernel_rfl) rfl #[.agg #[.int .i64 a0_0, .int .i64 a0_1, .int .i64 a0_2, .int .i64 a0_3, .int .i64 a0_4]] rfl Gv.lm ?_; (with_reducible refine (impl_AddrBytes.calls kj2 a0_0 a0_1 a0_2 a0_3 a0_4 t376 _ A21.out).mono ?_); rintro e w24 ⟨v377, rfl, ho0, hb⟩; refine ⟨_, rfl, ?_⟩; have n0_ := Gv.a0 (Kd.R_lower ho0 (below_size Gv.bw)); have n1_ := Gv.a0 (Gv.bb BK371.out hb); have n2_ := Gv.a0 (Gv.bb BK372.out hb); have n3_ := Gv.a0 (below_step Gv.bw hb); clear BK371; clear BK372; clear HB; have HO378 := n0_; have BK371 := n1_; have BK372 := n2_; have HB := n3_; clear n0_ n1_ n2_ n3_; (try clear hb); (try clear hb2); (try clear hk); (try clear hi); (try clear ho0); obtain ⟨Ao25, co25, eo25⟩ := Kd.R_slice HO378.out; subst eo25))
    go_loopg [25] kj2 (fun kq v25 w' => ∃ (x5_2 : List Int) (x25_2 : Int), v25 = .int .i64 x25_2 ∧ Aside0 (impl_Cut.l0 kq a1 x5_2 (t376.length : Int) x25_2 = some (r1, r2, r3, r4, r5)) ∧ Aside0 (kq ≤ kj2) ∧ Aside0 (Kd.R (Kd.int .u8) 5 w' w.heap.size (fun _ => True) (.slice Ao25 t376.length co25) x5_2) ∧ Aside0 (w'.heap[gb371]? = some (.cells #[.int .i64 a0_0, .int .i64 a0_1, .int .i64 a0_2, .int .i64 a0_3, .int .i64 a0_4] 26 (0, 0))) ∧ Aside0 (w'.heap[gb372]? = some (.cells #[.int .i64 0, .int .i64 0, .int .i64 0, .int .i64 0, .int .i64 0] 26 (0, 0))) ∧ Aside0 (Below w.heap.size w w'))
    case atStart => exact ⟨(t376), (0), Gv.rq, H', ⟨Nat.le_refl _⟩, ⟨Gv.kr HO378.out⟩, ⟨by (with_reducible repeat (first | refine blk_drewN ?_ _ | refine blk_drew ?_ | refine blk_alloc ?_ _)); exact BK371.out⟩, ⟨by (with_reducible repeat (first | refine blk_drewN ?_ _ | refine blk_drew ?_ | refine blk_alloc ?_ _)); exact BK372.out⟩, ⟨Gv.bw⟩⟩
    case round =>
     clear H'
     try clear c1
     try clear c2
     try clear p2
     try clear c6
     try clear c7
     try clear c8
     try clear c10
     try clear c15
     try clear c18
     try clear c19
     try clear c22
     try clear hcz11_0 hcz11_1 hcz11_2 hcz11_3 hcz11_4
     try clear hcz13_0 hcz13_1 hcz13_2 hcz13_3 hcz13_4
     try clear hcz16_0 hcz16_1 hcz16_2 hcz16_3 hcz16_4
     try clear hcz20_0 hcz20_1 hcz20_2 hcz20_3 hcz20_4
     try clear hcz23_0 hcz23_1 hcz23_2 hcz23_3 hcz23_4
     try clear hfz11_0 hfz11_1 hfz11_2 hfz11_3 hfz11_4
     try clear hfz13_0 hfz13_1 hfz13_2 hfz13_3 hfz13_4
     try clear hfz16_0 hfz16_1 hfz16_2 hfz16_3 hfz16_4
     try clear hfz20_0 hfz20_1 hfz20_2 hfz20_3 hfz20_4
     try clear hfz23_0 hfz23_1 hfz23_2 hfz23_3 hfz23_4
     try clear p2
     obtain ⟨x5_2, x25_2, rfl, HA, HK2, HO_5, BK371, BK372, HB⟩ := hrel
     have hl5_2 := (Kd.R_reads' HO_5.out).1
     rw [hl5_2] at HO_5
     (try simp only [hl5_2])
     (try simp only [hl5_2] at BK371)
     (try simp only [hl5_2] at BK372)
     cases gk with
     | zero => exact absurd HA.out (by simp [impl_Cut.l0])
     | succ k2 =>
      have H := HA.out
      clear HA
      simp only [impl_Cut.l0] at H
      by_cases c26 : x25_2 < (t376.length : Int)
      ·rw [if_pos c26] at H
       have c26b0 : decide (x25_2 < (t376.length : Int)) = true := decide_eq_true c26
       (try (have c26b9 := c26b0; rw [hl5_2] at c26b9))
       (try (have c26b8 := c26b0; rw [← hl5_2] at c26b8))
       clear c26
       replace H := Option.bind_eq_some_iff.mp H
       obtain ⟨t379, A270, H⟩ := H
       replace H : (if 0 ≤ x25_2 then (if x25_2 < (x5_2.length : Int) then (if 0 ≤ t379 then (impl_Cut.l0 k2 a1 (x5_2.set (x25_2 : Int).toNat (Go.bits .and .u8 (rd x5_2 x25_2) ((shr .u16 65280 t379) % 256))) (t376.length : Int) (wrap64 (x25_2 + 1))) else (none)) else (none)) else (none)) = some (r1, r2, r3, r4, r5) := H
       have A27 := Gv.a0 A270
       clear A270
       by_cases c28 : 0 ≤ x25_2
       ·rw [if_pos c28] at H
        have c28b0 : decide (0 ≤ x25_2) = true := decide_eq_true c28
        clear c28
        by_cases c29 : x25_2 < (x5_2.length : Int)
        ·rw [if_pos c29] at H
         have c29b0 : decide (x25_2 < (x5_2.length : Int)) = true := decide_eq_true c29
         clear c29
         by_cases c30 : 0 ≤ t379
         ·rw [if_pos c30] at H
          have c30b0 := eq_true c30
          have c30b1 : decide (0 ≤ t379) = true := decide_eq_true c30
          clear c30
          obtain ⟨ji31, hji31⟩ : ∃ j_ : Int, (shr .u16 65280 t379) = j_ := ⟨_, rfl⟩
          replace H : (impl_Cut.l0 k2 a1 (x5_2.set (x25_2 : Int).toNat (Go.bits .and .u8 (rd x5_2 x25_2) ((ji31) % 256))) (t376.length : Int) (wrap64 (x25_2 + 1))) = some (r1, r2, r3, r4, r5) := by first | (rw [hji31] at H; exact H) | (simp only [hji31] at H ⊢; exact H)
          (try rw [hji31] at A27)
          have hji31_ : (65280 / 2 ^ min t379.toNat 16) = ji31 := hji31
          have hji31z : t379 ≤ 16 → (65280 / 2 ^ t379.toNat) = ji31 := shr_small hji31
          obtain ⟨y381, hy381⟩ : ∃ y_ : List Int, y_ = (x5_2.set (x25_2 : Int).toNat (Go.bits .and .u8 (rd x5_2 x25_2) ((ji31) % 256))) := ⟨_, rfl⟩
          replace H : (impl_Cut.l0 k2 a1 y381 (t376.length : Int) (wrap64 (x25_2 + 1))) = some (r1, r2, r3, r4, r5) := by first | (rw [hy381]; with_reducible exact H) | (have H2_ := (Option.bind_some _ _).symm.trans H; rw [hy381]; with_reducible exact H2_) | (have H2_ := (Option.bind_some _ _).symm.trans H; with_reducible exact H2_) | with_reducible exact H | (rw [hy381]; exact H) | exact H
          have Ny381 := Gv.a0 hy381
          clear hy381
          have H' := Gv.a0 H
          clear H
          try go_wp2_with (first | ((with_reducible refine gate_callee (f := 59) rfl ?_); refine goesL_ (some 32) rfl rfl Try.func59 (by kernel_rfl) rfl #[.int .i64 (wrap64 (a1 - (wrap64 (8 * x25_2)))), .int .i64 0, .int .i64 8] rfl Gv.lm ?_; (with_reducible refine (impl_Clip.calls (wrap64 (a1 - (wrap64 (8 * x25_2)))) 0 8 t379 _ A27.out).mono ?_); rintro e w' ⟨rfl, ⟨nd, rfl⟩⟩; refine ⟨_, rfl, ?_⟩; (try (rw [drewN_self wr]; generalize hq_ : World.drewN wr _ = wr; have n0_ : Aside0 (Kd.R (Kd.int .u8) 5 wr w.heap.size (fun _ => True) (.slice Ao25 x5_2.length co25) x5_2) := ⟨by rw [← hq_]; exact (Gv.kr HO_5.out)⟩; have n1_ : Aside0 (wr.heap[gb371]? = some (.cells #[.int .i64 a0_0, .int .i64 a0_1, .int .i64 a0_2, .int .i64 a0_3, .int .i64 a0_4] 26 (0, 0))) := ⟨by rw [← hq_]; exact Gv.bk⟩; have n2_ : Aside0 (wr.heap[gb372]? = some (.cells #[.int .i64 0, .int .i64 0, .int .i64 0, .int .i64 0, .int .i64 0] 26 (0, 0))) := ⟨by rw [← hq_]; exact Gv.bk⟩; have n3_ : Aside0 (Below w.heap.size w wr) := ⟨by rw [← hq_]; exact Gv.bw⟩; clear HO_5 BK371 BK372 HB hq_; have HO_5 := n0_; have BK371 := n1_; have BK372 := n2_; have HB := n3_; clear n0_ n1_ n2_ n3_))))
          have n0_ := Gv.a0 (Kd.R_drew HO_5.out)
          have n1_ := Gv.a0 (blk_drew BK371.out)
          have n2_ := Gv.a0 (blk_drew BK372.out)
          have n3_ := Gv.a0 (below_drew1 HB.out)
          clear HO_5
          clear BK371
          clear BK372
          clear HB
          have HO_5 := n0_
          have BK371 := n1_
          have BK372 := n2_
          have HB := n3_
          clear n0_ n1_ n2_ n3_
          have p380 : 0 ≤ (x25_2 : Int) := of_decide_eq_true (by first | (with_reducible assumption) | assumption)
          have q380 : x25_2 < (x5_2.length : Int) := of_decide_eq_true (by first | (with_reducible assumption) | assumption)
          obtain ⟨ad380, e380, hx380_0⟩ := Kd.at_int (Kd.R_reads' HO_5.out).2.2 x25_2 p380 q380
          cases e380
          replace p380 := eq_true p380
          replace q380 := eq_true q380
          have p32 : 0 ≤ (x25_2 : Int) := of_decide_eq_true (by first | (with_reducible assumption) | assumption)
          have q32 : (x25_2 : Int) < ((x5_2.length : Int) : Int) := of_decide_eq_true (by first | (with_reducible assumption) | assumption)
          obtain ⟨go32, co32, eo32, gb32, gl32, cl32, HG32⟩ := Kd.R_form HO_5.out (by omega)
          (first | cases eo32 | (injection eo32 with ea_ en_ ec_; (first | subst ea_ | (injection ea_ with ea_; subst ea_)); subst ec_; clear en_))
          have GB32 := Gv.a0 gb32
          have GG32 := Gv.a0 HG32
          clear gb32 gl32 HG32
          (first | simp only [add_plain] at hx380_0 | skip)
          obtain ⟨hx32_0, hf32_0⟩ := Kd.R_celln 0 HO_5.out (x25_2 : Int) p32 q32
          replace p32 := eq_true p32
          replace q32 := eq_true q32
          have HP34 := Kd.R_putn HO_5.out (x25_2 : Int) (Go.bits .and .u8 (rd x5_2 x25_2) ((ji31) % 256))
          rw [← Ny381.out] at HP34
          have HQ34 := Gv.a0 HP34
          clear HP34
          refine start_ (n := 10) (S := fun w' => w'.cell? ⟨go32, (x25_2).toNat, none⟩ = some (.int .u8 (rd x5_2 x25_2))) (ds := [9]) #[false, false, false, false, false, false, false, false, false, false] (by kernel_rfl) rfl rfl (hx380_0) (fun hHeld => ?_); refine with_tabW impl_Cut.tab8 impl_Cut.bits8 (fun HT_ HW_ => ?_)
          generalize wr.drew = w33 at HO_5 BK371 BK372 HB GG32 HQ34 hf32_0 hx32_0 hx380_0 hHeld ⊢
          refine Gv.pu 0 (some 33) HT_ ?_
          refine Gv.pu 1 (some 34) HT_ ?_
          refine Gv.pu 2 (some 35) HT_ ?_
          refine Gv.pu 4 (some 37) HT_ ?_
          refine Gv.pu 5 (some 38) HT_ ?_
          refine Gv.pu 6 (some 39) HT_ ?_
          refine take_ (i := 3) (N := some 36) (v := ?_) (a' := ?_) #[true, true, true, true, true, true, true, false, false, false] rfl rfl (take_ofW HT_.out HW_.out (by kernel_rfl)) (fun _ _ _ h => h) (Or.inl ⟨by rfl, ?_⟩) hHeld ?_ ?_
          rotate_left
          ·intro w' s0
           go_simp
           with_reducible rfl
          rotate_left
          ·simp only [Act.put, List.setIfInBounds_toArray, List.set_cons_zero, List.set_cons_succ, i64_w, i32_w]
           rfl
          refine Gv.pu 7 (some 40) HT_ ?_
          refine Gv.pu 8 (some 41) HT_ ?_
          refine last_ (i := 9) (N := none) #[true, true, true, true, true, true, true, true, true, true] rfl rfl (one_of HT_.out (by kernel_rfl)) (by decide) (fun K hK => ?_)
          refine skip_ (w1 := ?_) (by rfl) rfl ?_ ?_
          rotate_left
          ·go_simp
           rfl
          refine hK.out _ _ ?_
          clear hK K
          refine done_ (done_of HT_.out (by kernel_rfl)) ?_
          try go_wp2
          (try simp only [← hl5_2])
          go_roundg k2
          case measure => have := HJ2.out; have := HK2.out; omega
          case rel => exact ⟨(y381), (wrap64 (x25_2 + 1)), Gv.rq, H', ⟨by have := HJ2.out; have := HK2.out; omega⟩, ⟨by (try simp only [hl5_2]); (with_reducible repeat (first | apply Kd.R_alloc | apply Kd.R_drewN | apply Kd.R_drew)); exact HQ34.out⟩, ⟨by (try simp only [hl5_2]); (with_reducible repeat (first | refine blk_drewN ?_ _ | refine blk_drew ?_ | refine blk_alloc ?_ _)); refine blk_far ?_ (by have h_ := Kd.R_ne HO_5.out BK371.out (by decide); intro e_; exact h_ (by rw [e_]; rfl)) _; (with_reducible repeat (first | refine blk_drewN ?_ _ | refine blk_drew ?_ | refine blk_alloc ?_ _)); exact BK371.out⟩, ⟨by (try simp only [hl5_2]); (with_reducible repeat (first | refine blk_drewN ?_ _ | refine blk_drew ?_ | refine blk_alloc ?_ _)); refine blk_far ?_ (by have h_ := Kd.R_ne HO_5.out BK372.out (by decide); intro e_; exact h_ (by rw [e_]; rfl)) _; (with_reducible repeat (first | refine blk_drewN ?_ _ | refine blk_drew ?_ | refine blk_alloc ?_ _)); exact BK372.out⟩, ⟨Gv.bw⟩⟩
         ·rw [if_neg c30] at H
          exact absurd H (by simp)
        ·rw [if_neg c29] at H
         exact absurd H (by simp)
       ·rw [if_neg c28] at H
        exact absurd H (by simp)
      ·rw [if_neg c26] at H
       have c26b0 : decide (x25_2 < (t376.length : Int)) = false := decide_eq_false c26
       (try (have c26b9 := c26b0; rw [hl5_2] at c26b9))
       (try (have c26b8 := c26b0; rw [← hl5_2] at c26b8))
       clear c26
       replace H := Option.bind_eq_some_iff.mp H
       obtain ⟨⟨t382, t383, t384, t385, t386, t387⟩, A350, H⟩ := H
       replace H : (some (t382, t383, t384, t385, t386)) = some (r1, r2, r3, r4, r5) := H
       have A35 := Gv.a0 A350
       clear A350
       simp only [Option.some.injEq, Prod.mk.injEq] at H
       obtain ⟨rfl, rfl, rfl, rfl, rfl⟩ := H
       go_wp2_with (first | ((with_reducible refine gate_callee (f := 87) rfl ?_); refine goesL_ (some 45) rfl rfl Try.func87 (by kernel_rfl) rfl #[.slice Ao25 x5_2.length co25] rfl Gv.lm ?_; (with_reducible refine (impl_AddrOf.calls k2 _ _ x5_2 t382 t383 t384 t385 t386 t387 _ ?side1 ?side2 A35.out).mono ?_); (case side1 => repeat (first | exact (Kd.R_reads' HO_5.out).2.2 | (with_reducible refine Kd.C_alloc ?_ _) | (with_reducible refine Kd.C_drewN ?_ _) | (with_reducible refine Kd.C_drew ?_))); (case side2 => exact (Kd.R_reads' HO_5.out).2.1); rintro e w36 ⟨rfl, hb⟩; refine ⟨_, rfl, ?_⟩; have n0_ := Gv.a0 (Kd.R_below (Gv.kr HO_5.out) hb); have n1_ := Gv.a0 (Gv.bb BK371.out hb); have n2_ := Gv.a0 (Gv.bb BK372.out hb); have n3_ := Gv.a0 (below_step Gv.bw hb); clear HO_5; clear BK371; clear BK372; clear HB; have HO_5 := n0_; have BK371 := n1_; have BK372 := n2_; have HB := n3_; clear n0_ n1_ n2_ n3_; (try clear hb); (try clear hb2); (try clear hk); (try clear hi)) | ((with_reducible refine gate_dst (N := 8) rfl ?_); refine box_event ?hg (N := 8) ?hd (cs := #[.int .i64 0, .int .i64 0, .int .i64 0, .int .i64 0, .int .i64 0]) (t := 26) ?hr ?_; (case hd => rfl); (case hg => rfl); (case hr => first | (go_simp; done) | (go_simp; rfl)); intro gb388 hg w37 hbox hb; have n0_ := Gv.a0 (Kd.R_below (Gv.kr HO_5.out) hb); have n1_ := Gv.a0 (Gv.bb BK371.out hb); have n2_ := Gv.a0 (Gv.bb BK372.out hb); have n3_ := Gv.a0 (below_step Gv.bw hb); have n4_ := Gv.a0 (hbox); have n5_ := Gv.a0 ((Gv.ble hg Gv.bw : w.heap.size ≤ gb388)); have n6_ := Gv.a0 ((Gv.ble hg Gv.bw : w.heap.size ≤ gb388)); have n7_ := Gv.a0 ((Gv.nlt hg (Gv.kb BK371.out) : gb371 ≠ gb388)); have n8_ := Gv.a0 ((Gv.ngt hg (Gv.kb BK371.out) : gb388 ≠ gb371)); have n9_ := Gv.a0 ((Gv.nlt hg (Gv.kb BK372.out) : gb372 ≠ gb388)); have n10_ := Gv.a0 ((Gv.ngt hg (Gv.kb BK372.out) : gb388 ≠ gb372)); clear HO_5; clear BK371; clear BK372; clear HB; have HO_5 := n0_; have BK371 := n1_; have BK372 := n2_; have HB := n3_; have BK388 := n4_; have GW388 := n5_; have GE388 := n6_; have NB371_388 := n7_; have NB388_371 := n8_; have NB372_388 := n9_; have NB388_372 := n10_; clear n0_ n1_ n2_ n3_ n4_ n5_ n6_ n7_ n8_ n9_ n10_; clear hb hbox hg; have hnb38 := NB388_371.out; have hnc38 := NB371_388.out; have hnb39 := NB388_372.out; have hnc39 := NB372_388.out; obtain ⟨hcz40_0, hcz40_1, hcz40_2, hcz40_3, hcz40_4⟩ := Gv.c5 BK388.out; obtain ⟨hfz40_0, hfz40_1, hfz40_2, hfz40_3, hfz40_4⟩ := Gv.f5 BK388.out; have hnb41 := NB372_371.out; have hnc41 := NB371_372.out; obtain ⟨hcz42_0, hcz42_1, hcz42_2, hcz42_3, hcz42_4⟩ := Gv.c5 BK372.out; obtain ⟨hfz42_0, hfz42_1, hfz42_2, hfz42_3, hfz42_4⟩ := Gv.f5 BK372.out))
       refine bodyPost_ret (results_cell_row rfl _ _ gb372 26 #[.int .i64 t382, .int .i64 t383, .int .i64 t384, .int .i64 t385, .int .i64 t386] (0, 0) _ rfl (by (with_reducible repeat (first | refine blk_drewN ?_ _ | refine blk_drew ?_ | refine blk_alloc ?_ _)); refine blk_put (cs := #[.int .i64 t382, .int .i64 t383, .int .i64 t384, .int .i64 t385, .int .i64 0]) ?_ 4 _ rfl; (with_reducible repeat (first | refine blk_drewN ?_ _ | refine blk_drew ?_ | refine blk_alloc ?_ _)); refine blk_put (cs := #[.int .i64 t382, .int .i64 t383, .int .i64 t384, .int .i64 0, .int .i64 0]) ?_ 3 _ rfl; (with_reducible repeat (first | refine blk_drewN ?_ _ | refine blk_drew ?_ | refine blk_alloc ?_ _)); refine blk_put (cs := #[.int .i64 t382, .int .i64 t383, .int .i64 0, .int .i64 0, .int .i64 0]) ?_ 2 _ rfl; (with_reducible repeat (first | refine blk_drewN ?_ _ | refine blk_drew ?_ | refine blk_alloc ?_ _)); refine blk_put (cs := #[.int .i64 t382, .int .i64 0, .int .i64 0, .int .i64 0, .int .i64 0]) ?_ 1 _ rfl; (with_reducible repeat (first | refine blk_drewN ?_ _ | refine blk_drew ?_ | refine blk_alloc ?_ _)); refine blk_put (cs := #[.int .i64 0, .int .i64 0, .int .i64 0, .int .i64 0, .int .i64 0]) ?_ 0 _ rfl; (with_reducible repeat (first | refine blk_drewN ?_ _ | refine blk_drew ?_ | refine blk_alloc ?_ _)); refine blk_far ?_ NB372_388.out _; (with_reducible repeat (first | refine blk_drewN ?_ _ | refine blk_drew ?_ | refine blk_alloc ?_ _)); refine blk_far ?_ NB372_388.out _; (with_reducible repeat (first | refine blk_drewN ?_ _ | refine blk_drew ?_ | refine blk_alloc ?_ _)); refine blk_far ?_ NB372_388.out _; (with_reducible repeat (first | refine blk_drewN ?_ _ | refine blk_drew ?_ | refine blk_alloc ?_ _)); refine blk_far ?_ NB372_388.out _; (with_reducible repeat (first | refine blk_drewN ?_ _ | refine blk_drew ?_ | refine blk_alloc ?_ _)); refine blk_far ?_ NB372_388.out _; (with_reducible repeat (first | refine blk_drewN ?_ _ | refine blk_drew ?_ | refine blk_alloc ?_ _)); exact BK372.out) Try.underlying26 rfl (by kernel_rfl)) rfl ?_
       exact ⟨Gv.rt, Gv.bw⟩

/-! ### impl_PrefixOk: function 43 -/
def impl_PrefixOk.f (k : Nat) (a0_0 : Int) (a0_1 : Int) (a0_2 : Int) (a0_3 : Int) (a0_4 : Int) (a0_5 : Int) : Option (Bool) := (impl_isAny.f a0_0 a0_1 a0_2 a0_3 a0_4 a0_5).bind fun t390 => (if t390 = true then (some true) else ((impl_AddrOk.f a0_0 a0_1 a0_2 a0_3 a0_4).bind fun t391 => (if t391 = true then ((impl_bitsOf.f a0_0 a0_1 a0_2 a0_3 a0_4).bind fun t392 => ((impl_within.f a0_5 0 t392).bind fun t393 => (if t393 = true then ((impl_Cut.f k a0_0 a0_1 a0_2 a0_3 a0_4 a0_5).bind fun bt394 => (some (bt394.1 == a0_0 && (bt394.2.1 == a0_1 && (bt394.2.2.1 == a0_2 && (bt394.2.2.2.1 == a0_3 && (bt394.2.2.2.2 == a0_4))))))) else (some false)))) else (some false))))
theorem impl_PrefixOk.mono : ∀ a0 a1 a2 a3 a4 a5 k, LeO (impl_PrefixOk.f k a0 a1 a2 a3 a4 a5) (impl_PrefixOk.f (k + 1) a0 a1 a2 a3 a4 a5) := by
 intro a0 a1 a2 a3 a4 a5 k
 unfold impl_PrefixOk.f
 repeat' first
   | (with_reducible exact impl_Cut.mono _ _ _ _ _ _ _)
   | (with_reducible exact LeO.refl _)
   | (with_reducible exact LeO.none _)
   | (with_reducible refine LeO.ite ?_ ?_)
   | (with_reducible refine LeO.bind ?_ (fun _ => ?_))
   | exact impl_Cut.mono _ _ _ _ _ _ _
   | exact LeO.none _
   | refine LeO.ite ?_ ?_
   | refine LeO.bind ?_ (fun _ => ?_)
def impl_PrefixOk.T1 : Bool × List (List Nat × List Nat) := (true, [([], []), ([0], [0]), ([1, 1], [1]), ([2], [2]), ([3, 2], [2, 3]), ([4, 2, 2], [2, 4]), ([5, 5, 2], [2, 5]), ([6], [6]), ([7, 6], [6, 7]), ([6], [6]), ([9, 6], [6, 9]), ([10, 6, 6], [6, 10]), ([8, 11, 11, 6], [6, 8, 11]), ([6, 12, 2], [2, 6, 12]), ([13, 12, 2], [2, 13]), ([14], [14]), ([15, 14], [14, 15]), ([14], [14]), ([17, 14], [14, 17]), ([16, 18, 14, 14], [14, 16, 18]), ([14], [14]), ([20, 14], [14, 20]), ([19, 21, 14], [14, 19, 21]), ([14, 22, 2], [2, 14, 22]), ([2, 23], [2, 23]), ([24, 19, 0, 1, 2, 3, 4, 5, 6, 7, 8, 9, 10, 11, 12, 13, 14, 15, 16, 17, 18, 19, 20, 21, 22, 23, 24], [24])])
def impl_PrefixOk.B1 : List Nat := [0, 1, 3, 7, 15, 31, 63, 127, 255, 127, 639, 1663, 4095, 8191, 16383, 32767, 65535, 32767, 163839, 524287, 32767, 1081343, 4194303, 8388607, 16777215, 33554431]
theorem impl_PrefixOk.tab1 : rtab .any (opsOf Try.f43 1) = impl_PrefixOk.T1 := by kernel_rfl
theorem impl_PrefixOk.bits1 : waitsOk impl_PrefixOk.T1.2 impl_PrefixOk.B1 = true := by kernel_rfl
set_option maxHeartbeats 8000000 in
set_option maxRecDepth 100000 in
theorem impl_PrefixOk.calls (k : Nat) (a0_0 : Int) (a0_1 : Int) (a0_2 : Int) (a0_3 : Int) (a0_4 : Int) (a0_5 : Int) (r : Bool) (w : World) (h : impl_PrefixOk.f k a0_0 a0_1 a0_2 a0_3 a0_4 a0_5 = some r) :
  Calls Try.prog 43 #[.agg #[.int .i64 a0_0, .int .i64 a0_1, .int .i64 a0_2, .int .i64 a0_3, .int .i64 a0_4, .int .i64 a0_5]] w fun e w' => e = .returned (.bool r) ∧ Below w.heap.size w w' := by
 have hu29 := Try.underlying29
 have hu26 := Try.underlying26
 have HB := Gv.a0 (Below.refl w.heap.size w)
 have H : ((impl_isAny.f a0_0 a0_1 a0_2 a0_3 a0_4 a0_5).bind fun t390 => (if t390 = true then (some true) else ((impl_AddrOk.f a0_0 a0_1 a0_2 a0_3 a0_4).bind fun t391 => (if t391 = true then ((impl_bitsOf.f a0_0 a0_1 a0_2 a0_3 a0_4).bind fun t392 => ((impl_within.f a0_5 0 t392).bind fun t393 => (if t393 = true then ((impl_Cut.f k a0_0 a0_1 a0_2 a0_3 a0_4 a0_5).bind fun bt394 => (some (bt394.1 == a0_0 && (bt394.2.1 == a0_1 && (bt394.2.2.1 == a0_2 && (bt394.2.2.2.1 == a0_3 && (bt394.2.2.2.2 == a0_4))))))) else (some false)))) else (some false))))) = some r := h
 clear h
 replace H := Option.bind_eq_some_iff.mp H
 obtain ⟨t390, A20, H⟩ := H
 replace H : (if t390 = true then (some true) else ((impl_AddrOk.f a0_0 a0_1 a0_2 a0_3 a0_4).bind fun t391 => (if t391 = true then ((impl_bitsOf.f a0_0 a0_1 a0_2 a0_3 a0_4).bind fun t392 => ((impl_within.f a0_5 0 t392).bind fun t393 => (if t393 = true then ((impl_Cut.f k a0_0 a0_1 a0_2 a0_3 a0_4 a0_5).bind fun bt394 => (some (bt394.1 == a0_0 && (bt394.2.1 == a0_1 && (bt394.2.2.1 == a0_2 && (bt394.2.2.2.1 == a0_3 && (bt394.2.2.2.2 == a0_4))))))) else (some false)))) else (some false)))) = some r := H
 have A2 := Gv.a0 A20
 clear A20
 by_cases c3 : t390 = true
 ·subst c3
  have H1 : (some true) = some r := by rw [if_pos rfl] at H; exact H
  clear H
  have H := H1
  clear H1
  obtain rfl := Option.some.inj H
  go_enter Try.func43, Try.ntmps43
  try go_wp2_with (first | ((with_reducible refine gate_dst (N := 1) rfl ?_); refine box_event ?hg (N := 1) ?hd (cs := #[.int .i64 a0_0, .int .i64 a0_1, .int .i64 a0_2, .int .i64 a0_3, .int .i64 a0_4, .int .i64 a0_5]) (t := 29) ?hr ?_; (case hd => rfl); (case hg => rfl); (case hr => first | (go_simp; done) | (go_simp; rfl)); intro gb389 hg w4 hbox hb; have n0_ := Gv.a0 (below_step Gv.bw hb); have n1_ := Gv.a0 (hbox); have n2_ := Gv.a0 ((Gv.ble hg Gv.bw : w.heap.size ≤ gb389)); have n3_ := Gv.a0 ((Gv.ble hg Gv.bw : w.heap.size ≤ gb389)); clear HB; have HB := n0_; have BK389 := n1_; have GW389 := n2_; have GE389 := n3_; clear n0_ n1_ n2_ n3_; clear hb hbox hg))
  have n0_ := Gv.a0 (blk_drew BK389.out)
  have n1_ := Gv.a0 (below_drew1 HB.out)
  clear BK389
  clear HB
  have BK389 := n0_
  have HB := n1_
  clear n0_ n1_
  refine start_ (n := 26) (S := fun w' => w'.cell? ⟨gb389, 0, none⟩ = some (.int .i64 a0_0) ∧ w'.cell? ⟨gb389, 1, none⟩ = some (.int .i64 a0_1) ∧ w'.cell? ⟨gb389, 2, none⟩ = some (.int .i64 a0_2) ∧ w'.cell? ⟨gb389, 3, none⟩ = some (.int .i64 a0_3) ∧ w'.cell? ⟨gb389, 4, none⟩ = some (.int .i64 a0_4) ∧ w'.cell? ⟨gb389, 5, none⟩ = some (.int .i64 a0_5)) (ds := []) #[false, false, false, false, false, false, false, false, false, false, false, false, false, false, false, false, false, false, false, false, false, false, false, false, false, false] (by kernel_rfl) rfl rfl ⟨(blk_cell BK389.out 0).trans rfl, (blk_cell BK389.out 1).trans rfl, (blk_cell BK389.out 2).trans rfl, (blk_cell BK389.out 3).trans rfl, (blk_cell BK389.out 4).trans rfl, (blk_cell BK389.out 5).trans rfl⟩ (fun hHeld => ?_); refine with_tabW impl_PrefixOk.tab1 impl_PrefixOk.bits1 (fun HT_ HW_ => ?_)
  generalize w4.drew = w5 at BK389 HB hHeld ⊢
  refine take_ (i := 0) (N := some 3) (v := ?_) (a' := ?_) #[true, false, false, false, false, false, false, false, false, false, false, false, false, false, false, false, false, false, false, false, false, false, false, false, false, false] rfl rfl (take_ofW HT_.out HW_.out (by kernel_rfl)) (fun _ _ _ h => h) (Or.inl ⟨by rfl, ?_⟩) hHeld ?_ ?_
  rotate_left
  ·rintro w' ⟨s0, s1, s2, s3, s4, s5⟩
   go_simp
   with_reducible rfl
  rotate_left
  ·simp only [Act.put, List.setIfInBounds_toArray, List.set_cons_zero, List.set_cons_succ, i64_w, i32_w]
   rfl
  refine one_ (i := 1) (N := some 4) #[true, true, false, false, false, false, false, false, false, false, false, false, false, false, false, false, false, false, false, false, false, false, false, false, false, false] rfl rfl (one_of HT_.out (by kernel_rfl)) (by decide) (fun K hK => ?_)
  refine goes_ Try.func66 (by kernel_rfl) rfl #[.agg #[.int .i64 a0_0, .int .i64 a0_1, .int .i64 a0_2, .int .i64 a0_3, .int .i64 a0_4, .int .i64 a0_5]] (by rfl) rfl rfl Gv.lm ?_
  with_reducible refine (impl_isAny.calls a0_0 a0_1 a0_2 a0_3 a0_4 a0_5 true _ A2.out).mono ?_
  rintro e w6 ⟨rfl, hb⟩
  refine ⟨_, rfl, ?_⟩
  have n0_ := Gv.a0 (Gv.bb BK389.out hb)
  have n1_ := Gv.a0 (below_step Gv.bw hb)
  clear BK389
  clear HB
  have BK389 := n0_
  have HB := n1_
  clear n0_ n1_
  (try clear hb)
  (try clear hb2)
  (try clear hk)
  (try clear hi)
  refine hK.out _ _ ⟨(blk_cell BK389.out 0).trans rfl, (blk_cell BK389.out 1).trans rfl, (blk_cell BK389.out 2).trans rfl, (blk_cell BK389.out 3).trans rfl, (blk_cell BK389.out 4).trans rfl, (blk_cell BK389.out 5).trans rfl⟩ (fun hHeld => ?_)
  clear hK K
  refine norm_ (a' := ?_) ?_ ?_
  rotate_left
  ·show Act.put _ (some 4) _ = _
   simp only [Act.put, List.setIfInBounds_toArray, List.set_cons_zero, List.set_cons_succ, i64_w, i32_w]
   rfl
  refine Gv.pu 2 (some 5) HT_ ?_
  refine Gv.pn 3 (some 6) HT_ ?_
  refine Gv.pn 4 (some 7) HT_ ?_
  refine Gv.pn 5 (some 8) HT_ ?_
  refine Gv.pn 6 (some 9) HT_ ?_
  refine Gv.pn 7 (some 10) HT_ ?_
  refine Gv.pn 8 (some 11) HT_ ?_
  refine Gv.pn 9 (some 12) HT_ ?_
  refine Gv.pn 10 (some 13) HT_ ?_
  refine Gv.pn 11 (some 14) HT_ ?_
  refine Gv.pn 12 (some 15) HT_ ?_
  refine Gv.pn 13 (some 16) HT_ ?_
  refine Gv.pn 14 (some 17) HT_ ?_
  refine Gv.pn 15 (some 18) HT_ ?_
  refine Gv.pn 16 (some 19) HT_ ?_
  refine Gv.pn 17 (some 20) HT_ ?_
  refine Gv.pn 18 (some 21) HT_ ?_
  refine Gv.pn 19 (some 22) HT_ ?_
  refine Gv.pn 20 (some 23) HT_ ?_
  refine Gv.pn 21 (some 24) HT_ ?_
  refine Gv.pn 22 (some 25) HT_ ?_
  refine Gv.pn 23 (some 26) HT_ ?_
  refine Gv.pu 24 (some 27) HT_ ?_
  refine Gv.pu 25 (some 2) HT_ ?_
  refine done_ (done_of HT_.out (by kernel_rfl)) ?_
  try go_wp2
  go_ret
  exact ⟨Gv.rt, Gv.bw⟩
 ·replace c3 := Bool.eq_false_iff.mpr c3
  subst c3
  have H1 : ((impl_AddrOk.f a0_0 a0_1 a0_2 a0_3 a0_4).bind fun t391 => (if t391 = true then ((impl_bitsOf.f a0_0 a0_1 a0_2 a0_3 a0_4).bind fun t392 => ((impl_within.f a0_5 0 t392).bind fun t393 => (if t393 = true then ((impl_Cut.f k a0_0 a0_1 a0_2 a0_3 a0_4 a0_5).bind fun bt394 => (some (bt394.1 == a0_0 && (bt394.2.1 == a0_1 && (bt394.2.2.1 == a0_2 && (bt394.2.2.2.1 == a0_3 && (bt394.2.2.2.2 == a0_4))))))) else (some false)))) else (some false))) = some r := by rw [if_neg (show ¬ (false = true) by decide)] at H; exact H
  clear H
  have H := H1
  clear H1
  replace H := Option.bind_eq_some_iff.mp H
  obtain ⟨t391, A70, H⟩ := H
  replace H : (if t391 = true then ((impl_bitsOf.f a0_0 a0_1 a0_2 a0_3 a0_4).bind fun t392 => ((impl_within.f a0_5 0 t392).bind fun t393 => (if t393 = true then ((impl_Cut.f k a0_0 a0_1 a0_2 a0_3 a0_4 a0_5).bind fun bt394 => (some (bt394.1 == a0_0 && (bt394.2.1 == a0_1 && (bt394.2.2.1 == a0_2 && (bt394.2.2.2.1 == a0_3 && (bt394.2.2.2.2 == a0_4))))))) else (some false)))) else (some false)) = some r := H
  have A7 := Gv.a0 A70
  clear A70
  by_cases c8 : t391 = true
  ·subst c8
   have H1 : ((impl_bitsOf.f a0_0 a0_1 a0_2 a0_3 a0_4).bind fun t392 => ((impl_within.f a0_5 0 t392).bind fun t393 => (if t393 = true then ((impl_Cut.f k a0_0 a0_1 a0_2 a0_3 a0_4 a0_5).bind fun bt394 => (some (bt394.1 == a0_0 && (bt394.2.1 == a0_1 && (bt394.2.2.1 == a0_2 && (bt394.2.2.2.1 == a0_3 && (bt394.2.2.2.2 == a0_4))))))) else (some false)))) = some r := by rw [if_pos rfl] at H; exact H
   clear H
   have H := H1
   clear H1
   replace H := Option.bind_eq_some_iff.mp H
   obtain ⟨t392, A90, H⟩ := H
   replace H : ((impl_within.f a0_5 0 t392).bind fun t393 => (if t393 = true then ((impl_Cut.f k a0_0 a0_1 a0_2 a0_3 a0_4 a0_5).bind fun bt394 => (some (bt394.1 == a0_0 && (bt394.2.1 == a0_1 && (bt394.2.2.1 == a0_2 && (bt394.2.2.2.1 == a0_3 && (bt394.2.2.2.2 == a0_4))))))) else (some false))) = some r := H
   have A9 := Gv.a0 A90
   clear A90
   replace H := Option.bind_eq_some_iff.mp H
   obtain ⟨t393, A100, H⟩ := H
   replace H : (if t393 = true then ((impl_Cut.f k a0_0 a0_1 a0_2 a0_3 a0_4 a0_5).bind fun bt394 => (some (bt394.1 == a0_0 && (bt394.2.1 == a0_1 && (bt394.2.2.1 == a0_2 && (bt394.2.2.2.1 == a0_3 && (bt394.2.2.2.2 == a0_4))))))) else (some false)) = some r := H
   have A10 := Gv.a0 A100
   clear A100
   by_cases c11 : t393 = true
   ·subst c11
    have H1 : ((impl_Cut.f k a0_0 a0_1 a0_2 a0_3 a0_4 a0_5).bind fun bt394 => (some (bt394.1 == a0_0 && (bt394.2.1 == a0_1 && (bt394.2.2.1 == a0_2 && (bt394.2.2.2.1 == a0_3 && (bt394.2.2.2.2 == a0_4))))))) = some r := by rw [if_pos rfl] at H; exact H
    clear H
    have H := H1
    clear H1
    replace H := Option.bind_eq_some_iff.mp H
    obtain ⟨⟨t394, t395, t396, t397, t398⟩, A120, H⟩ := H
    replace H : (some (t394 == a0_0 && (t395 == a0_1 && (t396 == a0_2 && (t397 == a0_3 && (t398 == a0_4)))))) = some r := H
    have A12 := Gv.a0 A120
    clear A120
    obtain rfl := Option.some.inj H
    go_enter Try.func43, Try.ntmps43
    try go_wp2_with (first | ((with_reducible refine gate_dst (N := 1) rfl ?_); refine box_event ?hg (N := 1) ?hd (cs := #[.int .i64 a0_0, .int .i64 a0_1, .int .i64 a0_2, .int .i64 a0_3, .int .i64 a0_4, .int .i64 a0_5]) (t := 29) ?hr ?_; (case hd => rfl); (case hg => rfl); (case hr => first | (go_simp; done) | (go_simp; rfl)); intro gb389 hg w13 hbox hb; have n0_ := Gv.a0 (below_step Gv.bw hb); have n1_ := Gv.a0 (hbox); have n2_ := Gv.a0 ((Gv.ble hg Gv.bw : w.heap.size ≤ gb389)); have n3_ := Gv.a0 ((Gv.ble hg Gv.bw : w.heap.size ≤ gb389)); clear HB; have HB := n0_; have BK389 := n1_; have GW389 := n2_; have GE389 := n3_; clear n0_ n1_ n2_ n3_; clear hb hbox hg))
    have n0_ := Gv.a0 (blk_drew BK389.out)
    have n1_ := Gv.a0 (below_drew1 HB.out)
    clear BK389
    clear HB
    have BK389 := n0_
    have HB := n1_
    clear n0_ n1_
    refine start_ (n := 26) (S := fun w' => w'.cell? ⟨gb389, 0, none⟩ = some (.int .i64 a0_0) ∧ w'.cell? ⟨gb389, 1, none⟩ = some (.int .i64 a0_1) ∧ w'.cell? ⟨gb389, 2, none⟩ = some (.int .i64 a0_2) ∧ w'.cell? ⟨gb389, 3, none⟩ = some (.int .i64 a0_3) ∧ w'.cell? ⟨gb389, 4, none⟩ = some (.int .i64 a0_4) ∧ w'.cell? ⟨gb389, 5, none⟩ = some (.int .i64 a0_5)) (ds := []) #[false, false, false, false, false, false, false, false, false, false, false, false, false, false, false, false, false, false, false, false, false, false, false, false, false, false] (by kernel_rfl) rfl rfl ⟨(blk_cell BK389.out 0).trans rfl, (blk_cell BK389.out 1).trans rfl, (blk_cell BK389.out 2).trans rfl, (blk_cell BK389.out 3).trans rfl, (blk_cell BK389.out 4).trans rfl, (blk_cell BK389.out 5).trans rfl⟩ (fun hHeld => ?_); refine with_tabW impl_PrefixOk.tab1 impl_PrefixOk.bits1 (fun HT_ HW_ => ?_)
    generalize w13.drew = w14 at BK389 HB hHeld ⊢
    refine take_ (i := 0) (N := some 3) (v := ?_) (a' := ?_) #[true, false, false, false, false, false, false, false, false, false, false, false, false, false, false, false, false, false, false, false, false, false, false, false, false, false] rfl rfl (take_ofW HT_.out HW_.out (by kernel_rfl)) (fun _ _ _ h => h) (Or.inl ⟨by rfl, ?_⟩) hHeld ?_ ?_
    rotate_left
    ·rintro w' ⟨s0, s1, s2, s3, s4, s5⟩
     go_simp
     with_reducible rfl
    rotate_left
    ·simp only [Act.put, List.setIfInBounds_toArray, List.set_cons_zero, List.set_cons_succ, i64_w, i32_w]
     rfl
    refine one_ (i := 1) (N := some 4) #[true, true, false, false, false, false, false, false, false, false, false, false, false, false, false, false, false, false, false, false, false, false, false, false, false, false] rfl rfl (one_of HT_.out (by kernel_rfl)) (by decide) (fun K hK => ?_)
    refine goes_ Try.func66 (by kernel_rfl) rfl #[.agg #[.int .i64 a0_0, .int .i64 a0_1, .int .i64 a0_2, .int .i64 a0_3, .int .i64 a0_4, .int .i64 a0_5]] (by rfl) rfl rfl Gv.lm ?_
    with_reducible refine (impl_isAny.calls a0_0 a0_1 a0_2 a0_3 a0_4 a0_5 false _ A2.out).mono ?_
    rintro e w15 ⟨rfl, hb⟩
    refine ⟨_, rfl, ?_⟩
    have n0_ := Gv.a0 (Gv.bb BK389.out hb)
    have n1_ := Gv.a0 (below_step Gv.bw hb)
    clear BK389
    clear HB
    have BK389 := n0_
    have HB := n1_
    clear n0_ n1_
    (try clear hb)
    (try clear hb2)
    (try clear hk)
    (try clear hi)
    refine hK.out _ _ ⟨(blk_cell BK389.out 0).trans rfl, (blk_cell BK389.out 1).trans rfl, (blk_cell BK389.out 2).trans rfl, (blk_cell BK389.out 3).trans rfl, (blk_cell BK389.out 4).trans rfl, (blk_cell BK389.out 5).trans rfl⟩ (fun hHeld => ?_)
    clear hK K
    refine norm_ (a' := ?_) ?_ ?_
    rotate_left
    ·show Act.put _ (some 4) _ = _
     simp only [Act.put, List.setIfInBounds_toArray, List.set_cons_zero, List.set_cons_succ, i64_w, i32_w]
     rfl
    refine Gv.pu 2 (some 5) HT_ ?_
    refine Gv.pu 3 (some 6) HT_ ?_
    refine take_ (i := 4) (N := some 7) (v := ?_) (a' := ?_) #[true, true, true, true, true, false, false, false, false, false, false, false, false, false, false, false, false, false, false, false, false, false, false, false, false, false] rfl rfl (take_ofW HT_.out HW_.out (by kernel_rfl)) (fun _ _ _ h => h) (Or.inl ⟨by rfl, ?_⟩) hHeld ?_ ?_
    rotate_left
    ·rintro w' ⟨s0, s1, s2, s3, s4, s5⟩
     go_simp
     with_reducible rfl
    rotate_left
    ·simp only [Act.put, List.setIfInBounds_toArray, List.set_cons_zero, List.set_cons_succ, i64_w, i32_w]
     rfl
    refine one_ (i := 5) (N := some 8) #[true, true, true, true, true, true, false, false, false, false, false, false, false, false, false, false, false, false, false, false, false, false, false, false, false, false] rfl rfl (one_of HT_.out (by kernel_rfl)) (by decide) (fun K hK => ?_)
    refine goes_ Try.func67 (by kernel_rfl) rfl #[.agg #[.int .i64 a0_0, .int .i64 a0_1, .int .i64 a0_2, .int .i64 a0_3, .int .i64 a0_4]] (by rfl) rfl rfl Gv.lm ?_
    with_reducible refine (impl_AddrOk.calls a0_0 a0_1 a0_2 a0_3 a0_4 true _ A7.out).mono ?_
    rintro e w16 ⟨rfl, hb⟩
    refine ⟨_, rfl, ?_⟩
    have n0_ := Gv.a0 (Gv.bb BK389.out hb)
    have n1_ := Gv.a0 (below_step Gv.bw hb)
    clear BK389
    clear HB
    have BK389 := n0_
    have HB := n1_
    clear n0_ n1_
    (try clear hb)
    (try clear hb2)
    (try clear hk)
    (try clear hi)
    refine hK.out _ _ ⟨(blk_cell BK389.out 0).trans rfl, (blk_cell BK389.out 1).trans rfl, (blk_cell BK389.out 2).trans rfl, (blk_cell BK389.out 3).trans rfl, (blk_cell BK389.out 4).trans rfl, (blk_cell BK389.out 5).trans rfl⟩ (fun hHeld => ?_)
    clear hK K
    refine norm_ (a' := ?_) ?_ ?_
    rotate_left
    ·show Act.put _ (some 8) _ = _
     simp only [Act.put, List.setIfInBounds_toArray, List.set_cons_zero, List.set_cons_succ, i64_w, i32_w]
     rfl
    refine Gv.pu 6 (some 9) HT_ ?_
    refine Gv.pu 7 (some 10) HT_ ?_
    refine Gv.pu 9 (some 12) HT_ ?_
    refine take_ (i := 8) (N := some 11) (v := ?_) (a' := ?_) #[true, true, true, true, true, true, true, true, true, true, false, false, false, false, false, false, false, false, false, false, false, false, false, false, false, false] rfl rfl (take_ofW HT_.out HW_.out (by kernel_rfl)) (fun _ _ _ h => h) (Or.inl ⟨by rfl, ?_⟩) hHeld ?_ ?_
    rotate_left
    ·rintro w' ⟨s0, s1, s2, s3, s4, s5⟩
     go_simp
     with_reducible rfl
    rotate_left
    ·simp only [Act.put, List.setIfInBounds_toArray, List.set_cons_zero, List.set_cons_succ, i64_w, i32_w]
     rfl
    refine take_ (i := 10) (N := some 13) (v := ?_) (a' := ?_) #[true, true, true, true, true, true, true, true, true, true, true, false, false, false, false, false, false, false, false, false, false, false, false, false, false, false] rfl rfl (take_ofW HT_.out HW_.out (by kernel_rfl)) (fun _ _ _ h => h) (Or.inl ⟨by rfl, ?_⟩) hHeld ?_ ?_
    rotate_left
    ·rintro w' ⟨s0, s1, s2, s3, s4, s5⟩
     go_simp
     with_reducible rfl
    rotate_left
    ·simp only [Act.put, List.setIfInBounds_toArray, List.set_cons_zero, List.set_cons_succ, i64_w, i32_w]
     rfl
    refine one_ (i := 11) (N := some 14) #[true, true, true, true, true, true, true, true, true, true, true, true, false, false, false, false, false, false, false, false, false, false, false, false, false, false] rfl rfl (one_of HT_.out (by kernel_rfl)) (by decide) (fun K hK => ?_)
    refine goes_ Try.func70 (by kernel_rfl) rfl #[.agg #[.int .i64 a0_0, .int .i64 a0_1, .int .i64 a0_2, .int .i64 a0_3, .int .i64 a0_4]] (by rfl) rfl rfl Gv.lm ?_
    with_reducible refine (impl_bitsOf.calls a0_0 a0_1 a0_2 a0_3 a0_4 t392 _ A9.out).mono ?_
    rintro e w17 ⟨rfl, hb⟩
    refine ⟨_, rfl, ?_⟩
    have n0_ := Gv.a0 (Gv.bb BK389.out hb)
    have n1_ := Gv.a0 (below_step Gv.bw hb)
    clear BK389
    clear HB
    have BK389 := n0_
    have HB := n1_
    clear n0_ n1_
    (try clear hb)
    (try clear hb2)
    (try clear hk)
    (try clear hi)
    refine hK.out _ _ ⟨(blk_cell BK389.out 0).trans rfl, (blk_cell BK389.out 1).trans rfl, (blk_cell BK389.out 2).trans rfl, (blk_cell BK389.out 3).trans rfl, (blk_cell BK389.out 4).trans rfl, (blk_cell BK389.out 5).trans rfl⟩ (fun hHeld => ?_)
    clear hK K
    refine norm_ (a' := ?_) ?_ ?_
    rotate_left
    ·show Act.put _ (some 14) _ = _
     simp only [Act.put, List.setIfInBounds_toArray, List.set_cons_zero, List.set_cons_succ, i64_w, i32_w]
     rfl
    refine one_ (i := 12) (N := some 15) #[true, true, true, true, true, true, true, true, true, true, true, true, true, false, false, false, false, false, false, false, false, false, false, false, false, false] rfl rfl (one_of HT_.out (by kernel_rfl)) (by decide) (fun K hK => ?_)
    refine goes_ Try.func44 (by kernel_rfl) rfl #[.int .i64 a0_5, .int .i64 0, .int .i64 t392] (by rfl) rfl rfl Gv.lm ?_
    with_reducible refine (impl_within.calls a0_5 0 t392 true _ A10.out).mono ?_
    rintro e w' ⟨rfl, ⟨nd, rfl⟩⟩
    refine ⟨_, rfl, ?_⟩
    refine hK.out _ _ ⟨(blk_cell BK389.out 0).trans rfl, (blk_cell BK389.out 1).trans rfl, (blk_cell BK389.out 2).trans rfl, (blk_cell BK389.out 3).trans rfl, (blk_cell BK389.out 4).trans rfl, (blk_cell BK389.out 5).trans rfl⟩ (fun hHeld => ?_)
    clear hK K
    refine norm_ (a' := ?_) ?_ ?_
    rotate_left
    ·show Act.put _ (some 15) _ = _
     simp only [Act.put, List.setIfInBounds_toArray, List.set_cons_zero, List.set_cons_succ, i64_w, i32_w]
     rfl
    refine Gv.pu 13 (some 16) HT_ ?_
    refine Gv.pu 14 (some 17) HT_ ?_
    refine Gv.pu 15 (some 18) HT_ ?_
    refine Gv.pu 17 (some 20) HT_ ?_
    refine Gv.pu 20 (some 23) HT_ ?_
    refine take_ (i := 16) (N := some 19) (v := ?_) (a' := ?_) #[true, true, true, true, true, true, true, true, true, true, true, true, true, true, true, true, true, true, false, false, true, false, false, false, false, false] rfl rfl (take_ofW HT_.out HW_.out (by kernel_rfl)) (fun _ _ _ h => h) (Or.inl ⟨by rfl, ?_⟩) hHeld ?_ ?_
    rotate_left
    ·rintro w' ⟨s0, s1, s2, s3, s4, s5⟩
     go_simp
     with_reducible rfl
    rotate_left
    ·simp only [Act.put, List.setIfInBounds_toArray, List.set_cons_zero, List.set_cons_succ, i64_w, i32_w]
     rfl
    refine take_ (i := 18) (N := some 21) (v := ?_) (a' := ?_) #[true, true, true, true, true, true, true, true, true, true, true, true, true, true, true, true, true, true, true, false, true, false, false, false, false, false] rfl rfl (take_ofW HT_.out HW_.out (by kernel_rfl)) (fun _ _ _ h => h) (Or.inl ⟨by rfl, ?_⟩) hHeld ?_ ?_
    rotate_left
    ·rintro w' ⟨s0, s1, s2, s3, s4, s5⟩
     go_simp
     with_reducible rfl
    rotate_left
    ·simp only [Act.put, List.setIfInBounds_toArray, List.set_cons_zero, List.set_cons_succ, i64_w, i32_w]
     rfl
    refine take_ (i := 21) (N := some 24) (v := ?_) (a' := ?_) #[true, true, true, true, true, true, true, true, true, true, true, true, true, true, true, true, true, true, true, false, true, true, false, false, false, false] rfl rfl (take_ofW HT_.out HW_.out (by kernel_rfl)) (fun _ _ _ h => h) (Or.inl ⟨by rfl, ?_⟩) hHeld ?_ ?_
    rotate_left
    ·rintro w' ⟨s0, s1, s2, s3, s4, s5⟩
     go_simp
     with_reducible rfl
    rotate_left
    ·simp only [Act.put, List.setIfInBounds_toArray, List.set_cons_zero, List.set_cons_succ, i64_w, i32_w]
     rfl
    refine one_ (i := 19) (N := some 22) #[true, true, true, true, true, true, true, true, true, true, true, true, true, true, true, true, true, true, true, true, true, true, false, false, false, false] rfl rfl (one_of HT_.out (by kernel_rfl)) (by decide) (fun K hK => ?_)
    refine goes_ Try.func69 (by kernel_rfl) rfl #[.agg #[.int .i64 a0_0, .int .i64 a0_1, .int .i64 a0_2, .int .i64 a0_3, .int .i64 a0_4], .int .i64 a0_5] (by rfl) rfl rfl Gv.lm ?_
    with_reducible refine (impl_Cut.calls k a0_0 a0_1 a0_2 a0_3 a0_4 a0_5 t394 t395 t396 t397 t398 _ A12.out).mono ?_
    rintro e w18 ⟨rfl, hb⟩
    refine ⟨_, rfl, ?_⟩
    have n0_ := Gv.a0 (Gv.bb BK389.out hb)
    have n1_ := Gv.a0 (below_step Gv.bw hb)
    clear BK389
    clear HB
    have BK389 := n0_
    have HB := n1_
    clear n0_ n1_
    (try clear hb)
    (try clear hb2)
    (try clear hk)
    (try clear hi)
    refine hK.out _ _ ⟨(blk_cell BK389.out 0).trans rfl, (blk_cell BK389.out 1).trans rfl, (blk_cell BK389.out 2).trans rfl, (blk_cell BK389.out 3).trans rfl, (blk_cell BK389.out 4).trans rfl, (blk_cell BK389.out 5).trans rfl⟩ (fun hHeld => ?_)
    clear hK K
    refine norm_ (a' := ?_) ?_ ?_
    rotate_left
    ·show Act.put _ (some 22) _ = _
     simp only [Act.put, List.setIfInBounds_toArray, List.set_cons_zero, List.set_cons_succ, i64_w, i32_w]
     rfl
    refine Gv.pu 22 (some 25) HT_ ?_
    refine Gv.pu 23 (some 26) HT_ ?_
    refine Gv.pu 24 (some 27) HT_ ?_
    refine Gv.pu 25 (some 2) HT_ ?_
    refine done_ (done_of HT_.out (by kernel_rfl)) ?_
    try go_wp2
    go_ret
    exact ⟨Gv.rt, Gv.bw⟩
   ·replace c11 := Bool.eq_false_iff.mpr c11
    subst c11
    have H1 : (some false) = some r := by rw [if_neg (show ¬ (false = true) by decide)] at H; exact H
    clear H
    have H := H1
    clear H1
    obtain rfl := Option.some.inj H
    go_enter Try.func43, Try.ntmps43
    try go_wp2_with (first | ((with_reducible refine gate_dst (N := 1) rfl ?_); refine box_event ?hg (N := 1) ?hd (cs := #[.int .i64 a0_0, .int .i64 a0_1, .int .i64 a0_2, .int .i64 a0_3, .int .i64 a0_4, .int .i64 a0_5]) (t := 29) ?hr ?_; (case hd => rfl); (case hg => rfl); (case hr => first | (go_simp; done) | (go_simp; rfl)); intro gb389 hg w19 hbox hb; have n0_ := Gv.a0 (below_step Gv.bw hb); have n1_ := Gv.a0 (hbox); have n2_ := Gv.a0 ((Gv.ble hg Gv.bw : w.heap.size ≤ gb389)); have n3_ := Gv.a0 ((Gv.ble hg Gv.bw : w.heap.size ≤ gb389)); clear HB; have HB := n0_; have BK389 := n1_; have GW389 := n2_; have GE389 := n3_; clear n0_ n1_ n2_ n3_; clear hb hbox hg))
    have n0_ := Gv.a0 (blk_drew BK389.out)
    have n1_ := Gv.a0 (below_drew1 HB.out)
    clear BK389
    clear HB
    have BK389 := n0_
    have HB := n1_
    clear n0_ n1_
    refine start_ (n := 26) (S := fun w' => w'.cell? ⟨gb389, 0, none⟩ = some (.int .i64 a0_0) ∧ w'.cell? ⟨gb389, 1, none⟩ = some (.int .i64 a0_1) ∧ w'.cell? ⟨gb389, 2, none⟩ = some (.int .i64 a0_2) ∧ w'.cell? ⟨gb389, 3, none⟩ = some (.int .i64 a0_3) ∧ w'.cell? ⟨gb389, 4, none⟩ = some (.int .i64 a0_4) ∧ w'.cell? ⟨gb389, 5, none⟩ = some (.int .i64 a0_5)) (ds := []) #[false, false, false, false, false, false, false, false, false, false, false, false, false, false, false, false, false, false, false, false, false, false, false, false, false, false] (by kernel_rfl) rfl rfl ⟨(blk_cell BK389.out 0).trans rfl, (blk_cell BK389.out 1).trans rfl, (blk_cell BK389.out 2).trans rfl, (blk_cell BK389.out 3).trans rfl, (blk_cell BK389.out 4).trans rfl, (blk_cell BK389.out 5).trans rfl⟩ (fun hHeld => ?_); refine with_tabW impl_PrefixOk.tab1 impl_PrefixOk.bits1 (fun HT_ HW_ => ?_)
    generalize w19.drew = w20 at BK389 HB hHeld ⊢
    refine take_ (i := 0) (N := some 3) (v := ?_) (a' := ?_) #[true, false, false, false, false, false, false, false, false, false, false, false, false, false, false, false, false, false, false, false, false, false, false, false, false, false] rfl rfl (take_ofW HT_.out HW_.out (by kernel_rfl)) (fun _ _ _ h => h) (Or.inl ⟨by rfl, ?_⟩) hHeld ?_ ?_
    rotate_left
    ·rintro w' ⟨s0, s1, s2, s3, s4, s5⟩
     go_simp
     with_reducible rfl
    rotate_left
    ·simp only [Act.put, List.setIfInBounds_toArray, List.set_cons_zero, List.set_cons_succ, i64_w, i32_w]
     rfl
    refine one_ (i := 1) (N := some 4) #[true, true, false, false, false, false, false, false, false, false, false, false, false, false, false, false, false, false, false, false, false, false, false, false, false, false] rfl rfl (one_of HT_.out (by kernel_rfl)) (by decide) (fun K hK => ?_)
    refine goes_ Try.func66 (by kernel_rfl) rfl #[.agg #[.int .i64 a0_0, .int .i64 a0_1, .int .i64 a0_2, .int .i64 a0_3, .int .i64 a0_4, .int .i64 a0_5]] (by rfl) rfl rfl Gv.lm ?_
    with_reducible refine (impl_isAny.calls a0_0 a0_1 a0_2 a0_3 a0_4 a0_5 false _ A2.out).mono ?_
    rintro e w21 ⟨rfl, hb⟩
    refine ⟨_, rfl, ?_⟩
    have n0_ := Gv.a0 (Gv.bb BK389.out hb)
    have n1_ := Gv.a0 (below_step Gv.bw hb)
    clear BK389
    clear HB
    have BK389 := n0_
    have HB := n1_
    clear n0_ n1_
    (try clear hb)
    (try clear hb2)
    (try clear hk)
    (try clear hi)
    refine hK.out _ _ ⟨(blk_cell BK389.out 0).trans rfl, (blk_cell BK389.out 1).trans rfl, (blk_cell BK389.out 2).trans rfl, (blk_cell BK389.out 3).trans rfl, (blk_cell BK389.out 4).trans rfl, (blk_cell BK389.out 5).trans rfl⟩ (fun hHeld => ?_)
    clear hK K
    refine norm_ (a' := ?_) ?_ ?_
    rotate_left
    ·show Act.put _ (some 4) _ = _
     simp only [Act.put, List.setIfInBounds_toArray, List.set_cons_zero, List.set_cons_succ, i64_w, i32_w]
     rfl
    refine Gv.pu 2 (some 5) HT_ ?_
    refine Gv.pu 3 (some 6) HT_ ?_
    refine take_ (i := 4) (N := some 7) (v := ?_) (a' := ?_) #[true, true, true, true, true, false, false, false, false, false, false, false, false, false, false, false, false, false, false, false, false, false, false, false, false, false] rfl rfl (take_ofW HT_.out HW_.out (by kernel_rfl)) (fun _ _ _ h => h) (Or.inl ⟨by rfl, ?_⟩) hHeld ?_ ?_
    rotate_left
    ·rintro w' ⟨s0, s1, s2, s3, s4, s5⟩
     go_simp
     with_reducible rfl
    rotate_left
    ·simp only [Act.put, List.setIfInBounds_toArray, List.set_cons_zero, List.set_cons_succ, i64_w, i32_w]
     rfl
    refine one_ (i := 5) (N := some 8) #[true, true, true, true, true, true, false, false, false, false, false, false, false, false, false, false, false, false, false, false, false, false, false, false, false, false] rfl rfl (one_of HT_.out (by kernel_rfl)) (by decide) (fun K hK => ?_)
    refine goes_ Try.func67 (by kernel_rfl) rfl #[.agg #[.int .i64 a0_0, .int .i64 a0_1, .int .i64 a0_2, .int .i64 a0_3, .int .i64 a0_4]] (by rfl) rfl rfl Gv.lm ?_
    with_reducible refine (impl_AddrOk.calls a0_0 a0_1 a0_2 a0_3 a0_4 true _ A7.out).mono ?_
    rintro e w22 ⟨rfl, hb⟩
    refine ⟨_, rfl, ?_⟩
    have n0_ := Gv.a0 (Gv.bb BK389.out hb)
    have n1_ := Gv.a0 (below_step Gv.bw hb)
    clear BK389
    clear HB
    have BK389 := n0_
    have HB := n1_
    clear n0_ n1_
    (try clear hb)
    (try clear hb2)
    (try clear hk)
    (try clear hi)
    refine hK.out _ _ ⟨(blk_cell BK389.out 0).trans rfl, (blk_cell BK389.out 1).trans rfl, (blk_cell BK389.out 2).trans rfl, (blk_cell BK389.out 3).trans rfl, (blk_cell BK389.out 4).trans rfl, (blk_cell BK389.out 5).trans rfl⟩ (fun hHeld => ?_)
    clear hK K
    refine norm_ (a' := ?_) ?_ ?_
    rotate_left
    ·show Act.put _ (some 8) _ = _
     simp only [Act.put, List.setIfInBounds_toArray, List.set_cons_zero, List.set_cons_succ, i64_w, i32_w]
     rfl
    refine Gv.pu 6 (some 9) HT_ ?_
    refine Gv.pu 7 (some 10) HT_ ?_
    refine Gv.pu 9 (some 12) HT_ ?_
    refine take_ (i := 8) (N := some 11) (v := ?_) (a' := ?_) #[true, true, true, true, true, true, true, true, true, true, false, false, false, false, false, false, false, false, false, false, false, false, false, false, false, false] rfl rfl (take_ofW HT_.out HW_.out (by kernel_rfl)) (fun _ _ _ h => h) (Or.inl ⟨by rfl, ?_⟩) hHeld ?_ ?_
    rotate_left
    ·rintro w' ⟨s0, s1, s2, s3, s4, s5⟩
     go_simp
     with_reducible rfl
    rotate_left
    ·simp only [Act.put, List.setIfInBounds_toArray, List.set_cons_zero, List.set_cons_succ, i64_w, i32_w]
     rfl
    refine take_ (i := 10) (N := some 13) (v := ?_) (a' := ?_) #[true, true, true, true, true, true, true, true, true, true, true, false, false, false, false, false, false, false, false, false, false, false, false, false, false, false] rfl rfl (take_ofW HT_.out HW_.out (by kernel_rfl)) (fun _ _ _ h => h) (Or.inl ⟨by rfl, ?_⟩) hHeld ?_ ?_
    rotate_left
    ·rintro w' ⟨s0, s1, s2, s3, s4, s5⟩
     go_simp
     with_reducible rfl
    rotate_left
    ·simp only [Act.put, List.setIfInBounds_toArray, List.set_cons_zero, List.set_cons_succ, i64_w, i32_w]
     rfl
    refine one_ (i := 11) (N := some 14) #[true, true, true, true, true, true, true, true, true, true, true, true, false, false, false, false, false, false, false, false, false, false, false, false, false, false] rfl rfl (one_of HT_.out (by kernel_rfl)) (by decide) (fun K hK => ?_)
    refine goes_ Try.func70 (by kernel_rfl) rfl #[.agg #[.int .i64 a0_0, .int .i64 a0_1, .int .i64 a0_2, .int .i64 a0_3, .int .i64 a0_4]] (by rfl) rfl rfl Gv.lm ?_
    with_reducible refine (impl_bitsOf.calls a0_0 a0_1 a0_2 a0_3 a0_4 t392 _ A9.out).mono ?_
    rintro e w23 ⟨rfl, hb⟩
    refine ⟨_, rfl, ?_⟩
    have n0_ := Gv.a0 (Gv.bb BK389.out hb)
    have n1_ := Gv.a0 (below_step Gv.bw hb)
    clear BK389
    clear HB
    have BK389 := n0_
    have HB := n1_
    clear n0_ n1_
    (try clear hb)
    (try clear hb2)
    (try clear hk)
    (try clear hi)
    refine hK.out _ _ ⟨(blk_cell BK389.out 0).trans rfl, (blk_cell BK389.out 1).trans rfl, (blk_cell BK389.out 2).trans rfl, (blk_cell BK389.out 3).trans rfl, (blk_cell BK389.out 4).trans rfl, (blk_cell BK389.out 5).trans rfl⟩ (fun hHeld => ?_)
    clear hK K
    refine norm_ (a' := ?_) ?_ ?_
    rotate_left
    ·show Act.put _ (some 14) _ = _
     simp only [Act.put, List.setIfInBounds_toArray, List.set_cons_zero, List.set_cons_succ, i64_w, i32_w]
     rfl
    refine one_ (i := 12) (N := some 15) #[true, true, true, true, true, true, true, true, true, true, true, true, true, false, false, false, false, false, false, false, false, false, false, false, false, false] rfl rfl (one_of HT_.out (by kernel_rfl)) (by decide) (fun K hK => ?_)
    refine goes_ Try.func44 (by kernel_rfl) rfl #[.int .i64 a0_5, .int .i64 0, .int .i64 t392] (by rfl) rfl rfl Gv.lm ?_
    with_reducible refine (impl_within.calls a0_5 0 t392 false _ A10.out).mono ?_
    rintro e w' ⟨rfl, ⟨nd, rfl⟩⟩
    refine ⟨_, rfl, ?_⟩
    refine hK.out _ _ ⟨(blk_cell BK389.out 0).trans rfl, (blk_cell BK389.out 1).trans rfl, (blk_cell BK389.out 2).trans rfl, (blk_cell BK389.out 3).trans rfl, (blk_cell BK389.out 4).trans rfl, (blk_cell BK389.out 5).trans rfl⟩ (fun hHeld => ?_)
    clear hK K
    refine norm_ (a' := ?_) ?_ ?_
    rotate_left
    ·show Act.put _ (some 15) _ = _
     simp only [Act.put, List.setIfInBounds_toArray, List.set_cons_zero, List.set_cons_succ, i64_w, i32_w]
     rfl
    refine Gv.pu 13 (some 16) HT_ ?_
    refine Gv.pu 14 (some 17) HT_ ?_
    refine Gv.pn 15 (some 18) HT_ ?_
    refine Gv.pn 16 (some 19) HT_ ?_
    refine Gv.pn 17 (some 20) HT_ ?_
    refine Gv.pn 18 (some 21) HT_ ?_
    refine Gv.pn 19 (some 22) HT_ ?_
    refine Gv.pn 20 (some 23) HT_ ?_
    refine Gv.pn 21 (some 24) HT_ ?_
    refine Gv.pn 22 (some 25) HT_ ?_
    refine Gv.pu 23 (some 26) HT_ ?_
    refine Gv.pu 24 (some 27) HT_ ?_
    refine Gv.pu 25 (some 2) HT_ ?_
    refine done_ (done_of HT_.out (by kernel_rfl)) ?_
    try go_wp2
    go_ret
    exact ⟨Gv.rt, Gv.bw⟩
  ·replace c8 := Bool.eq_false_iff.mpr c8
   subst c8
   have H1 : (some false) = some r := by rw [if_neg (show ¬ (false = true) by decide)] at H; exact H
   clear H
   have H := H1
   clear H1
   obtain rfl := Option.some.inj H
   go_enter Try.func43, Try.ntmps43
   try go_wp2_with (first | ((with_reducible refine gate_dst (N := 1) rfl ?_); refine box_event ?hg (N := 1) ?hd (cs := #[.int .i64 a0_0, .int .i64 a0_1, .int .i64 a0_2, .int .i64 a0_3, .int .i64 a0_4, .int .i64 a0_5]) (t := 29) ?hr ?_; (case hd => rfl); (case hg => rfl); (case hr => first | (go_simp; done) | (go_simp; rfl)); intro gb389 hg w24 hbox hb; have n0_ := Gv.a0 (below_step Gv.bw hb); have n1_ := Gv.a0 (hbox); have n2_ := Gv.a0 ((Gv.ble hg Gv.bw : w.heap.size ≤ gb389)); have n3_ := Gv.a0 ((Gv.ble hg Gv.bw : w.heap.size ≤ gb389)); clear HB; have HB := n0_; have BK389 := n1_; have GW389 := n2_; have GE389 := n3_; clear n0_ n1_ n2_ n3_; clear hb hbox hg))
   have n0_ := Gv.a0 (blk_drew BK389.out)
   have n1_ := Gv.a0 (below_drew1 HB.out)
   clear BK389
   clear HB
   have BK389 := n0_
   have HB := n1_
   clear n0_ n1_
   refine start_ (n := 26) (S := fun w' => w'.cell? ⟨gb389, 0, none⟩ = some (.int .i64 a0_0) ∧ w'.cell? ⟨gb389, 1, none⟩ = some (.int .i64 a0_1) ∧ w'.cell? ⟨gb389, 2, none⟩ = some (.int .i64 a0_2) ∧ w'.cell? ⟨gb389, 3, none⟩ = some (.int .i64 a0_3) ∧ w'.cell? ⟨gb389, 4, none⟩ = some (.int .i64 a0_4) ∧ w'.cell? ⟨gb389, 5, none⟩ = some (.int .i64 a0_5)) (ds := []) #[false, false, false, false, false, false, false, false, false, false, false, false, false, false, false, false, false, false, false, false, false, false, false, false, false, false] (by kernel_rfl) rfl rfl ⟨(blk_cell BK389.out 0).trans rfl, (blk_cell BK389.out 1).trans rfl, (blk_cell BK389.out 2).trans rfl, (blk_cell BK389.out 3).trans rfl, (blk_cell BK389.out 4).trans rfl, (blk_cell BK389.out 5).trans rfl⟩ (fun hHeld => ?_); refine with_tabW impl_PrefixOk.tab1 impl_PrefixOk.bits1 (fun HT_ HW_ => ?_)
   generalize w24.drew = w25 at BK389 HB hHeld ⊢
   refine take_ (i := 0) (N := some 3) (v := ?_) (a' := ?_) #[true, false, false, false, false, false, false, false, false, false, false, false, false, false, false, false, false, false, false, false, false, false, false, false, false, false] rfl rfl (take_ofW HT_.out HW_.out (by kernel_rfl)) (fun _ _ _ h => h) (Or.inl ⟨by rfl, ?_⟩) hHeld ?_ ?_
   rotate_left
   ·rintro w' ⟨s0, s1, s2, s3, s4, s5⟩
    go_simp
    with_reducible rfl
   rotate_left
   ·simp only [Act.put, List.setIfInBounds_toArray, List.set_cons_zero, List.set_cons_succ, i64_w, i32_w]
    rfl
   refine one_ (i := 1) (N := some 4) #[true, true, false, false, false, false, false, false, false, false, false, false, false, false, false, false, false, false, false, false, false, false, false, false, false, false] rfl rfl (one_of HT_.out (by kernel_rfl)) (by decide) (fun K hK => ?_)
   refine goes_ Try.func66 (by kernel_rfl) rfl #[.agg #[.int .i64 a0_0, .int .i64 a0_1, .int .i64 a0_2, .int .i64 a0_3, .int .i64 a0_4, .int .i64 a0_5]] (by rfl) rfl rfl Gv.lm ?_
   with_reducible refine (impl_isAny.calls a0_0 a0_1 a0_2 a0_3 a0_4 a0_5 false _ A2.out).mono ?_
   rintro e w26 ⟨rfl, hb⟩
   refine ⟨_, rfl, ?_⟩
   have n0_ := Gv.a0 (Gv.bb BK389.out hb)
   have n1_ := Gv.a0 (below_step Gv.bw hb)
   clear BK389
   clear HB
   have BK389 := n0_
   have HB := n1_
   clear n0_ n1_
   (try clear hb)
   (try clear hb2)
   (try clear hk)
   (try clear hi)
   refine hK.out _ _ ⟨(blk_cell BK389.out 0).trans rfl, (blk_cell BK389.out 1).trans rfl, (blk_cell BK389.out 2).trans rfl, (blk_cell BK389.out 3).trans rfl, (blk_cell BK389.out 4).trans rfl, (blk_cell BK389.out 5).trans rfl⟩ (fun hHeld => ?_)
   clear hK K
   refine norm_ (a' := ?_) ?_ ?_
   rotate_left
   ·show Act.put _ (some 4) _ = _
    simp only [Act.put, List.setIfInBounds_toArray, List.set_cons_zero, List.set_cons_succ, i64_w, i32_w]
    rfl
   refine Gv.pu 2 (some 5) HT_ ?_
   refine Gv.pu 3 (some 6) HT_ ?_
   refine take_ (i := 4) (N := some 7) (v := ?_) (a' := ?_) #[true, true, true, true, true, false, false, false, false, false, false, false, false, false, false, false, false, false, false, false, false, false, false, false, false, false] rfl rfl (take_ofW HT_.out HW_.out (by kernel_rfl)) (fun _ _ _ h => h) (Or.inl ⟨by rfl, ?_⟩) hHeld ?_ ?_
   rotate_left
   ·rintro w' ⟨s0, s1, s2, s3, s4, s5⟩
    go_simp
    with_reducible rfl
   rotate_left
   ·simp only [Act.put, List.setIfInBounds_toArray, List.set_cons_zero, List.set_cons_succ, i64_w, i32_w]
    rfl
   refine one_ (i := 5) (N := some 8) #[true, true, true, true, true, true, false, false, false, false, false, false, false, false, false, false, false, false, false, false, false, false, false, false, false, false] rfl rfl (one_of HT_.out (by kernel_rfl)) (by decide) (fun K hK => ?_)
   refine goes_ Try.func67 (by kernel_rfl) rfl #[.agg #[.int .i64 a0_0, .int .i64 a0_1, .int .i64 a0_2, .int .i64 a0_3, .int .i64 a0_4]] (by rfl) rfl rfl Gv.lm ?_
   with_reducible refine (impl_AddrOk.calls a0_0 a0_1 a0_2 a0_3 a0_4 false _ A7.out).mono ?_
   rintro e w27 ⟨rfl, hb⟩
   refine ⟨_, rfl, ?_⟩
   have n0_ := Gv.a0 (Gv.bb BK389.out hb)
   have n1_ := Gv.a0 (below_step Gv.bw hb)
   clear BK389
   clear HB
   have BK389 := n0_
   have HB := n1_
   clear n0_ n1_
   (try clear hb)
   (try clear hb2)
   (try clear hk)
   (try clear hi)
   refine hK.out _ _ ⟨(blk_cell BK389.out 0).trans rfl, (blk_cell BK389.out 1).trans rfl, (blk_cell BK389.out 2).trans rfl, (blk_cell BK389.out 3).trans rfl, (blk_cell BK389.out 4).trans rfl, (blk_cell BK389.out 5).trans rfl⟩ (fun hHeld => ?_)
   clear hK K
   refine norm_ (a' := ?_) ?_ ?_
   rotate_left
   ·show Act.put _ (some 8) _ = _
    simp only [Act.put, List.setIfInBounds_toArray, List.set_cons_zero, List.set_cons_succ, i64_w, i32_w]
    rfl
   refine Gv.pu 6 (some 9) HT_ ?_
   refine Gv.pn 7 (some 10) HT_ ?_
   refine Gv.pn 8 (some 11) HT_ ?_
   refine Gv.pn 9 (some 12) HT_ ?_
   refine Gv.pn 10 (some 13) HT_ ?_
   refine Gv.pn 11 (some 14) HT_ ?_
   refine Gv.pn 12 (some 15) HT_ ?_
   refine Gv.pu 13 (some 16) HT_ ?_
   refine Gv.pu 14 (some 17) HT_ ?_
   refine Gv.pn 15 (some 18) HT_ ?_
   refine Gv.pn 16 (some 19) HT_ ?_
   refine Gv.pn 17 (some 20) HT_ ?_
   refine Gv.pn 18 (some 21) HT_ ?_
   refine Gv.pn 19 (some 22) HT_ ?_
   refine Gv.pn 20 (some 23) HT_ ?_
   refine Gv.pn 21 (some 24) HT_ ?_
   refine Gv.pn 22 (some 25) HT_ ?_
   refine Gv.pu 23 (some 26) HT_ ?_
   refine Gv.pu 24 (some 27) HT_ ?_
   refine Gv.pu 25 (some 2) HT_ ?_
   refine done_ (done_of HT_.out (by kernel_rfl)) ?_
   try go_wp2
   go_ret
   exact ⟨Gv.rt, Gv.bw⟩

/-! ### impl_arePairOf: function 36 -/
def impl_arePairOf.f (k : Nat) (a0_0 : Int) (a0_1 : Int) (a0_2 : Int) (a0_3 : Int) (a0_4 : Int) (a0_5 : Int) (a1_0 : Int) (a1_1 : Int) (a1_2 : Int) (a1_3 : Int) (a1_4 : Int) (a1_5 : Int) : Option (Bool) := (impl_PrefixOk.f k a0_0 a0_1 a0_2 a0_3 a0_4 a0_5).bind fun t401 => (if t401 = true then ((impl_PrefixOk.f k a1_0 a1_1 a1_2 a1_3 a1_4 a1_5).bind fun t402 => (if t402 = true then ((impl_isAny.f a0_0 a0_1 a0_2 a0_3 a0_4 a0_5).bind fun t403 => (if t403 = true then (some false) else ((impl_isAny.f a1_0 a1_1 a1_2 a1_3 a1_4 a1_5).bind fun t404 => (if t404 = true then (some false) else (if a0_0 = a1_0 then (some (a0_5 == a1_5)) else (some false)))))) else (some false))) else (some false))
theorem impl_arePairOf.mono : ∀ a0 a1 a2 a3 a4 a5 a6 a7 a8 a9 a10 a11 k, LeO (impl_arePairOf.f k a0 a1 a2 a3 a4 a5 a6 a7 a8 a9 a10 a11) (impl_arePairOf.f (k + 1) a0 a1 a2 a3 a4 a5 a6 a7 a8 a9 a10 a11) := by
 intro a0 a1 a2 a3 a4 a5 a6 a7 a8 a9 a10 a11 k
 unfold impl_arePairOf.f
 repeat' first
   | (with_reducible exact impl_PrefixOk.mono _ _ _ _ _ _ _)
   | (with_reducible exact LeO.refl _)
   | (with_reducible exact LeO.none _)
   | (with_reducible refine LeO.ite ?_ ?_)
   | (with_reducible refine LeO.bind ?_ (fun _ => ?_))
   | exact impl_PrefixOk.mono _ _ _ _ _ _ _
   | exact LeO.none _
   | refine LeO.ite ?_ ?_
   | refine LeO.bind ?_ (fun _ => ?_)
set_option maxHeartbeats 8000000 in
set_option maxRecDepth 100000 in
theorem impl_arePairOf.calls (k : Nat) (a0_0 : Int) (a0_1 : Int) (a0_2 : Int) (a0_3 : Int) (a0_4 : Int) (a0_5 : Int) (a1_0 : Int) (a1_1 : Int) (a1_2 : Int) (a1_3 : Int) (a1_4 : Int) (a1_5 : Int) (r : Bool) (w : World) (h : impl_arePairOf.f k a0_0 a0_1 a0_2 a0_3 a0_4 a0_5 a1_0 a1_1 a1_2 a1_3 a1_4 a1_5 = some r) :
  Calls Try.prog 36 #[.agg #[.int .i64 a0_0, .int .i64 a0_1, .int .i64 a0_2, .int .i64 a0_3, .int .i64 a0_4, .int .i64 a0_5], .agg #[.int .i64 a1_0, .int .i64 a1_1, .int .i64 a1_2, .int .i64 a1_3, .int .i64 a1_4, .int .i64 a1_5]] w fun e w' => e = .returned (.bool r) ∧ Below w.heap.size w w' := by
 have hu29 := Try.underlying29
 have HB := Gv.a0 (Below.refl w.heap.size w)
 have H : ((impl_PrefixOk.f k a0_0 a0_1 a0_2 a0_3 a0_4 a0_5).bind fun t401 => (if t401 = true then ((impl_PrefixOk.f k a1_0 a1_1 a1_2 a1_3 a1_4 a1_5).bind fun t402 => (if t402 = true then ((impl_isAny.f a0_0 a0_1 a0_2 a0_3 a0_4 a0_5).bind fun t403 => (if t403 = true then (some false) else ((impl_isAny.f a1_0 a1_1 a1_2 a1_3 a1_4 a1_5).bind fun t404 => (if t404 = true then (some false) else (if a0_0 = a1_0 then (some (a0_5 == a1_5)) else (some false)))))) else (some false))) else (some false))) = some r := h
 clear h
 replace H := Option.bind_eq_some_iff.mp H
 obtain ⟨t401, A30, H⟩ := H
 replace H : (if t401 = true then ((impl_PrefixOk.f k a1_0 a1_1 a1_2 a1_3 a1_4 a1_5).bind fun t402 => (if t402 = true then ((impl_isAny.f a0_0 a0_1 a0_2 a0_3 a0_4 a0_5).bind fun t403 => (if t403 = true then (some false) else ((impl_isAny.f a1_0 a1_1 a1_2 a1_3 a1_4 a1_5).bind fun t404 => (if t404 = true then (some false) else (if a0_0 = a1_0 then (some (a0_5 == a1_5)) else (some false)))))) else (some false))) else (some false)) = some r := H
 have A3 := Gv.a0 A30
 clear A30
 by_cases c4 : t401 = true
 ·subst c4
  have H1 : ((impl_PrefixOk.f k a1_0 a1_1 a1_2 a1_3 a1_4 a1_5).bind fun t402 => (if t402 = true then ((impl_isAny.f a0_0 a0_1 a0_2 a0_3 a0_4 a0_5).bind fun t403 => (if t403 = true then (some false) else ((impl_isAny.f a1_0 a1_1 a1_2 a1_3 a1_4 a1_5).bind fun t404 => (if t404 = true then (some false) else (if a0_0 = a1_0 then (some (a0_5 == a1_5)) else (some false)))))) else (some false))) = some r := by rw [if_pos rfl] at H; exact H
  clear H
  have H := H1
  clear H1
  replace H := Option.bind_eq_some_iff.mp H
  obtain ⟨t402, A50, H⟩ := H
  replace H : (if t402 = true then ((impl_isAny.f a0_0 a0_1 a0_2 a0_3 a0_4 a0_5).bind fun t403 => (if t403 = true then (some false) else ((impl_isAny.f a1_0 a1_1 a1_2 a1_3 a1_4 a1_5).bind fun t404 => (if t404 = true then (some false) else (if a0_0 = a1_0 then (some (a0_5 == a1_5)) else (some false)))))) else (some false)) = some r := H
  have A5 := Gv.a0 A50
  clear A50
  by_cases c6 : t402 = true
  ·subst c6
   have H1 : ((impl_isAny.f a0_0 a0_1 a0_2 a0_3 a0_4 a0_5).bind fun t403 => (if t403 = true then (some false) else ((impl_isAny.f a1_0 a1_1 a1_2 a1_3 a1_4 a1_5).bind fun t404 => (if t404 = true then (some false) else (if a0_0 = a1_0 then (some (a0_5 == a1_5)) else (some false)))))) = some r := by rw [if_pos rfl] at H; exact H
   clear H
   have H := H1
   clear H1
   replace H := Option.bind_eq_some_iff.mp H
   obtain ⟨t403, A70, H⟩ := H
   replace H : (if t403 = true then (some false) else ((impl_isAny.f a1_0 a1_1 a1_2 a1_3 a1_4 a1_5).bind fun t404 => (if t404 = true then (some false) else (if a0_0 = a1_0 then (some (a0_5 == a1_5)) else (some false))))) = some r := H
   have A7 := Gv.a0 A70
   clear A70
   by_cases c8 : t403 = true
   ·subst c8
    have H1 : (some false) = some r := by rw [if_pos rfl] at H; exact H
    clear H
    have H := H1
    clear H1
    obtain rfl := Option.some.inj H
    go_enter Try.func36, Try.ntmps36
    go_wp2_with (first | ((with_reducible refine gate_dst (N := 2) rfl ?_); refine box_event ?hg (N := 2) ?hd (cs := #[.int .i64 a0_0, .int .i64 a0_1, .int .i64 a0_2, .int .i64 a0_3, .int .i64 a0_4, .int .i64 a0_5]) (t := 29) ?hr ?_; (case hd => rfl); (case hg => rfl); (case hr => first | (go_simp; done) | (go_simp; rfl)); intro gb399 hg w9 hbox hb; have n0_ := Gv.a0 (below_step Gv.bw hb); have n1_ := Gv.a0 (hbox); have n2_ := Gv.a0 ((Gv.ble hg Gv.bw : w.heap.size ≤ gb399)); have n3_ := Gv.a0 ((Gv.ble hg Gv.bw : w.heap.size ≤ gb399)); clear HB; have HB := n0_; have BK399 := n1_; have GW399 := n2_; have GE399 := n3_; clear n0_ n1_ n2_ n3_; clear hb hbox hg) | ((with_reducible refine gate_dst (N := 3) rfl ?_); refine box_event ?hg (N := 3) ?hd (cs := #[.int .i64 a1_0, .int .i64 a1_1, .int .i64 a1_2, .int .i64 a1_3, .int .i64 a1_4, .int .i64 a1_5]) (t := 29) ?hr ?_; (case hd => rfl); (case hg => rfl); (case hr => first | (go_simp; done) | (go_simp; rfl)); intro gb400 hg w10 hbox hb; have n0_ := Gv.a0 (Gv.bb BK399.out hb); have n1_ := Gv.a0 (below_step Gv.bw hb); have n2_ := Gv.a0 (hbox); have n3_ := Gv.a0 ((Gv.ble hg Gv.bw : w.heap.size ≤ gb400)); have n4_ := Gv.a0 ((Gv.ble hg Gv.bw : w.heap.size ≤ gb400)); have n5_ := Gv.a0 ((Gv.nlt hg (Gv.kb BK399.out) : gb399 ≠ gb400)); have n6_ := Gv.a0 ((Gv.ngt hg (Gv.kb BK399.out) : gb400 ≠ gb399)); clear BK399; clear HB; have BK399 := n0_; have HB := n1_; have BK400 := n2_; have GW400 := n3_; have GE400 := n4_; have NB399_400 := n5_; have NB400_399 := n6_; clear n0_ n1_ n2_ n3_ n4_ n5_ n6_; clear hb hbox hg; have hnb11 := NB399_400.out; have hnc11 := NB400_399.out; obtain ⟨hcz12_0, hcz12_1, hcz12_2, hcz12_3, hcz12_4, hcz12_5⟩ := Gv.c6 BK399.out; obtain ⟨hfz12_0, hfz12_1, hfz12_2, hfz12_3, hfz12_4, hfz12_5⟩ := Gv.f6 BK399.out) | ((with_reducible refine gate_callee (f := 43) rfl ?_); refine goesL_ (some 6) rfl rfl Try.func43 (by kernel_rfl) rfl #[.agg #[.int .i64 a0_0, .int .i64 a0_1, .int .i64 a0_2, .int .i64 a0_3, .int .i64 a0_4, .int .i64 a0_5]] rfl Gv.lm ?_; (with_reducible refine (impl_PrefixOk.calls k a0_0 a0_1 a0_2 a0_3 a0_4 a0_5 true _ A3.out).mono ?_); rintro e w13 ⟨rfl, hb⟩; refine ⟨_, rfl, ?_⟩; have n0_ := Gv.a0 (Gv.bb BK399.out hb); have n1_ := Gv.a0 (Gv.bb BK400.out hb); have n2_ := Gv.a0 (below_step Gv.bw hb); clear BK399; clear BK400; clear HB; have BK399 := n0_; have BK400 := n1_; have HB := n2_; clear n0_ n1_ n2_; (try clear hb); (try clear hb2); (try clear hk); (try clear hi); obtain ⟨hcz14_0, hcz14_1, hcz14_2, hcz14_3, hcz14_4, hcz14_5⟩ := Gv.c6 BK400.out; obtain ⟨hfz14_0, hfz14_1, hfz14_2, hfz14_3, hfz14_4, hfz14_5⟩ := Gv.f6 BK400.out) | (go_at_call 43; (with_reducible refine (impl_PrefixOk.calls k a1_0 a1_1 a1_2 a1_3 a1_4 a1_5 true _ A5.out).mono ?_); rintro e w15 ⟨rfl, hb⟩; have n0_ := Gv.a0 (Gv.bb BK399.out hb); have n1_ := Gv.a0 (Gv.bb BK400.out hb); have n2_ := Gv.a0 (below_step Gv.bw hb); clear BK399; clear BK400; clear HB; have BK399 := n0_; have BK400 := n1_; have HB := n2_; clear n0_ n1_ n2_; (try clear hb); (try clear hb2); (try clear hk); (try clear hi); obtain ⟨hcz16_0, hcz16_1, hcz16_2, hcz16_3, hcz16_4, hcz16_5⟩ := Gv.c6 BK399.out; obtain ⟨hfz16_0, hfz16_1, hfz16_2, hfz16_3, hfz16_4, hfz16_5⟩ := Gv.f6 BK399.out) | (go_at_call 66; (with_reducible refine (impl_isAny.calls a0_0 a0_1 a0_2 a0_3 a0_4 a0_5 true _ A7.out).mono ?_); rintro e w17 ⟨rfl, hb⟩; have n0_ := Gv.a0 (Gv.bb BK399.out hb); have n1_ := Gv.a0 (Gv.bb BK400.out hb); have n2_ := Gv.a0 (below_step Gv.bw hb); clear BK399; clear BK400; clear HB; have BK399 := n0_; have BK400 := n1_; have HB := n2_; clear n0_ n1_ n2_; (try clear hb); (try clear hb2); (try clear hk); (try clear hi)))
    go_ret
    exact ⟨Gv.rt, Gv.bw⟩
   ·replace c8 := Bool.eq_false_iff.mpr c8
    subst c8
    have H1 : ((impl_isAny.f a1_0 a1_1 a1_2 a1_3 a1_4 a1_5).bind fun t404 => (if t404 = true then (some false) else (if a0_0 = a1_0 then (some (a0_5 == a1_5)) else (some false)))) = some r := by rw [if_neg (show ¬ (false = true) by decide)] at H; exact H
    clear H
    have H := H1
    clear H1
    replace H := Option.bind_eq_some_iff.mp H
    obtain ⟨t404, A180, H⟩ := H
    replace H : (if t404 = true then (some false) else (if a0_0 = a1_0 then (some (a0_5 == a1_5)) else (some false))) = some r := H
    have A18 := Gv.a0 A180
    clear A180
    by_cases c19 : t404 = true
    ·subst c19
     have H1 : (some false) = some r := by rw [if_pos rfl] at H; exact H
     clear H
     have H := H1
     clear H1
     obtain rfl := Option.some.inj H
     go_enter Try.func36, Try.ntmps36
     go_wp2_with (first | ((with_reducible refine gate_dst (N := 2) rfl ?_); refine box_event ?hg (N := 2) ?hd (cs := #[.int .i64 a0_0, .int .i64 a0_1, .int .i64 a0_2, .int .i64 a0_3, .int .i64 a0_4, .int .i64 a0_5]) (t := 29) ?hr ?_; (case hd => rfl); (case hg => rfl); (case hr => first | (go_simp; done) | (go_simp; rfl)); intro gb399 hg w20 hbox hb; have n0_ := Gv.a0 (below_step Gv.bw hb); have n1_ := Gv.a0 (hbox); have n2_ := Gv.a0 ((Gv.ble hg Gv.bw : w.heap.size ≤ gb399)); have n3_ := Gv.a0 ((Gv.ble hg Gv.bw : w.heap.size ≤ gb399)); clear HB; have HB := n0_; have BK399 := n1_; have GW399 := n2_; have GE399 := n3_; clear n0_ n1_ n2_ n3_; clear hb hbox hg) | ((with_reducible refine gate_dst (N := 3) rfl ?_); refine box_event ?hg (N := 3) ?hd (cs := #[.int .i64 a1_0, .int .i64 a1_1, .int .i64 a1_2, .int .i64 a1_3, .int .i64 a1_4, .int .i64 a1_5]) (t := 29) ?hr ?_; (case hd => rfl); (case hg => rfl); (case hr => first | (go_simp; done) | (go_simp; rfl)); intro gb400 hg w21 hbox hb; have n0_ := Gv.a0 (Gv.bb BK399.out hb); have n1_ := Gv.a0 (below_step Gv.bw hb); have n2_ := Gv.a0 (hbox); have n3_ := Gv.a0 ((Gv.ble hg Gv.bw : w.heap.size ≤ gb400)); have n4_ := Gv.a0 ((Gv.ble hg Gv.bw : w.heap.size ≤ gb400)); have n5_ := Gv.a0 ((Gv.nlt hg (Gv.kb BK399.out) : gb399 ≠ gb400)); have n6_ := Gv.a0 ((Gv.ngt hg (Gv.kb BK399.out) : gb400 ≠ gb399)); clear BK399; clear HB; have BK399 := n0_; have HB := n1_; have BK400 := n2_; have GW400 := n3_; have GE400 := n4_; have NB399_400 := n5_; have NB400_399 := n6_; clear n0_ n1_ n2_ n3_ n4_ n5_ n6_; clear hb hbox hg; have hnb22 := NB399_400.out; have hnc22 := NB400_399.out; obtain ⟨hcz23_0, hcz23_1, hcz23_2, hcz23_3, hcz23_4, hcz23_5⟩ := Gv.c6 BK399.out; obtain ⟨hfz23_0, hfz23_1, hfz23_2, hfz23_3, hfz23_4, hfz23_5⟩ := Gv.f6 BK399.out) | ((with_reducible refine gate_callee (f := 43) rfl ?_); refine goesL_ (some 6) rfl rfl Try.func43 (by kernel_rfl) rfl #[.agg #[.int .i64 a0_0, .int .i64 a0_1, .int .i64 a0_2, .int .i64 a0_3, .int .i64 a0_4, .int .i64 a0_5]] rfl Gv.lm ?_; (with_reducible refine (impl_PrefixOk.calls k a0_0 a0_1 a0_2 a0_3 a0_4 a0_5 true _ A3.out).mono ?_); rintro e w24 ⟨rfl, hb⟩; refine ⟨_, rfl, ?_⟩; have n0_ := Gv.a0 (Gv.bb BK399.out hb); have n1_ := Gv.a0 (Gv.bb BK400.out hb); have n2_ := Gv.a0 (below_step Gv.bw hb); clear BK399; clear BK400; clear HB; have BK399 := n0_; have BK400 := n1_; have HB := n2_; clear n0_ n1_ n2_; (try clear hb); (try clear hb2); (try clear hk); (try clear hi); obtain ⟨hcz25_0, hcz25_1, hcz25_2, hcz25_3, hcz25_4, hcz25_5⟩ := Gv.c6 BK400.out; obtain ⟨hfz25_0, hfz25_1, hfz25_2, hfz25_3, hfz25_4, hfz25_5⟩ := Gv.f6 BK400.out) | (go_at_call 43; (with_reducible refine (impl_PrefixOk.calls k a1_0 a1_1 a1_2 a1_3 a1_4 a1_5 true _ A5.out).mono ?_); rintro e w26 ⟨rfl, hb⟩; have n0_ := Gv.a0 (Gv.bb BK399.out hb); have n1_ := Gv.a0 (Gv.bb BK400.out hb); have n2_ := Gv.a0 (below_step Gv.bw hb); clear BK399; clear BK400; clear HB; have BK399 := n0_; have BK400 := n1_; have HB := n2_; clear n0_ n1_ n2_; (try clear hb); (try clear hb2); (try clear hk); (try clear hi); obtain ⟨hcz27_0, hcz27_1, hcz27_2, hcz27_3, hcz27_4, hcz27_5⟩ := Gv.c6 BK399.out; obtain ⟨hfz27_0, hfz27_1, hfz27_2, hfz27_3, hfz27_4, hfz27_5⟩ := Gv.f6 BK399.out) | (go_at_call 66; (with_reducible refine (impl_isAny.calls a0_0 a0_1 a0_2 a0_3 a0_4 a0_5 false _ A7.out).mono ?_); rintro e w28 ⟨rfl, hb⟩; have n0_ := Gv.a0 (Gv.bb BK399.out hb); have n1_ := Gv.a0 (Gv.bb BK400.out hb); have n2_ := Gv.a0 (below_step Gv.bw hb); clear BK399; clear BK400; clear HB; have BK399 := n0_; have BK400 := n1_; have HB := n2_; clear n0_ n1_ n2_; (try clear hb); (try clear hb2); (try clear hk); (try clear hi); obtain ⟨hcz29_0, hcz29_1, hcz29_2, hcz29_3, hcz29_4, hcz29_5⟩ := Gv.c6 BK400.out; obtain ⟨hfz29_0, hfz29_1, hfz29_2, hfz29_3, hfz29_4, hfz29_5⟩ := Gv.f6 BK400.out) | (go_at_call 66; (with_reducible refine (impl_isAny.calls a1_0 a1_1 a1_2 a1_3 a1_4 a1_5 true _ A18.out).mono ?_); rintro e w30 ⟨rfl, hb⟩; have n0_ := Gv.a0 (Gv.bb BK399.out hb); have n1_ := Gv.a0 (Gv.bb BK400.out hb); have n2_ := Gv.a0 (below_step Gv.bw hb); clear BK399; clear BK400; clear HB; have BK399 := n0_; have BK400 := n1_; have HB := n2_; clear n0_ n1_ n2_; (try clear hb); (try clear hb2); (try clear hk); (try clear hi)))
     go_ret
     exact ⟨Gv.rt, Gv.bw⟩
    ·replace c19 := Bool.eq_false_iff.mpr c19
     subst c19
     have H1 : (if a0_0 = a1_0 then (some (a0_5 == a1_5)) else (some false)) = some r := by rw [if_neg (show ¬ (false = true) by decide)] at H; exact H
     clear H
     have H := H1
     clear H1
     by_cases c31 : a0_0 = a1_0
     ·rw [if_pos c31] at H
      have c31b0 : (a0_0 == a1_0) = true := beq_iff_eq.mpr c31
      have c31b1 : (a0_0 != a1_0) = false := bne_eq_false_iff_eq.mpr c31
      clear c31
      obtain rfl := Option.some.inj H
      go_enter Try.func36, Try.ntmps36
      go_wp2_with (first | ((with_reducible refine gate_dst (N := 2) rfl ?_); refine box_event ?hg (N := 2) ?hd (cs := #[.int .i64 a0_0, .int .i64 a0_1, .int .i64 a0_2, .int .i64 a0_3, .int .i64 a0_4, .int .i64 a0_5]) (t := 29) ?hr ?_; (case hd => rfl); (case hg => rfl); (case hr => first | (go_simp; done) | (go_simp; rfl)); intro gb399 hg w32 hbox hb; have n0_ := Gv.a0 (below_step Gv.bw hb); have n1_ := Gv.a0 (hbox); have n2_ := Gv.a0 ((Gv.ble hg Gv.bw : w.heap.size ≤ gb399)); have n3_ := Gv.a0 ((Gv.ble hg Gv.bw : w.heap.size ≤ gb399)); clear HB; have HB := n0_; have BK399 := n1_; have GW399 := n2_; have GE399 := n3_; clear n0_ n1_ n2_ n3_; clear hb hbox hg) | ((with_reducible refine gate_dst (N := 3) rfl ?_); refine box_event ?hg (N := 3) ?hd (cs := #[.int .i64 a1_0, .int .i64 a1_1, .int .i64 a1_2, .int .i64 a1_3, .int .i64 a1_4, .int .i64 a1_5]) (t := 29) ?hr ?_; (case hd => rfl); (case hg => rfl); (case hr => first | (go_simp; done) | (go_simp; rfl)); intro gb400 hg w33 hbox hb; have n0_ := Gv.a0 (Gv.bb BK399.out hb); have n1_ := Gv.a0 (below_step Gv.bw hb); have n2_ := Gv.a0 (hbox); have n3_ := Gv.a0 ((Gv.ble hg Gv.bw : w.heap.size ≤ gb400)); have n4_ := Gv.a0 ((Gv.ble hg Gv.bw : w.heap.size ≤ gb400)); have n5_ := Gv.a0 ((Gv.nlt hg (Gv.kb BK399.out) : gb399 ≠ gb400)); have n6_ := Gv.a0 ((Gv.ngt hg (Gv.kb BK399.out) : gb400 ≠ gb399)); clear BK399; clear HB; have BK399 := n0_; have HB := n1_; have BK400 := n2_; have GW400 := n3_; have GE400 := n4_; have NB399_400 := n5_; have NB400_399 := n6_; clear n0_ n1_ n2_ n3_ n4_ n5_ n6_; clear hb hbox hg; have hnb34 := NB399_400.out; have hnc34 := NB400_399.out; obtain ⟨hcz35_0, hcz35_1, hcz35_2, hcz35_3, hcz35_4, hcz35_5⟩ := Gv.c6 BK399.out; obtain ⟨hfz35_0, hfz35_1, hfz35_2, hfz35_3, hfz35_4, hfz35_5⟩ := Gv.f6 BK399.out) | ((with_reducible refine gate_callee (f := 43) rfl ?_); refine goesL_ (some 6) rfl rfl Try.func43 (by kernel_rfl) rfl #[.agg #[.int .i64 a0_0, .int .i64 a0_1, .int .i64 a0_2, .int .i64 a0_3, .int .i64 a0_4, .int .i64 a0_5]] rfl Gv.lm ?_; (with_reducible refine (impl_PrefixOk.calls k a0_0 a0_1 a0_2 a0_3 a0_4 a0_5 true _ A3.out).mono ?_); rintro e w36 ⟨rfl, hb⟩; refine ⟨_, rfl, ?_⟩; have n0_ := Gv.a0 (Gv.bb BK399.out hb); have n1_ := Gv.a0 (Gv.bb BK400.out hb); have n2_ := Gv.a0 (below_step Gv.bw hb); clear BK399; clear BK400; clear HB; have BK399 := n0_; have BK400 := n1_; have HB := n2_; clear n0_ n1_ n2_; (try clear hb); (try clear hb2); (try clear hk); (try clear hi); obtain ⟨hcz37_0, hcz37_1, hcz37_2, hcz37_3, hcz37_4, hcz37_5⟩ := Gv.c6 BK400.out; obtain ⟨hfz37_0, hfz37_1, hfz37_2, hfz37_3, hfz37_4, hfz37_5⟩ := Gv.f6 BK400.out) | (go_at_call 43; (with_reducible refine (impl_PrefixOk.calls k a1_0 a1_1 a1_2 a1_3 a1_4 a1_5 true _ A5.out).mono ?_); rintro e w38 ⟨rfl, hb⟩; have n0_ := Gv.a0 (Gv.bb BK399.out hb); have n1_ := Gv.a0 (Gv.bb BK400.out hb); have n2_ := Gv.a0 (below_step Gv.bw hb); clear BK399; clear BK400; clear HB; have BK399 := n0_; have BK400 := n1_; have HB := n2_; clear n0_ n1_ n2_; (try clear hb); (try clear hb2); (try clear hk); (try clear hi); obtain ⟨hcz39_0, hcz39_1, hcz39_2, hcz39_3, hcz39_4, hcz39_5⟩ := Gv.c6 BK399.out; obtain ⟨hfz39_0, hfz39_1, hfz39_2, hfz39_3, hfz39_4, hfz39_5⟩ := Gv.f6 BK399.out) | (go_at_call 66; (with_reducible refine (impl_isAny.calls a0_0 a0_1 a0_2 a0_3 a0_4 a0_5 false _ A7.out).mono ?_); rintro e w40 ⟨rfl, hb⟩; have n0_ := Gv.a0 (Gv.bb BK399.out hb); have n1_ := Gv.a0 (Gv.bb BK400.out hb); have n2_ := Gv.a0 (below_step Gv.bw hb); clear BK399; clear BK400; clear HB; have BK399 := n0_; have BK400 := n1_; have HB := n2_; clear n0_ n1_ n2_; (try clear hb); (try clear hb2); (try clear hk); (try clear hi); obtain ⟨hcz41_0, hcz41_1, hcz41_2, hcz41_3, hcz41_4, hcz41_5⟩ := Gv.c6 BK400.out; obtain ⟨hfz41_0, hfz41_1, hfz41_2, hfz41_3, hfz41_4, hfz41_5⟩ := Gv.f6 BK400.out) | (go_at_call 66; (with_reducible refine (impl_isAny.calls a1_0 a1_1 a1_2 a1_3 a1_4 a1_5 false _ A18.out).mono ?_); rintro e w42 ⟨rfl, hb⟩; have n0_ := Gv.a0 (Gv.bb BK399.out hb); have n1_ := Gv.a0 (Gv.bb BK400.out hb); have n2_ := Gv.a0 (below_step Gv.bw hb); clear BK399; clear BK400; clear HB; have BK399 := n0_; have BK400 := n1_; have HB := n2_; clear n0_ n1_ n2_; (try clear hb); (try clear hb2); (try clear hk); (try clear hi); obtain ⟨hcz43_0, hcz43_1, hcz43_2, hcz43_3, hcz43_4, hcz43_5⟩ := Gv.c6 BK399.out; obtain ⟨hfz43_0, hfz43_1, hfz43_2, hfz43_3, hfz43_4, hfz43_5⟩ := Gv.f6 BK399.out; obtain ⟨hcz44_0, hcz44_1, hcz44_2, hcz44_3, hcz44_4, hcz44_5⟩ := Gv.c6 BK400.out; obtain ⟨hfz44_0, hfz44_1, hfz44_2, hfz44_3, hfz44_4, hfz44_5⟩ := Gv.f6 BK400.out))
      go_ret
      exact ⟨Gv.rt, Gv.bw⟩
     ·rw [if_neg c31] at H
      have c31b0 : (a0_0 == a1_0) = false := beq_eq_false_iff_ne.mpr c31
      have c31b1 : (a0_0 != a1_0) = true := bne_iff_ne.mpr c31
      obtain rfl := Option.some.inj H
      go_enter Try.func36, Try.ntmps36
      go_wp2_with (first | ((with_reducible refine gate_dst (N := 2) rfl ?_); refine box_event ?hg (N := 2) ?hd (cs := #[.int .i64 a0_0, .int .i64 a0_1, .int .i64 a0_2, .int .i64 a0_3, .int .i64 a0_4, .int .i64 a0_5]) (t := 29) ?hr ?_; (case hd => rfl); (case hg => rfl); (case hr => first | (go_simp; done) | (go_simp; rfl)); intro gb399 hg w45 hbox hb; have n0_ := Gv.a0 (below_step Gv.bw hb); have n1_ := Gv.a0 (hbox); have n2_ := Gv.a0 ((Gv.ble hg Gv.bw : w.heap.size ≤ gb399)); have n3_ := Gv.a0 ((Gv.ble hg Gv.bw : w.heap.size ≤ gb399)); clear HB; have HB := n0_; have BK399 := n1_; have GW399 := n2_; have GE399 := n3_; clear n0_ n1_ n2_ n3_; clear hb hbox hg) | ((with_reducible refine gate_dst (N := 3) rfl ?_); refine box_event ?hg (N := 3) ?hd (cs := #[.int .i64 a1_0, .int .i64 a1_1, .int .i64 a1_2, .int .i64 a1_3, .int .i64 a1_4, .int .i64 a1_5]) (t := 29) ?hr ?_; (case hd => rfl); (case hg => rfl); (case hr => first | (go_simp; done) | (go_simp; rfl)); intro gb400 hg w46 hbox hb; have n0_ := Gv.a0 (Gv.bb BK399.out hb); have n1_ := Gv.a0 (below_step Gv.bw hb); have n2_ := Gv.a0 (hbox); have n3_ := Gv.a0 ((Gv.ble hg Gv.bw : w.heap.size ≤ gb400)); have n4_ := Gv.a0 ((Gv.ble hg Gv.bw : w.heap.size ≤ gb400)); have n5_ := Gv.a0 ((Gv.nlt hg (Gv.kb BK399.out) : gb399 ≠ gb400)); have n6_ := Gv.a0 ((Gv.ngt hg (Gv.kb BK399.out) : gb400 ≠ gb399)); clear BK399; clear HB; have BK399 := n0_; have HB := n1_; have BK400 := n2_; have GW400 := n3_; have GE400 := n4_; have NB399_400 := n5_; have NB400_399 := n6_; clear n0_ n1_ n2_ n3_ n4_ n5_ n6_; clear hb hbox hg; have hnb47 := NB399_400.out; have hnc47 := NB400_399.out; obtain ⟨hcz48_0, hcz48_1, hcz48_2, hcz48_3, hcz48_4, hcz48_5⟩ := Gv.c6 BK399.out; obtain ⟨hfz48_0, hfz48_1, hfz48_2, hfz48_3, hfz48_4, hfz48_5⟩ := Gv.f6 BK399.out) | ((with_reducible refine gate_callee (f := 43) rfl ?_); refine goesL_ (some 6) rfl rfl Try.func43 (by kernel_rfl) rfl #[.agg #[.int .i64 a0_0, .int .i64 a0_1, .int .i64 a0_2, .int .i64 a0_3, .int .i64 a0_4, .int .i64 a0_5]] rfl Gv.lm ?_; (with_reducible refine (impl_PrefixOk.calls k a0_0 a0_1 a0_2 a0_3 a0_4 a0_5 true _ A3.out).mono ?_); rintro e w49 ⟨rfl, hb⟩; refine ⟨_, rfl, ?_⟩; have n0_ := Gv.a0 (Gv.bb BK399.out hb); have n1_ := Gv.a0 (Gv.bb BK400.out hb); have n2_ := Gv.a0 (below_step Gv.bw hb); clear BK399; clear BK400; clear HB; have BK399 := n0_; have BK400 := n1_; have HB := n2_; clear n0_ n1_ n2_; (try clear hb); (try clear hb2); (try clear hk); (try clear hi); obtain ⟨hcz50_0, hcz50_1, hcz50_2, hcz50_3, hcz50_4, hcz50_5⟩ := Gv.c6 BK400.out; obtain ⟨hfz50_0, hfz50_1, hfz50_2, hfz50_3, hfz50_4, hfz50_5⟩ := Gv.f6 BK400.out) | (go_at_call 43; (with_reducible refine (impl_PrefixOk.calls k a1_0 a1_1 a1_2 a1_3 a1_4 a1_5 true _ A5.out).mono ?_); rintro e w51 ⟨rfl, hb⟩; have n0_ := Gv.a0 (Gv.bb BK399.out hb); have n1_ := Gv.a0 (Gv.bb BK400.out hb); have n2_ := Gv.a0 (below_step Gv.bw hb); clear BK399; clear BK400; clear HB; have BK399 := n0_; have BK400 := n1_; have HB := n2_; clear n0_ n1_ n2_; (try clear hb); (try clear hb2); (try clear hk); (try clear hi); obtain ⟨hcz52_0, hcz52_1, hcz52_2, hcz52_3, hcz52_4, hcz52_5⟩ := Gv.c6 BK399.out; obtain ⟨hfz52_0, hfz52_1, hfz52_2, hfz52_3, hfz52_4, hfz52_5⟩ := Gv.f6 BK399.out) | (go_at_call 66; (with_reducible refine (impl_isAny.calls a0_0 a0_1 a0_2 a0_3 a0_4 a0_5 false _ A7.out).mono ?_); rintro e w53 ⟨rfl, hb⟩; have n0_ := Gv.a0 (Gv.bb BK399.out hb); have n1_ := Gv.a0 (Gv.bb BK400.out hb); have n2_ := Gv.a0 (below_step Gv.bw hb); clear BK399; clear BK400; clear HB; have BK399 := n0_; have BK400 := n1_; have HB := n2_; clear n0_ n1_ n2_; (try clear hb); (try clear hb2); (try clear hk); (try clear hi); obtain ⟨hcz54_0, hcz54_1, hcz54_2, hcz54_3, hcz54_4, hcz54_5⟩ := Gv.c6 BK400.out; obtain ⟨hfz54_0, hfz54_1, hfz54_2, hfz54_3, hfz54_4, hfz54_5⟩ := Gv.f6 BK400.out) | (go_at_call 66; (with_reducible refine (impl_isAny.calls a1_0 a1_1 a1_2 a1_3 a1_4 a1_5 false _ A18.out).mono ?_); rintro e w55 ⟨rfl, hb⟩; have n0_ := Gv.a0 (Gv.bb BK399.out hb); have n1_ := Gv.a0 (Gv.bb BK400.out hb); have n2_ := Gv.a0 (below_step Gv.bw hb); clear BK399; clear BK400; clear HB; have BK399 := n0_; have BK400 := n1_; have HB := n2_; clear n0_ n1_ n2_; (try clear hb); (try clear hb2); (try clear hk); (try clear hi); obtain ⟨hcz56_0, hcz56_1, hcz56_2, hcz56_3, hcz56_4, hcz56_5⟩ := Gv.c6 BK399.out; obtain ⟨hfz56_0, hfz56_1, hfz56_2, hfz56_3, hfz56_4, hfz56_5⟩ := Gv.f6 BK399.out; obtain ⟨hcz57_0, hcz57_1, hcz57_2, hcz57_3, hcz57_4, hcz57_5⟩ := Gv.c6 BK400.out; obtain ⟨hfz57_0, hfz57_1, hfz57_2, hfz57_3, hfz57_4, hfz57_5⟩ := Gv.f6 BK400.out))
      go_ret
      exact ⟨Gv.rt, Gv.bw⟩
  ·replace c6 := Bool.eq_false_iff.mpr c6
   subst c6
   have H1 : (some false) = some r := by rw [if_neg (show ¬ (false = true) by decide)] at H; exact H
   clear H
   have H := H1
   clear H1
   obtain rfl := Option.some.inj H
   go_enter Try.func36, Try.ntmps36
   go_wp2_with (first | ((with_reducible refine gate_dst (N := 2) rfl ?_); refine box_event ?hg (N := 2) ?hd (cs := #[.int .i64 a0_0, .int .i64 a0_1, .int .i64 a0_2, .int .i64 a0_3, .int .i64 a0_4, .int .i64 a0_5]) (t := 29) ?hr ?_; (case hd => rfl); (case hg => rfl); (case hr => first | (go_simp; done) | (go_simp; rfl)); intro gb399 hg w58 hbox hb; have n0_ := Gv.a0 (below_step Gv.bw hb); have n1_ := Gv.a0 (hbox); have n2_ := Gv.a0 ((Gv.ble hg Gv.bw : w.heap.size ≤ gb399)); have n3_ := Gv.a0 ((Gv.ble hg Gv.bw : w.heap.size ≤ gb399)); clear HB; have HB := n0_; have BK399 := n1_; have GW399 := n2_; have GE399 := n3_; clear n0_ n1_ n2_ n3_; clear hb hbox hg) | ((with_reducible refine gate_dst (N := 3) rfl ?_); refine box_event ?hg (N := 3) ?hd (cs := #[.int .i64 a1_0, .int .i64 a1_1, .int .i64 a1_2, .int .i64 a1_3, .int .i64 a1_4, .int .i64 a1_5]) (t := 29) ?hr ?_; (case hd => rfl); (case hg => rfl); (case hr => first | (go_simp; done) | (go_simp; rfl)); intro gb400 hg w59 hbox hb; have n0_ := Gv.a0 (Gv.bb BK399.out hb); have n1_ := Gv.a0 (below_step Gv.bw hb); have n2_ := Gv.a0 (hbox); have n3_ := Gv.a0 ((Gv.ble hg Gv.bw : w.heap.size ≤ gb400)); have n4_ := Gv.a0 ((Gv.ble hg Gv.bw : w.heap.size ≤ gb400)); have n5_ := Gv.a0 ((Gv.nlt hg (Gv.kb BK399.out) : gb399 ≠ gb400)); have n6_ := Gv.a0 ((Gv.ngt hg (Gv.kb BK399.out) : gb400 ≠ gb399)); clear BK399; clear HB; have BK399 := n0_; have HB := n1_; have BK400 := n2_; have GW400 := n3_; have GE400 := n4_; have NB399_400 := n5_; have NB400_399 := n6_; clear n0_ n1_ n2_ n3_ n4_ n5_ n6_; clear hb hbox hg; have hnb60 := NB399_400.out; have hnc60 := NB400_399.out; obtain ⟨hcz61_0, hcz61_1, hcz61_2, hcz61_3, hcz61_4, hcz61_5⟩ := Gv.c6 BK399.out; obtain ⟨hfz61_0, hfz61_1, hfz61_2, hfz61_3, hfz61_4, hfz61_5⟩ := Gv.f6 BK399.out) | ((with_reducible refine gate_callee (f := 43) rfl ?_); refine goesL_ (some 6) rfl rfl Try.func43 (by kernel_rfl) rfl #[.agg #[.int .i64 a0_0, .int .i64 a0_1, .int .i64 a0_2, .int .i64 a0_3, .int .i64 a0_4, .int .i64 a0_5]] rfl Gv.lm ?_; (with_reducible refine (impl_PrefixOk.calls k a0_0 a0_1 a0_2 a0_3 a0_4 a0_5 true _ A3.out).mono ?_); rintro e w62 ⟨rfl, hb⟩; refine ⟨_, rfl, ?_⟩; have n0_ := Gv.a0 (Gv.bb BK399.out hb); have n1_ := Gv.a0 (Gv.bb BK400.out hb); have n2_ := Gv.a0 (below_step Gv.bw hb); clear BK399; clear BK400; clear HB; have BK399 := n0_; have BK400 := n1_; have HB := n2_; clear n0_ n1_ n2_; (try clear hb); (try clear hb2); (try clear hk); (try clear hi); obtain ⟨hcz63_0, hcz63_1, hcz63_2, hcz63_3, hcz63_4, hcz63_5⟩ := Gv.c6 BK400.out; obtain ⟨hfz63_0, hfz63_1, hfz63_2, hfz63_3, hfz63_4, hfz63_5⟩ := Gv.f6 BK400.out) | (go_at_call 43; (with_reducible refine (impl_PrefixOk.calls k a1_0 a1_1 a1_2 a1_3 a1_4 a1_5 false _ A5.out).mono ?_); rintro e w64 ⟨rfl, hb⟩; have n0_ := Gv.a0 (Gv.bb BK399.out hb); have n1_ := Gv.a0 (Gv.bb BK400.out hb); have n2_ := Gv.a0 (below_step Gv.bw hb); clear BK399; clear BK400; clear HB; have BK399 := n0_; have BK400 := n1_; have HB := n2_; clear n0_ n1_ n2_; (try clear hb); (try clear hb2); (try clear hk); (try clear hi)))
   go_ret
   exact ⟨Gv.rt, Gv.bw⟩
 ·replace c4 := Bool.eq_false_iff.mpr c4
  subst c4
  have H1 : (some false) = some r := by rw [if_neg (show ¬ (false = true) by decide)] at H; exact H
  clear H
  have H := H1
  clear H1
  obtain rfl := Option.some.inj H
  go_enter Try.func36, Try.ntmps36
  go_wp2_with (first | ((with_reducible refine gate_dst (N := 2) rfl ?_); refine box_event ?hg (N := 2) ?hd (cs := #[.int .i64 a0_0, .int .i64 a0_1, .int .i64 a0_2, .int .i64 a0_3, .int .i64 a0_4, .int .i64 a0_5]) (t := 29) ?hr ?_; (case hd => rfl); (case hg => rfl); (case hr => first | (go_simp; done) | (go_simp; rfl)); intro gb399 hg w65 hbox hb; have n0_ := Gv.a0 (below_step Gv.bw hb); have n1_ := Gv.a0 (hbox); have n2_ := Gv.a0 ((Gv.ble hg Gv.bw : w.heap.size ≤ gb399)); have n3_ := Gv.a0 ((Gv.ble hg Gv.bw : w.heap.size ≤ gb399)); clear HB; have HB := n0_; have BK399 := n1_; have GW399 := n2_; have GE399 := n3_; clear n0_ n1_ n2_ n3_; clear hb hbox hg) | ((with_reducible refine gate_dst (N := 3) rfl ?_); refine box_event ?hg (N := 3) ?hd (cs := #[.int .i64 a1_0, .int .i64 a1_1, .int .i64 a1_2, .int .i64 a1_3, .int .i64 a1_4, .int .i64 a1_5]) (t := 29) ?hr ?_; (case hd => rfl); (case hg => rfl); (case hr => first | (go_simp; done) | (go_simp; rfl)); intro gb400 hg w66 hbox hb; have n0_ := Gv.a0 (Gv.bb BK399.out hb); have n1_ := Gv.a0 (below_step Gv.bw hb); have n2_ := Gv.a0 (hbox); have n3_ := Gv.a0 ((Gv.ble hg Gv.bw : w.heap.size ≤ gb400)); have n4_ := Gv.a0 ((Gv.ble hg Gv.bw : w.heap.size ≤ gb400)); have n5_ := Gv.a0 ((Gv.nlt hg (Gv.kb BK399.out) : gb399 ≠ gb400)); have n6_ := Gv.a0 ((Gv.ngt hg (Gv.kb BK399.out) : gb400 ≠ gb399)); clear BK399; clear HB; have BK399 := n0_; have HB := n1_; have BK400 := n2_; have GW400 := n3_; have GE400 := n4_; have NB399_400 := n5_; have NB400_399 := n6_; clear n0_ n1_ n2_ n3_ n4_ n5_ n6_; clear hb hbox hg; have hnb67 := NB399_400.out; have hnc67 := NB400_399.out; obtain ⟨hcz68_0, hcz68_1, hcz68_2, hcz68_3, hcz68_4, hcz68_5⟩ := Gv.c6 BK399.out; obtain ⟨hfz68_0, hfz68_1, hfz68_2, hfz68_3, hfz68_4, hfz68_5⟩ := Gv.f6 BK399.out) | ((with_reducible refine gate_callee (f := 43) rfl ?_); refine goesL_ (some 6) rfl rfl Try.func43 (by kernel_rfl) rfl #[.agg #[.int .i64 a0_0, .int .i64 a0_1, .int .i64 a0_2, .int .i64 a0_3, .int .i64 a0_4, .int .i64 a0_5]] rfl Gv.lm ?_; (with_reducible refine (impl_PrefixOk.calls k a0_0 a0_1 a0_2 a0_3 a0_4 a0_5 false _ A3.out).mono ?_); rintro e w69 ⟨rfl, hb⟩; refine ⟨_, rfl, ?_⟩; have n0_ := Gv.a0 (Gv.bb BK399.out hb); have n1_ := Gv.a0 (Gv.bb BK400.out hb); have n2_ := Gv.a0 (below_step Gv.bw hb); clear BK399; clear BK400; clear HB; have BK399 := n0_; have BK400 := n1_; have HB := n2_; clear n0_ n1_ n2_; (try clear hb); (try clear hb2); (try clear hk); (try clear hi)))
  go_ret
  exact ⟨Gv.rt, Gv.bw⟩

/-! ### impl_isRange: function 45 -/
def impl_isRange.f (a0 : Int) (a1 : Int) : Option (Bool) := if a0 ≥ 0 then (if a0 ≤ a1 then (some (decide (a1 ≤ 65535))) else (some false)) else (some false)
set_option maxHeartbeats 8000000 in
set_option maxRecDepth 100000 in
theorem impl_isRange.calls (a0 : Int) (a1 : Int) (r : Bool) (w : World) (h : impl_isRange.f a0 a1 = some r) :
  Calls Try.prog 45 #[.int .i64 a0, .int .i64 a1] w fun e w' => e = .returned (.bool r) ∧ Drawn0 w w' := by
 have H : (if a0 ≥ 0 then (if a0 ≤ a1 then (some (decide (a1 ≤ 65535))) else (some false)) else (some false)) = some r := h
 clear h
 by_cases c3 : a0 ≥ 0
 ·rw [if_pos c3] at H
  have c3b0 : decide (0 ≤ a0) = true := decide_eq_true c3
  clear c3
  by_cases c4 : a0 ≤ a1
  ·rw [if_pos c4] at H
   have c4b0 : decide (a0 ≤ a1) = true := decide_eq_true c4
   clear c4
   obtain rfl := Option.some.inj H
   go_enter Try.func45, Try.ntmps45
   go_wp2
   go_ret
   exact ⟨by first | rfl | (simp; done) | (simp [Int.tdiv_eq_ediv_of_nonneg]; done) | (simp [*]; done), by repeat (first | exact Drawn0.refl _ | apply Drawn0.step)⟩
  ·rw [if_neg c4] at H
   have c4b0 : decide (a0 ≤ a1) = false := decide_eq_false c4
   clear c4
   obtain rfl := Option.some.inj H
   go_enter Try.func45, Try.ntmps45
   go_wp2
   go_ret
   exact ⟨by first | rfl | (simp; done) | (simp [Int.tdiv_eq_ediv_of_nonneg]; done) | (simp [*]; done), by repeat (first | exact Drawn0.refl _ | apply Drawn0.step)⟩
 ·rw [if_neg c3] at H
  have c3b0 : decide (0 ≤ a0) = false := decide_eq_false c3
  clear c3
  obtain rfl := Option.some.inj H
  go_enter Try.func45, Try.ntmps45
  go_wp2
  go_ret
  exact ⟨by first | rfl | (simp; done) | (simp [Int.tdiv_eq_ediv_of_nonneg]; done) | (simp [*]; done), by repeat (first | exact Drawn0.refl _ | apply Drawn0.step)⟩

/-! ### impl_ModuleOk: function 15 -/
def impl_ModuleOk.j0 : Nat → Int → Bool → Int → Int → Int → Int → Int → Int → Int → Int → Int → Int → Int → Int → Int → Int → Int → Int → Int → Int → Int → Int → Int → Int → Int → Int → Int → Int → Int → Int → Int → Int → Int → Int → Int → Int → Option (Bool)
 | 0, _, _, _, _, _, _, _, _, _, _, _, _, _, _, _, _, _, _, _, _, _, _, _, _, _, _, _, _, _, _, _, _, _, _, _, _ => none
 | k + 1, x6, x34, x406000, x406001, x406002, x406003, x406004, x406005, x406006, x406007, x406008, x406009, x406010, x406011, x406012, x406013, x406014, x406015, x406016, x407000, x407001, x407002, x407003, x407004, x407005, x407006, x407007, x407008, x407009, x407010, x407011, x407012, x407013, x407014, x407015, x407016 => if x34 = true then ((impl_arePairOf.f k x406001 x406002 x406003 x406004 x406005 x406006 x406007 x406008 x406009 x406010 x406011 x406012).bind fun t411 => (if t411 = true then (some (x407000 == x406000 && (x407013 == 0 && (x407014 == 0 && (x407015 == 0 && (x407016 == 0)))))) else (some false))) else (if x6 = 5 then ((impl_within.f x406016 0 63).bind fun t412 => (if t412 = true then (some (x407000 == x406000 && (((x407001 == 0 && (x407002 == 0 && (x407003 == 0 && (x407004 == 0 && (x407005 == 0))))) && (x407006 == 0)) && (((x407007 == 0 && (x407008 == 0 && (x407009 == 0 && (x407010 == 0 && (x407011 == 0))))) && (x407012 == 0)) && (x407013 == 0 && (x407014 == 0 && (x407015 == 0))))))) else (some false))) else (if x6 = 7 then ((impl_within.f x406016 1 4).bind fun t413 => (if t413 = true then (some (x407000 == x406000 && (((x407001 == 0 && (x407002 == 0 && (x407003 == 0 && (x407004 == 0 && (x407005 == 0))))) && (x407006 == 0)) && (((x407007 == 0 && (x407008 == 0 && (x407009 == 0 && (x407010 == 0 && (x407011 == 0))))) && (x407012 == 0)) && (x407013 == 0 && (x407014 == 0 && (x407015 == 0))))))) else (some false))) else (if x6 = 4 then (some (x407000 == x406000 && (((x407001 == 0 && (x407002 == 0 && (x407003 == 0 && (x407004 == 0 && (x407005 == 0))))) && (x407006 == 0)) && (((x407007 == 0 && (x407008 == 0 && (x407009 == 0 && (x407010 == 0 && (x407011 == 0))))) && (x407012 == 0)) && (x407013 == 0 && (x407014 == 0 && (x407015 == 0 && (x407016 == 0)))))))) else (if x6 = 6 then (some (x407000 == x406000 && (((x407001 == 0 && (x407002 == 0 && (x407003 == 0 && (x407004 == 0 && (x407005 == 0))))) && (x407006 == 0)) && (((x407007 == 0 && (x407008 == 0 && (x407009 == 0 && (x407010 == 0 && (x407011 == 0))))) && (x407012 == 0)) && (x407013 == 0 && (x407014 == 0 && (x407015 == 0 && (x407016 == 0)))))))) else (some false)))))
def impl_ModuleOk.f (k : Nat) (a0_0 : Int) (a0_1 : Int) (a0_2 : Int) (a0_3 : Int) (a0_4 : Int) (a0_5 : Int) (a0_6 : Int) (a0_7 : Int) (a0_8 : Int) (a0_9 : Int) (a0_10 : Int) (a0_11 : Int) (a0_12 : Int) (a0_13 : Int) (a0_14 : Int) (a0_15 : Int) (a0_16 : Int) : Option (Bool) := if a0_0 = 1 then ((impl_PrefixOk.f k a0_1 a0_2 a0_3 a0_4 a0_5 a0_6).bind fun t407 => (if t407 = true then ((impl_PrefixOk.f k a0_7 a0_8 a0_9 a0_10 a0_11 a0_12).bind fun t408 => (if t408 = true then ((impl_within.f a0_13 (-1) 255).bind fun t409 => (if t409 = true then ((impl_isRange.f a0_14 a0_15).bind fun t410 => (if t410 = true then (some (a0_16 == 0)) else (some false))) else (some false))) else (some false))) else (some false))) else (if a0_0 = 2 then (impl_ModuleOk.j0 k a0_0 (a0_0 == 2) a0_0 a0_1 a0_2 a0_3 a0_4 a0_5 a0_6 a0_7 a0_8 a0_9 a0_10 a0_11 a0_12 a0_13 a0_14 a0_15 a0_16 a0_0 a0_1 a0_2 a0_3 a0_4 a0_5 a0_6 a0_7 a0_8 a0_9 a0_10 a0_11 a0_12 a0_13 a0_14 a0_15 a0_16) else (impl_ModuleOk.j0 k a0_0 (a0_0 == 3) a0_0 a0_1 a0_2 a0_3 a0_4 a0_5 a0_6 a0_7 a0_8 a0_9 a0_10 a0_11 a0_12 a0_13 a0_14 a0_15 a0_16 a0_0 a0_1 a0_2 a0_3 a0_4 a0_5 a0_6 a0_7 a0_8 a0_9 a0_10 a0_11 a0_12 a0_13 a0_14 a0_15 a0_16))
theorem impl_ModuleOk.mono_l : ∀ k, (∀ y0 y1 y2 y3 y4 y5 y6 y7 y8 y9 y10 y11 y12 y13 y14 y15 y16 y17 y18 y19 y20 y21 y22 y23 y24 y25 y26 y27 y28 y29 y30 y31 y32 y33 y34 y35, LeO (impl_ModuleOk.j0 k y0 y1 y2 y3 y4 y5 y6 y7 y8 y9 y10 y11 y12 y13 y14 y15 y16 y17 y18 y19 y20 y21 y22 y23 y24 y25 y26 y27 y28 y29 y30 y31 y32 y33 y34 y35) (impl_ModuleOk.j0 (k + 1) y0 y1 y2 y3 y4 y5 y6 y7 y8 y9 y10 y11 y12 y13 y14 y15 y16 y17 y18 y19 y20 y21 y22 y23 y24 y25 y26 y27 y28 y29 y30 y31 y32 y33 y34 y35))
 | 0 => fun _ _ _ _ _ _ _ _ _ _ _ _ _ _ _ _ _ _ _ _ _ _ _ _ _ _ _ _ _ _ _ _ _ _ _ _ r h => by simp [impl_ModuleOk.j0] at h
 | k + 1 => by
  have ih0 := impl_ModuleOk.mono_l k
  ·intro y0 y1 y2 y3 y4 y5 y6 y7 y8 y9 y10 y11 y12 y13 y14 y15 y16 y17 y18 y19 y20 y21 y22 y23 y24 y25 y26 y27 y28 y29 y30 y31 y32 y33 y34 y35
   unfold impl_ModuleOk.j0
   repeat' first
   | (with_reducible exact ih0 _ _ _ _ _ _ _ _ _ _ _ _ _ _ _ _ _ _ _ _ _ _ _ _ _ _ _ _ _ _ _ _ _ _ _ _)
   | (with_reducible exact impl_PrefixOk.mono _ _ _ _ _ _ _)
   | (with_reducible exact impl_arePairOf.mono _ _ _ _ _ _ _ _ _ _ _ _ _)
   | (with_reducible exact LeO.refl _)
   | (with_reducible exact LeO.none _)
   | (with_reducible refine LeO.ite ?_ ?_)
   | (with_reducible refine LeO.bind ?_ (fun _ => ?_))
   | exact ih0 _ _ _ _ _ _ _ _ _ _ _ _ _ _ _ _ _ _ _ _ _ _ _ _ _ _ _ _ _ _ _ _ _ _ _ _
   | exact impl_PrefixOk.mono _ _ _ _ _ _ _
   | exact impl_arePairOf.mono _ _ _ _ _ _ _ _ _ _ _ _ _
   | exact LeO.none _
   | refine LeO.ite ?_ ?_
   | refine LeO.bind ?_ (fun _ => ?_)
theorem impl_ModuleOk.mono : ∀ a0 a1 a2 a3 a4 a5 a6 a7 a8 a9 a10 a11 a12 a13 a14 a15 a16 k, LeO (impl_ModuleOk.f k a0 a1 a2 a3 a4 a5 a6 a7 a8 a9 a10 a11 a12 a13 a14 a15 a16) (impl_ModuleOk.f (k + 1) a0 a1 a2 a3 a4 a5 a6 a7 a8 a9 a10 a11 a12 a13 a14 a15 a16) := by
 intro a0 a1 a2 a3 a4 a5 a6 a7 a8 a9 a10 a11 a12 a13 a14 a15 a16 k
 have ih0 := impl_ModuleOk.mono_l k
 unfold impl_ModuleOk.f
 repeat' first
   | (with_reducible exact ih0 _ _ _ _ _ _ _ _ _ _ _ _ _ _ _ _ _ _ _ _ _ _ _ _ _ _ _ _ _ _ _ _ _ _ _ _)
   | (with_reducible exact impl_PrefixOk.mono _ _ _ _ _ _ _)
   | (with_reducible exact impl_arePairOf.mono _ _ _ _ _ _ _ _ _ _ _ _ _)
   | (with_reducible exact LeO.refl _)
   | (with_reducible exact LeO.none _)
   | (with_reducible refine LeO.ite ?_ ?_)
   | (with_reducible refine LeO.bind ?_ (fun _ => ?_))
   | exact ih0 _ _ _ _ _ _ _ _ _ _ _ _ _ _ _ _ _ _ _ _ _ _ _ _ _ _ _ _ _ _ _ _ _ _ _ _
   | exact impl_PrefixOk.mono _ _ _ _ _ _ _
   | exact impl_arePairOf.mono _ _ _ _ _ _ _ _ _ _ _ _ _
   | exact LeO.none _
   | refine LeO.ite ?_ ?_
   | refine LeO.bind ?_ (fun _ => ?_)
set_option maxHeartbeats 8000000 in
set_option maxRecDepth 100000 in
theorem impl_ModuleOk.calls (k : Nat) (a0_0 : Int) (a0_1 : Int) (a0_2 : Int) (a0_3 : Int) (a0_4 : Int) (a0_5 : Int) (a0_6 : Int) (a0_7 : Int) (a0_8 : Int) (a0_9 : Int) (a0_10 : Int) (a0_11 : Int) (a0_12 : Int) (a0_13 : Int) (a0_14 : Int) (a0_15 : Int) (a0_16 : Int) (r : Bool) (w : World) (h : impl_ModuleOk.f k a0_0 a0_1 a0_2 a0_3 a0_4 a0_5 a0_6 a0_7 a0_8 a0_9 a0_10 a0_11 a0_12 a0_13 a0_14 a0_15 a0_16 = some r) :
  Calls Try.prog 15 #[.agg #[.int .i64 a0_0, .int .i64 a0_1, .int .i64 a0_2, .int .i64 a0_3, .int .i64 a0_4, .int .i64 a0_5, .int .i64 a0_6, .int .i64 a0_7, .int .i64 a0_8, .int .i64 a0_9, .int .i64 a0_10, .int .i64 a0_11, .int .i64 a0_12, .int .i64 a0_13, .int .i64 a0_14, .int .i64 a0_15, .int .i64 a0_16]] w fun e w' => e = .returned (.bool r) ∧ Below w.heap.size w w' := by
 have hu38 := Try.underlying38
 have hu29 := Try.underlying29
 have HB := Gv.a0 (Below.refl w.heap.size w)
 have H : (if a0_0 = 1 then ((impl_PrefixOk.f k a0_1 a0_2 a0_3 a0_4 a0_5 a0_6).bind fun t407 => (if t407 = true then ((impl_PrefixOk.f k a0_7 a0_8 a0_9 a0_10 a0_11 a0_12).bind fun t408 => (if t408 = true then ((impl_within.f a0_13 (-1) 255).bind fun t409 => (if t409 = true then ((impl_isRange.f a0_14 a0_15).bind fun t410 => (if t410 = true then (some (a0_16 == 0)) else (some false))) else (some false))) else (some false))) else (some false))) else (if a0_0 = 2 then (impl_ModuleOk.j0 k a0_0 (a0_0 == 2) a0_0 a0_1 a0_2 a0_3 a0_4 a0_5 a0_6 a0_7 a0_8 a0_9 a0_10 a0_11 a0_12 a0_13 a0_14 a0_15 a0_16 a0_0 a0_1 a0_2 a0_3 a0_4 a0_5 a0_6 a0_7 a0_8 a0_9 a0_10 a0_11 a0_12 a0_13 a0_14 a0_15 a0_16) else (impl_ModuleOk.j0 k a0_0 (a0_0 == 3) a0_0 a0_1 a0_2 a0_3 a0_4 a0_5 a0_6 a0_7 a0_8 a0_9 a0_10 a0_11 a0_12 a0_13 a0_14 a0_15 a0_16 a0_0 a0_1 a0_2 a0_3 a0_4 a0_5 a0_6 a0_7 a0_8 a0_9 a0_10 a0_11 a0_12 a0_13 a0_14 a0_15 a0_16))) = some r := h
 clear h
 by_cases c2 : a0_0 = 1
 ·rw [if_pos c2] at H
  have c2b0 : (a0_0 == 1) = true := beq_iff_eq.mpr c2
  have c2b1 : (a0_0 != 1) = false := bne_eq_false_iff_eq.mpr c2
  clear c2
  replace H := Option.bind_eq_some_iff.mp H
  obtain ⟨t407, A30, H⟩ := H
  replace H : (if t407 = true then ((impl_PrefixOk.f k a0_7 a0_8 a0_9 a0_10 a0_11 a0_12).bind fun t408 => (if t408 = true then ((impl_within.f a0_13 (-1) 255).bind fun t409 => (if t409 = true then ((impl_isRange.f a0_14 a0_15).bind fun t410 => (if t410 = true then (some (a0_16 == 0)) else (some false))) else (some false))) else (some false))) else (some false)) = some r := H
  have A3 := Gv.a0 A30
  clear A30
  by_cases c4 : t407 = true
  ·subst c4
   have H1 : ((impl_PrefixOk.f k a0_7 a0_8 a0_9 a0_10 a0_11 a0_12).bind fun t408 => (if t408 = true then ((impl_within.f a0_13 (-1) 255).bind fun t409 => (if t409 = true then ((impl_isRange.f a0_14 a0_15).bind fun t410 => (if t410 = true then (some (a0_16 == 0)) else (some false))) else (some false))) else (some false))) = some r := by rw [if_pos rfl] at H; exact H
   clear H
   have H := H1
   clear H1
   replace H := Option.bind_eq_some_iff.mp H
   obtain ⟨t408, A50, H⟩ := H
   replace H : (if t408 = true then ((impl_within.f a0_13 (-1) 255).bind fun t409 => (if t409 = true then ((impl_isRange.f a0_14 a0_15).bind fun t410 => (if t410 = true then (some (a0_16 == 0)) else (some false))) else (some false))) else (some false)) = some r := H
   have A5 := Gv.a0 A50
   clear A50
   by_cases c6 : t408 = true
   ·subst c6
    have H1 : ((impl_within.f a0_13 (-1) 255).bind fun t409 => (if t409 = true then ((impl_isRange.f a0_14 a0_15).bind fun t410 => (if t410 = true then (some (a0_16 == 0)) else (some false))) else (some false))) = some r := by rw [if_pos rfl] at H; exact H
    clear H
    have H := H1
    clear H1
    replace H := Option.bind_eq_some_iff.mp H
    obtain ⟨t409, A70, H⟩ := H
    replace H : (if t409 = true then ((impl_isRange.f a0_14 a0_15).bind fun t410 => (if t410 = true then (some (a0_16 == 0)) else (some false))) else (some false)) = some r := H
    have A7 := Gv.a0 A70
    clear A70
    by_cases c8 : t409 = true
    ·subst c8
     have H1 : ((impl_isRange.f a0_14 a0_15).bind fun t410 => (if t410 = true then (some (a0_16 == 0)) else (some false))) = some r := by rw [if_pos rfl] at H; exact H
     clear H
     have H := H1
     clear H1
     replace H := Option.bind_eq_some_iff.mp H
     obtain ⟨t410, A90, H⟩ := H
     replace H : (if t410 = true then (some (a0_16 == 0)) else (some false)) = some r := H
     have A9 := Gv.a0 A90
     clear A90
     by_cases c10 : t410 = true
     ·subst c10
      have H1 : (some (a0_16 == 0)) = some r := by rw [if_pos rfl] at H; exact H
      clear H
      have H := H1
      clear H1
      obtain rfl := Option.some.inj H
      go_enter Try.func15, Try.ntmps15
      go_wp2_with (first | ((with_reducible refine gate_dst (N := 1) rfl ?_); refine box_event ?hg (N := 1) ?hd (cs := #[.int .i64 a0_0, .int .i64 a0_1, .int .i64 a0_2, .int .i64 a0_3, .int .i64 a0_4, .int .i64 a0_5, .int .i64 a0_6, .int .i64 a0_7, .int .i64 a0_8, .int .i64 a0_9, .int .i64 a0_10, .int .i64 a0_11, .int .i64 a0_12, .int .i64 a0_13, .int .i64 a0_14, .int .i64 a0_15, .int .i64 a0_16]) (t := 38) ?hr ?_; (case hd => rfl); (case hg => rfl); (case hr => first | (go_simp; done) | (go_simp; rfl)); intro gb405 hg w11 hbox hb; have n0_ := Gv.a0 (below_step Gv.bw hb); have n1_ := Gv.a0 (hbox); have n2_ := Gv.a0 ((Gv.ble hg Gv.bw : w.heap.size ≤ gb405)); have n3_ := Gv.a0 ((Gv.ble hg Gv.bw : w.heap.size ≤ gb405)); clear HB; have HB := n0_; have BK405 := n1_; have GW405 := n2_; have GE405 := n3_; clear n0_ n1_ n2_ n3_; clear hb hbox hg; obtain ⟨hcz12_0, hcz12_1, hcz12_2, hcz12_3, hcz12_4, hcz12_5, hcz12_6, hcz12_7, hcz12_8, hcz12_9, hcz12_10, hcz12_11, hcz12_12, hcz12_13, hcz12_14, hcz12_15, hcz12_16⟩ := Gv.c17 BK405.out; obtain ⟨hfz12_0, hfz12_1, hfz12_2, hfz12_3, hfz12_4, hfz12_5, hfz12_6, hfz12_7, hfz12_8, hfz12_9, hfz12_10, hfz12_11, hfz12_12, hfz12_13, hfz12_14, hfz12_15, hfz12_16⟩ := Gv.f17 BK405.out) | ((with_reducible refine gate_store (t := 38) (p := 1) rfl ?_); refine Gv.store_event rfl rfl rfl rfl rfl (Gv.kb BK405.out) (by kernel_rfl) rfl (by simp; and_intros <;> rfl) ?_; intro w11s hbox hoth hbel; have n0_ := Gv.a0 (hbox); have n1_ := Gv.a0 (hbel w Gv.bw GE405.out); clear BK405 HB; have BK405 := n0_; have HB := n1_; clear n0_ n1_ hbox hoth hbel; (try clear hcz12_0 hcz12_1 hcz12_2 hcz12_3 hcz12_4 hcz12_5 hcz12_6 hcz12_7 hcz12_8 hcz12_9 hcz12_10 hcz12_11 hcz12_12 hcz12_13 hcz12_14 hcz12_15 hcz12_16 hfz12_0 hfz12_1 hfz12_2 hfz12_3 hfz12_4 hfz12_5 hfz12_6 hfz12_7 hfz12_8 hfz12_9 hfz12_10 hfz12_11 hfz12_12 hfz12_13 hfz12_14 hfz12_15 hfz12_16); obtain ⟨hcz12_0, hcz12_1, hcz12_2, hcz12_3, hcz12_4, hcz12_5, hcz12_6, hcz12_7, hcz12_8, hcz12_9, hcz12_10, hcz12_11, hcz12_12, hcz12_13, hcz12_14, hcz12_15, hcz12_16⟩ := Gv.c17 BK405.out; obtain ⟨hfz12_0, hfz12_1, hfz12_2, hfz12_3, hfz12_4, hfz12_5, hfz12_6, hfz12_7, hfz12_8, hfz12_9, hfz12_10, hfz12_11, hfz12_12, hfz12_13, hfz12_14, hfz12_15, hfz12_16⟩ := Gv.f17 BK405.out) | ((with_reducible refine gate_dst (N := 3) rfl ?_); refine box_event ?hg (N := 3) ?hd (cs := #[.int .i64 0, .int .i64 0, .int .i64 0, .int .i64 0, .int .i64 0, .int .i64 0, .int .i64 0, .int .i64 0, .int .i64 0, .int .i64 0, .int .i64 0, .int .i64 0, .int .i64 0, .int .i64 0, .int .i64 0, .int .i64 0, .int .i64 0]) (t := 38) ?hr ?_; (case hd => rfl); (case hg => rfl); (case hr => first | (go_simp; done) | (go_simp; rfl)); intro gb406 hg w13 hbox hb; have n0_ := Gv.a0 (Gv.bb BK405.out hb); have n1_ := Gv.a0 (below_step Gv.bw hb); have n2_ := Gv.a0 (hbox); have n3_ := Gv.a0 ((Gv.ble hg Gv.bw : w.heap.size ≤ gb406)); have n4_ := Gv.a0 ((Gv.ble hg Gv.bw : w.heap.size ≤ gb406)); have n5_ := Gv.a0 ((Gv.nlt hg (Gv.kb BK405.out) : gb405 ≠ gb406)); have n6_ := Gv.a0 ((Gv.ngt hg (Gv.kb BK405.out) : gb406 ≠ gb405)); clear BK405; clear HB; have BK405 := n0_; have HB := n1_; have BK406 := n2_; have GW406 := n3_; have GE406 := n4_; have NB405_406 := n5_; have NB406_405 := n6_; clear n0_ n1_ n2_ n3_ n4_ n5_ n6_; clear hb hbox hg; have hnb14 := NB406_405.out; have hnc14 := NB405_406.out; obtain ⟨hcz15_0, hcz15_1, hcz15_2, hcz15_3, hcz15_4, hcz15_5, hcz15_6, hcz15_7, hcz15_8, hcz15_9, hcz15_10, hcz15_11, hcz15_12, hcz15_13, hcz15_14, hcz15_15, hcz15_16⟩ := Gv.c17 BK406.out; obtain ⟨hfz15_0, hfz15_1, hfz15_2, hfz15_3, hfz15_4, hfz15_5, hfz15_6, hfz15_7, hfz15_8, hfz15_9, hfz15_10, hfz15_11, hfz15_12, hfz15_13, hfz15_14, hfz15_15, hfz15_16⟩ := Gv.f17 BK406.out; obtain ⟨hcz16_0, hcz16_1, hcz16_2, hcz16_3, hcz16_4, hcz16_5, hcz16_6, hcz16_7, hcz16_8, hcz16_9, hcz16_10, hcz16_11, hcz16_12, hcz16_13, hcz16_14, hcz16_15, hcz16_16⟩ := Gv.c17 BK405.out; obtain ⟨hfz16_0, hfz16_1, hfz16_2, hfz16_3, hfz16_4, hfz16_5, hfz16_6, hfz16_7, hfz16_8, hfz16_9, hfz16_10, hfz16_11, hfz16_12, hfz16_13, hfz16_14, hfz16_15, hfz16_16⟩ := Gv.f17 BK405.out) | ((with_reducible refine gate_store (t := 38) (p := 3) rfl ?_); refine Gv.store_event rfl rfl rfl rfl rfl (Gv.kb BK406.out) (by kernel_rfl) rfl (by simp; and_intros <;> rfl) ?_; intro w13s hbox hoth hbel; have n0_ := Gv.a0 (hbox); have n1_ := Gv.a0 (hbel w Gv.bw GE406.out); have n2_ := Gv.a0 ((hoth gb405 NB405_406.out).trans (Gv.kb BK405.out)); clear BK406 HB BK405; have BK406 := n0_; have HB := n1_; have BK405 := n2_; clear n0_ n1_ n2_ hbox hoth hbel; (try clear hcz15_0 hcz15_1 hcz15_2 hcz15_3 hcz15_4 hcz15_5 hcz15_6 hcz15_7 hcz15_8 hcz15_9 hcz15_10 hcz15_11 hcz15_12 hcz15_13 hcz15_14 hcz15_15 hcz15_16 hfz15_0 hfz15_1 hfz15_2 hfz15_3 hfz15_4 hfz15_5 hfz15_6 hfz15_7 hfz15_8 hfz15_9 hfz15_10 hfz15_11 hfz15_12 hfz15_13 hfz15_14 hfz15_15 hfz15_16 hcz16_0 hcz16_1 hcz16_2 hcz16_3 hcz16_4 hcz16_5 hcz16_6 hcz16_7 hcz16_8 hcz16_9 hcz16_10 hcz16_11 hcz16_12 hcz16_13 hcz16_14 hcz16_15 hcz16_16 hfz16_0 hfz16_1 hfz16_2 hfz16_3 hfz16_4 hfz16_5 hfz16_6 hfz16_7 hfz16_8 hfz16_9 hfz16_10 hfz16_11 hfz16_12 hfz16_13 hfz16_14 hfz16_15 hfz16_16); obtain ⟨hcz15_0, hcz15_1, hcz15_2, hcz15_3, hcz15_4, hcz15_5, hcz15_6, hcz15_7, hcz15_8, hcz15_9, hcz15_10, hcz15_11, hcz15_12, hcz15_13, hcz15_14, hcz15_15, hcz15_16⟩ := Gv.c17 BK406.out; obtain ⟨hfz15_0, hfz15_1, hfz15_2, hfz15_3, hfz15_4, hfz15_5, hfz15_6, hfz15_7, hfz15_8, hfz15_9, hfz15_10, hfz15_11, hfz15_12, hfz15_13, hfz15_14, hfz15_15, hfz15_16⟩ := Gv.f17 BK406.out; obtain ⟨hcz16_0, hcz16_1, hcz16_2, hcz16_3, hcz16_4, hcz16_5, hcz16_6, hcz16_7, hcz16_8, hcz16_9, hcz16_10, hcz16_11, hcz16_12, hcz16_13, hcz16_14, hcz16_15, hcz16_16⟩ := Gv.c17 BK405.out; obtain ⟨hfz16_0, hfz16_1, hfz16_2, hfz16_3, hfz16_4, hfz16_5, hfz16_6, hfz16_7, hfz16_8, hfz16_9, hfz16_10, hfz16_11, hfz16_12, hfz16_13, hfz16_14, hfz16_15, hfz16_16⟩ := Gv.f17 BK405.out) | ((with_reducible refine gate_callee (f := 43) rfl ?_); refine goesL_ (some 11) rfl rfl Try.func43 (by kernel_rfl) rfl #[.agg #[.int .i64 a0_1, .int .i64 a0_2, .int .i64 a0_3, .int .i64 a0_4, .int .i64 a0_5, .int .i64 a0_6]] rfl Gv.lm ?_; (with_reducible refine (impl_PrefixOk.calls k a0_1 a0_2 a0_3 a0_4 a0_5 a0_6 true _ A3.out).mono ?_); rintro e w17 ⟨rfl, hb⟩; refine ⟨_, rfl, ?_⟩; have n0_ := Gv.a0 (blk_below (g := gb405) (o := .cells #[.int .i64 a0_0, .int .i64 a0_1, .int .i64 a0_2, .int .i64 a0_3, .int .i64 a0_4, .int .i64 a0_5, .int .i64 a0_6, .int .i64 a0_7, .int .i64 a0_8, .int .i64 a0_9, .int .i64 a0_10, .int .i64 a0_11, .int .i64 a0_12, .int .i64 a0_13, .int .i64 a0_14, .int .i64 a0_15, .int .i64 a0_16] 38 (0, 0)) Gv.bkf hb); have n1_ := Gv.a0 (blk_below (g := gb406) (o := .cells #[.int .i64 a0_0, .int .i64 a0_1, .int .i64 a0_2, .int .i64 a0_3, .int .i64 a0_4, .int .i64 a0_5, .int .i64 a0_6, .int .i64 a0_7, .int .i64 a0_8, .int .i64 a0_9, .int .i64 a0_10, .int .i64 a0_11, .int .i64 a0_12, .int .i64 a0_13, .int .i64 a0_14, .int .i64 a0_15, .int .i64 a0_16] 38 (0, 0)) (by (with_reducible repeat (first | refine blk_drewN ?_ _ | refine blk_drew ?_ | refine blk_alloc ?_ _)); exact BK406.out) hb); have n2_ := Gv.a0 (below_step Gv.bw hb); clear BK405; clear BK406; clear HB; have BK405 := n0_; have BK406 := n1_; have HB := n2_; clear n0_ n1_ n2_; (try clear hb); (try clear hb2); (try clear hk); (try clear hi); obtain ⟨hcz18_0, hcz18_1, hcz18_2, hcz18_3, hcz18_4, hcz18_5, hcz18_6, hcz18_7, hcz18_8, hcz18_9, hcz18_10, hcz18_11, hcz18_12, hcz18_13, hcz18_14, hcz18_15, hcz18_16⟩ := Gv.c17 BK405.out; obtain ⟨hfz18_0, hfz18_1, hfz18_2, hfz18_3, hfz18_4, hfz18_5, hfz18_6, hfz18_7, hfz18_8, hfz18_9, hfz18_10, hfz18_11, hfz18_12, hfz18_13, hfz18_14, hfz18_15, hfz18_16⟩ := Gv.f17 BK405.out) | (go_at_call 43; (with_reducible refine (impl_PrefixOk.calls k a0_7 a0_8 a0_9 a0_10 a0_11 a0_12 true _ A5.out).mono ?_); rintro e w19 ⟨rfl, hb⟩; have n0_ := Gv.a0 (Gv.bb BK405.out hb); have n1_ := Gv.a0 (Gv.bb BK406.out hb); have n2_ := Gv.a0 (below_step Gv.bw hb); clear BK405; clear BK406; clear HB; have BK405 := n0_; have BK406 := n1_; have HB := n2_; clear n0_ n1_ n2_; (try clear hb); (try clear hb2); (try clear hk); (try clear hi); obtain ⟨hcz20_0, hcz20_1, hcz20_2, hcz20_3, hcz20_4, hcz20_5, hcz20_6, hcz20_7, hcz20_8, hcz20_9, hcz20_10, hcz20_11, hcz20_12, hcz20_13, hcz20_14, hcz20_15, hcz20_16⟩ := Gv.c17 BK405.out; obtain ⟨hfz20_0, hfz20_1, hfz20_2, hfz20_3, hfz20_4, hfz20_5, hfz20_6, hfz20_7, hfz20_8, hfz20_9, hfz20_10, hfz20_11, hfz20_12, hfz20_13, hfz20_14, hfz20_15, hfz20_16⟩ := Gv.f17 BK405.out) | (go_at_call 44; (with_reducible refine (impl_within.calls a0_13 (-1) 255 true _ A7.out).mono ?_); rintro e w' ⟨rfl, ⟨nd, rfl⟩⟩) | (go_at_call 45; (with_reducible refine (impl_isRange.calls a0_14 a0_15 true _ A9.out).mono ?_); rintro e w' ⟨rfl, ⟨nd, rfl⟩⟩) | ((with_reducible refine Gv.gate_load (t := 38) rfl ?_); (try (refine gate_guard (by rfl) ?_; dsimp only)); refine wpList_load_row rfl 38 _ rfl gb405 rfl 38 _ _ _ (by first | exact Gv.kb0 BK405.out | exact Gv.kb1 (Gv.kb0 BK405.out)) Try.underlying38 rfl (by kernel_rfl) ?_) | ((with_reducible refine Gv.gate_load (t := 38) rfl ?_); (try (refine gate_guard (by rfl) ?_; dsimp only)); refine wpList_load_row rfl 38 _ rfl gb406 rfl 38 _ _ _ (by first | exact Gv.kb0 BK406.out | exact Gv.kb1 (Gv.kb0 BK406.out)) Try.underlying38 rfl (by kernel_rfl) ?_) | ((with_reducible refine gate_store (t := 3) rfl ?_); refine Gv.put_event (g := gb405) rfl rfl rfl rfl rfl (Gv.kb0 BK405.out) (by kernel_rfl) (by simp) ?_; intro wp_ hbox hoth hbel; simp only [List.setIfInBounds_toArray, List.set_cons_succ, List.set_cons_zero] at hbox; have n0_ := Gv.a0 hbox; have n1_ := Gv.a0 (hbel w Gv.bw GE405.out); have n2_ := Gv.a0 ((hoth gb406 NB406_405.out).trans (Gv.kb0 BK406.out)); clear BK405 HB BK406; have BK405 := n0_; have HB := n1_; have BK406 := n2_; clear n0_ n1_ n2_ hbox hoth hbel; obtain ⟨pc405_0, pc405_1, pc405_2, pc405_3, pc405_4, pc405_5, pc405_6, pc405_7, pc405_8, pc405_9, pc405_10, pc405_11, pc405_12, pc405_13, pc405_14, pc405_15, pc405_16⟩ := Gv.c17 BK405.out; obtain ⟨pf405_0, pf405_1, pf405_2, pf405_3, pf405_4, pf405_5, pf405_6, pf405_7, pf405_8, pf405_9, pf405_10, pf405_11, pf405_12, pf405_13, pf405_14, pf405_15, pf405_16⟩ := Gv.f17 BK405.out; obtain ⟨pc406_0, pc406_1, pc406_2, pc406_3, pc406_4, pc406_5, pc406_6, pc406_7, pc406_8, pc406_9, pc406_10, pc406_11, pc406_12, pc406_13, pc406_14, pc406_15, pc406_16⟩ := Gv.c17 BK406.out; obtain ⟨pf406_0, pf406_1, pf406_2, pf406_3, pf406_4, pf406_5, pf406_6, pf406_7, pf406_8, pf406_9, pf406_10, pf406_11, pf406_12, pf406_13, pf406_14, pf406_15, pf406_16⟩ := Gv.f17 BK406.out) | ((with_reducible refine gate_store (t := 3) rfl ?_); refine Gv.put_event (g := gb406) rfl rfl rfl rfl rfl (Gv.kb0 BK406.out) (by kernel_rfl) (by simp) ?_; intro wp_ hbox hoth hbel; simp only [List.setIfInBounds_toArray, List.set_cons_succ, List.set_cons_zero] at hbox; have n0_ := Gv.a0 hbox; have n1_ := Gv.a0 (hbel w Gv.bw GE406.out); have n2_ := Gv.a0 ((hoth gb405 NB405_406.out).trans (Gv.kb0 BK405.out)); clear BK406 HB BK405; have BK406 := n0_; have HB := n1_; have BK405 := n2_; clear n0_ n1_ n2_ hbox hoth hbel; obtain ⟨pc406_0, pc406_1, pc406_2, pc406_3, pc406_4, pc406_5, pc406_6, pc406_7, pc406_8, pc406_9, pc406_10, pc406_11, pc406_12, pc406_13, pc406_14, pc406_15, pc406_16⟩ := Gv.c17 BK406.out; obtain ⟨pf406_0, pf406_1, pf406_2, pf406_3, pf406_4, pf406_5, pf406_6, pf406_7, pf406_8, pf406_9, pf406_10, pf406_11, pf406_12, pf406_13, pf406_14, pf406_15, pf406_16⟩ := Gv.f17 BK406.out; obtain ⟨pc405_0, pc405_1, pc405_2, pc405_3, pc405_4, pc405_5, pc405_6, pc405_7, pc405_8, pc405_9, pc405_10, pc405_11, pc405_12, pc405_13, pc405_14, pc405_15, pc405_16⟩ := Gv.c17 BK405.out; obtain ⟨pf405_0, pf405_1, pf405_2, pf405_3, pf405_4, pf405_5, pf405_6, pf405_7, pf405_8, pf405_9, pf405_10, pf405_11, pf405_12, pf405_13, pf405_14, pf405_15, pf405_16⟩ := Gv.f17 BK405.out))
      go_ret
      exact ⟨Gv.rt, Gv.bw⟩
     ·replace c10 := Bool.eq_false_iff.mpr c10
      subst c10
      have H1 : (some false) = some r := by rw [if_neg (show ¬ (false = true) by decide)] at H; exact H
      clear H
      have H := H1
      clear H1
      obtain rfl := Option.some.inj H
      go_enter Try.func15, Try.ntmps15
      go_wp2_with (first | ((with_reducible refine gate_dst (N := 1) rfl ?_); refine box_event ?hg (N := 1) ?hd (cs := #[.int .i64 a0_0, .int .i64 a0_1, .int .i64 a0_2, .int .i64 a0_3, .int .i64 a0_4, .int .i64 a0_5, .int .i64 a0_6, .int .i64 a0_7, .int .i64 a0_8, .int .i64 a0_9, .int .i64 a0_10, .int .i64 a0_11, .int .i64 a0_12, .int .i64 a0_13, .int .i64 a0_14, .int .i64 a0_15, .int .i64 a0_16]) (t := 38) ?hr ?_; (case hd => rfl); (case hg => rfl); (case hr => first | (go_simp; done) | (go_simp; rfl)); intro gb405 hg w21 hbox hb; have n0_ := Gv.a0 (below_step Gv.bw hb); have n1_ := Gv.a0 (hbox); have n2_ := Gv.a0 ((Gv.ble hg Gv.bw : w.heap.size ≤ gb405)); have n3_ := Gv.a0 ((Gv.ble hg Gv.bw : w.heap.size ≤ gb405)); clear HB; have HB := n0_; have BK405 := n1_; have GW405 := n2_; have GE405 := n3_; clear n0_ n1_ n2_ n3_; clear hb hbox hg; obtain ⟨hcz22_0, hcz22_1, hcz22_2, hcz22_3, hcz22_4, hcz22_5, hcz22_6, hcz22_7, hcz22_8, hcz22_9, hcz22_10, hcz22_11, hcz22_12, hcz22_13, hcz22_14, hcz22_15, hcz22_16⟩ := Gv.c17 BK405.out; obtain ⟨hfz22_0, hfz22_1, hfz22_2, hfz22_3, hfz22_4, hfz22_5, hfz22_6, hfz22_7, hfz22_8, hfz22_9, hfz22_10, hfz22_11, hfz22_12, hfz22_13, hfz22_14, hfz22_15, hfz22_16⟩ := Gv.f17 BK405.out) | ((with_reducible refine gate_store (t := 38) (p := 1) rfl ?_); refine Gv.store_event rfl rfl rfl rfl rfl (Gv.kb BK405.out) (by kernel_rfl) rfl (by simp; and_intros <;> rfl) ?_; intro w21s hbox hoth hbel; have n0_ := Gv.a0 (hbox); have n1_ := Gv.a0 (hbel w Gv.bw GE405.out); clear BK405 HB; have BK405 := n0_; have HB := n1_; clear n0_ n1_ hbox hoth hbel; (try clear hcz22_0 hcz22_1 hcz22_2 hcz22_3 hcz22_4 hcz22_5 hcz22_6 hcz22_7 hcz22_8 hcz22_9 hcz22_10 hcz22_11 hcz22_12 hcz22_13 hcz22_14 hcz22_15 hcz22_16 hfz22_0 hfz22_1 hfz22_2 hfz22_3 hfz22_4 hfz22_5 hfz22_6 hfz22_7 hfz22_8 hfz22_9 hfz22_10 hfz22_11 hfz22_12 hfz22_13 hfz22_14 hfz22_15 hfz22_16); obtain ⟨hcz22_0, hcz22_1, hcz22_2, hcz22_3, hcz22_4, hcz22_5, hcz22_6, hcz22_7, hcz22_8, hcz22_9, hcz22_10, hcz22_11, hcz22_12, hcz22_13, hcz22_14, hcz22_15, hcz22_16⟩ := Gv.c17 BK405.out; obtain ⟨hfz22_0, hfz22_1, hfz22_2, hfz22_3, hfz22_4, hfz22_5, hfz22_6, hfz22_7, hfz22_8, hfz22_9, hfz22_10, hfz22_11, hfz22_12, hfz22_13, hfz22_14, hfz22_15, hfz22_16⟩ := Gv.f17 BK405.out) | ((with_reducible refine gate_dst (N := 3) rfl ?_); refine box_event ?hg (N := 3) ?hd (cs := #[.int .i64 0, .int .i64 0, .int .i64 0, .int .i64 0, .int .i64 0, .int .i64 0, .int .i64 0, .int .i64 0, .int .i64 0, .int .i64 0, .int .i64 0, .int .i64 0, .int .i64 0, .int .i64 0, .int .i64 0, .int .i64 0, .int .i64 0]) (t := 38) ?hr ?_; (case hd => rfl); (case hg => rfl); (case hr => first | (go_simp; done) | (go_simp; rfl)); intro gb406 hg w23 hbox hb; have n0_ := Gv.a0 (Gv.bb BK405.out hb); have n1_ := Gv.a0 (below_step Gv.bw hb); have n2_ := Gv.a0 (hbox); have n3_ := Gv.a0 ((Gv.ble hg Gv.bw : w.heap.size ≤ gb406)); have n4_ := Gv.a0 ((Gv.ble hg Gv.bw : w.heap.size ≤ gb406)); have n5_ := Gv.a0 ((Gv.nlt hg (Gv.kb BK405.out) : gb405 ≠ gb406)); have n6_ := Gv.a0 ((Gv.ngt hg (Gv.kb BK405.out) : gb406 ≠ gb405)); clear BK405; clear HB; have BK405 := n0_; have HB := n1_; have BK406 := n2_; have GW406 := n3_; have GE406 := n4_; have NB405_406 := n5_; have NB406_405 := n6_; clear n0_ n1_ n2_ n3_ n4_ n5_ n6_; clear hb hbox hg; have hnb24 := NB406_405.out; have hnc24 := NB405_406.out; obtain ⟨hcz25_0, hcz25_1, hcz25_2, hcz25_3, hcz25_4, hcz25_5, hcz25_6, hcz25_7, hcz25_8, hcz25_9, hcz25_10, hcz25_11, hcz25_12, hcz25_13, hcz25_14, hcz25_15, hcz25_16⟩ := Gv.c17 BK406.out; obtain ⟨hfz25_0, hfz25_1, hfz25_2, hfz25_3, hfz25_4, hfz25_5, hfz25_6, hfz25_7, hfz25_8, hfz25_9, hfz25_10, hfz25_11, hfz25_12, hfz25_13, hfz25_14, hfz25_15, hfz25_16⟩ := Gv.f17 BK406.out; obtain ⟨hcz26_0, hcz26_1, hcz26_2, hcz26_3, hcz26_4, hcz26_5, hcz26_6, hcz26_7, hcz26_8, hcz26_9, hcz26_10, hcz26_11, hcz26_12, hcz26_13, hcz26_14, hcz26_15, hcz26_16⟩ := Gv.c17 BK405.out; obtain ⟨hfz26_0, hfz26_1, hfz26_2, hfz26_3, hfz26_4, hfz26_5, hfz26_6, hfz26_7, hfz26_8, hfz26_9, hfz26_10, hfz26_11, hfz26_12, hfz26_13, hfz26_14, hfz26_15, hfz26_16⟩ := Gv.f17 BK405.out) | ((with_reducible refine gate_store (t := 38) (p := 3) rfl ?_); refine Gv.store_event rfl rfl rfl rfl rfl (Gv.kb BK406.out) (by kernel_rfl) rfl (by simp; and_intros <;> rfl) ?_; intro w23s hbox hoth hbel; have n0_ := Gv.a0 (hbox); have n1_ := Gv.a0 (hbel w Gv.bw GE406.out); have n2_ := Gv.a0 ((hoth gb405 NB405_406.out).trans (Gv.kb BK405.out)); clear BK406 HB BK405; have BK406 := n0_; have HB := n1_; have BK405 := n2_; clear n0_ n1_ n2_ hbox hoth hbel; (try clear hcz25_0 hcz25_1 hcz25_2 hcz25_3 hcz25_4 hcz25_5 hcz25_6 hcz25_7 hcz25_8 hcz25_9 hcz25_10 hcz25_11 hcz25_12 hcz25_13 hcz25_14 hcz25_15 hcz25_16 hfz25_0 hfz25_1 hfz25_2 hfz25_3 hfz25_4 hfz25_5 hfz25_6 hfz25_7 hfz25_8 hfz25_9 hfz25_10 hfz25_11 hfz25_12 hfz25_13 hfz25_14 hfz25_15 hfz25_16 hcz26_0 hcz26_1 hcz26_2 hcz26_3 hcz26_4 hcz26_5 hcz26_6 hcz26_7 hcz26_8 hcz26_9 hcz26_10 hcz26_11 hcz26_12 hcz26_13 hcz26_14 hcz26_15 hcz26_16 hfz26_0 hfz26_1 hfz26_2 hfz26_3 hfz26_4 hfz26_5 hfz26_6 hfz26_7 hfz26_8 hfz26_9 hfz26_10 hfz26_11 hfz26_12 hfz26_13 hfz26_14 hfz26_15 hfz26_16); obtain ⟨hcz25_0, hcz25_1, hcz25_2, hcz25_3, hcz25_4, hcz25_5, hcz25_6, hcz25_7, hcz25_8, hcz25_9, hcz25_10, hcz25_11, hcz25_12, hcz25_13, hcz25_14, hcz25_15, hcz25_16⟩ := Gv.c17 BK406.out; obtain ⟨hfz25_0, hfz25_1, hfz25_2, hfz25_3, hfz25_4, hfz25_5, hfz25_6, hfz25_7, hfz25_8, hfz25_9, hfz25_10, hfz25_11, hfz25_12, hfz25_13, hfz25_14, hfz25_15, hfz25_16⟩ := Gv.f17 BK406.out; obtain ⟨hcz26_0, hcz26_1, hcz26_2, hcz26_3, hcz26_4, hcz26_5, hcz26_6, hcz26_7, hcz26_8, hcz26_9, hcz26_10, hcz26_11, hcz26_12, hcz26_13, hcz26_14, hcz26_15, hcz26_16⟩ := Gv.c17 BK405.out; obtain ⟨hfz26_0, hfz26_1, hfz26_2, hfz26_3, hfz26_4, hfz26_5, hfz26_6, hfz26_7, hfz26_8, hfz26_9, hfz26_10, hfz26_11, hfz26_12, hfz26_13, hfz26_14, hfz26_15, hfz26_16⟩ := Gv.f17 BK405.out) | ((with_reducible refine gate_callee (f := 43) rfl ?_); refine goesL_ (some 11) rfl rfl Try.func43 (by kernel_rfl) rfl #[.agg #[.int .i64 a0_1, .int .i64 a0_2, .int .i64 a0_3, .int .i64 a0_4, .int .i64 a0_5, .int .i64 a0_6]] rfl Gv.lm ?_; (with_reducible refine (impl_PrefixOk.calls k a0_1 a0_2 a0_3 a0_4 a0_5 a0_6 true _ A3.out).mono ?_); rintro e w27 ⟨rfl, hb⟩; refine ⟨_, rfl, ?_⟩; have n0_ := Gv.a0 (blk_below (g := gb405) (o := .cells #[.int .i64 a0_0, .int .i64 a0_1, .int .i64 a0_2, .int .i64 a0_3, .int .i64 a0_4, .int .i64 a0_5, .int .i64 a0_6, .int .i64 a0_7, .int .i64 a0_8, .int .i64 a0_9, .int .i64 a0_10, .int .i64 a0_11, .int .i64 a0_12, .int .i64 a0_13, .int .i64 a0_14, .int .i64 a0_15, .int .i64 a0_16] 38 (0, 0)) Gv.bkf hb); have n1_ := Gv.a0 (blk_below (g := gb406) (o := .cells #[.int .i64 a0_0, .int .i64 a0_1, .int .i64 a0_2, .int .i64 a0_3, .int .i64 a0_4, .int .i64 a0_5, .int .i64 a0_6, .int .i64 a0_7, .int .i64 a0_8, .int .i64 a0_9, .int .i64 a0_10, .int .i64 a0_11, .int .i64 a0_12, .int .i64 a0_13, .int .i64 a0_14, .int .i64 a0_15, .int .i64 a0_16] 38 (0, 0)) (by (with_reducible repeat (first | refine blk_drewN ?_ _ | refine blk_drew ?_ | refine blk_alloc ?_ _)); exact BK406.out) hb); have n2_ := Gv.a0 (below_step Gv.bw hb); clear BK405; clear BK406; clear HB; have BK405 := n0_; have BK406 := n1_; have HB := n2_; clear n0_ n1_ n2_; (try clear hb); (try clear hb2); (try clear hk); (try clear hi); obtain ⟨hcz28_0, hcz28_1, hcz28_2, hcz28_3, hcz28_4, hcz28_5, hcz28_6, hcz28_7, hcz28_8, hcz28_9, hcz28_10, hcz28_11, hcz28_12, hcz28_13, hcz28_14, hcz28_15, hcz28_16⟩ := Gv.c17 BK405.out; obtain ⟨hfz28_0, hfz28_1, hfz28_2, hfz28_3, hfz28_4, hfz28_5, hfz28_6, hfz28_7, hfz28_8, hfz28_9, hfz28_10, hfz28_11, hfz28_12, hfz28_13, hfz28_14, hfz28_15, hfz28_16⟩ := Gv.f17 BK405.out) | (go_at_call 43; (with_reducible refine (impl_PrefixOk.calls k a0_7 a0_8 a0_9 a0_10 a0_11 a0_12 true _ A5.out).mono ?_); rintro e w29 ⟨rfl, hb⟩; have n0_ := Gv.a0 (Gv.bb BK405.out hb); have n1_ := Gv.a0 (Gv.bb BK406.out hb); have n2_ := Gv.a0 (below_step Gv.bw hb); clear BK405; clear BK406; clear HB; have BK405 := n0_; have BK406 := n1_; have HB := n2_; clear n0_ n1_ n2_; (try clear hb); (try clear hb2); (try clear hk); (try clear hi); obtain ⟨hcz30_0, hcz30_1, hcz30_2, hcz30_3, hcz30_4, hcz30_5, hcz30_6, hcz30_7, hcz30_8, hcz30_9, hcz30_10, hcz30_11, hcz30_12, hcz30_13, hcz30_14, hcz30_15, hcz30_16⟩ := Gv.c17 BK405.out; obtain ⟨hfz30_0, hfz30_1, hfz30_2, hfz30_3, hfz30_4, hfz30_5, hfz30_6, hfz30_7, hfz30_8, hfz30_9, hfz30_10, hfz30_11, hfz30_12, hfz30_13, hfz30_14, hfz30_15, hfz30_16⟩ := Gv.f17 BK405.out) | (go_at_call 44; (with_reducible refine (impl_within.calls a0_13 (-1) 255 true _ A7.out).mono ?_); rintro e w' ⟨rfl, ⟨nd, rfl⟩⟩) | (go_at_call 45; (with_reducible refine (impl_isRange.calls a0_14 a0_15 false _ A9.out).mono ?_); rintro e w' ⟨rfl, ⟨nd, rfl⟩⟩) | ((with_reducible refine Gv.gate_load (t := 38) rfl ?_); (try (refine gate_guard (by rfl) ?_; dsimp only)); refine wpList_load_row rfl 38 _ rfl gb405 rfl 38 _ _ _ (by first | exact Gv.kb0 BK405.out | exact Gv.kb1 (Gv.kb0 BK405.out)) Try.underlying38 rfl (by kernel_rfl) ?_) | ((with_reducible refine Gv.gate_load (t := 38) rfl ?_); (try (refine gate_guard (by rfl) ?_; dsimp only)); refine wpList_load_row rfl 38 _ rfl gb406 rfl 38 _ _ _ (by first | exact Gv.kb0 BK406.out | exact Gv.kb1 (Gv.kb0 BK406.out)) Try.underlying38 rfl (by kernel_rfl) ?_) | ((with_reducible refine gate_store (t := 3) rfl ?_); refine Gv.put_event (g := gb405) rfl rfl rfl rfl rfl (Gv.kb0 BK405.out) (by kernel_rfl) (by simp) ?_; intro wp_ hbox hoth hbel; simp only [List.setIfInBounds_toArray, List.set_cons_succ, List.set_cons_zero] at hbox; have n0_ := Gv.a0 hbox; have n1_ := Gv.a0 (hbel w Gv.bw GE405.out); have n2_ := Gv.a0 ((hoth gb406 NB406_405.out).trans (Gv.kb0 BK406.out)); clear BK405 HB BK406; have BK405 := n0_; have HB := n1_; have BK406 := n2_; clear n0_ n1_ n2_ hbox hoth hbel; obtain ⟨pc405_0, pc405_1, pc405_2, pc405_3, pc405_4, pc405_5, pc405_6, pc405_7, pc405_8, pc405_9, pc405_10, pc405_11, pc405_12, pc405_13, pc405_14, pc405_15, pc405_16⟩ := Gv.c17 BK405.out; obtain ⟨pf405_0, pf405_1, pf405_2, pf405_3, pf405_4, pf405_5, pf405_6, pf405_7, pf405_8, pf405_9, pf405_10, pf405_11, pf405_12, pf405_13, pf405_14, pf405_15, pf405_16⟩ := Gv.f17 BK405.out; obtain ⟨pc406_0, pc406_1, pc406_2, pc406_3, pc406_4, pc406_5, pc406_6, pc406_7, pc406_8, pc406_9, pc406_10, pc406_11, pc406_12, pc406_13, pc406_14, pc406_15, pc406_16⟩ := Gv.c17 BK406.out; obtain ⟨pf406_0, pf406_1, pf406_2, pf406_3, pf406_4, pf406_5, pf406_6, pf406_7, pf406_8, pf406_9, pf406_10, pf406_11, pf406_12, pf406_13, pf406_14, pf406_15, pf406_16⟩ := Gv.f17 BK406.out) | ((with_reducible refine gate_store (t := 3) rfl ?_); refine Gv.put_event (g := gb406) rfl rfl rfl rfl rfl (Gv.kb0 BK406.out) (by kernel_rfl) (by simp) ?_; intro wp_ hbox hoth hbel; simp only [List.setIfInBounds_toArray, List.set_cons_succ, List.set_cons_zero] at hbox; have n0_ := Gv.a0 hbox; have n1_ := Gv.a0 (hbel w Gv.bw GE406.out); have n2_ := Gv.a0 ((hoth gb405 NB405_406.out).trans (Gv.kb0 BK405.out)); clear BK406 HB BK405; have BK406 := n0_; have HB := n1_; have BK405 := n2_; clear n0_ n1_ n2_ hbox hoth hbel; obtain ⟨pc406_0, pc406_1, pc406_2, pc406_3, pc406_4, pc406_5, pc406_6, pc406_7, pc406_8, pc406_9, pc406_10, pc406_11, pc406_12, pc406_13, pc406_14, pc406_15, pc406_16⟩ := Gv.c17 BK406.out; obtain ⟨pf406_0, pf406_1, pf406_2, pf406_3, pf406_4, pf406_5, pf406_6, pf406_7, pf406_8, pf406_9, pf406_10, pf406_11, pf406_12, pf406_13, pf406_14, pf406_15, pf406_16⟩ := Gv.f17 BK406.out; obtain ⟨pc405_0, pc405_1, pc405_2, pc405_3, pc405_4, pc405_5, pc405_6, pc405_7, pc405_8, pc405_9, pc405_10, pc405_11, pc405_12, pc405_13, pc405_14, pc405_15, pc405_16⟩ := Gv.c17 BK405.out; obtain ⟨pf405_0, pf405_1, pf405_2, pf405_3, pf405_4, pf405_5, pf405_6, pf405_7, pf405_8, pf405_9, pf405_10, pf405_11, pf405_12, pf405_13, pf405_14, pf405_15, pf405_16⟩ := Gv.f17 BK405.out))
      go_ret
      exact ⟨Gv.rt, Gv.bw⟩
    ·replace c8 := Bool.eq_false_iff.mpr c8
     subst c8
     have H1 : (some false) = some r := by rw [if_neg (show ¬ (false = true) by decide)] at H; exact H
     clear H
     have H := H1
     clear H1
     obtain rfl := Option.some.inj H
     go_enter Try.func15, Try.ntmps15
     go_wp2_with (first | ((with_reducible refine gate_dst (N := 1) rfl ?_); refine box_event ?hg (N := 1) ?hd (cs := #[.int .i64 a0_0, .int .i64 a0_1, .int .i64 a0_2, .int .i64 a0_3, .int .i64 a0_4, .int .i64 a0_5, .int .i64 a0_6, .int .i64 a0_7, .int .i64 a0_8, .int .i64 a0_9, .int .i64 a0_10, .int .i64 a0_11, .int .i64 a0_12, .int .i64 a0_13, .int .i64 a0_14, .int .i64 a0_15, .int .i64 a0_16]) (t := 38) ?hr ?_; (case hd => rfl); (case hg => rfl); (case hr => first | (go_simp; done) | (go_simp; rfl)); intro gb405 hg w31 hbox hb; have n0_ := Gv.a0 (below_step Gv.bw hb); have n1_ := Gv.a0 (hbox); have n2_ := Gv.a0 ((Gv.ble hg Gv.bw : w.heap.size ≤ gb405)); have n3_ := Gv.a0 ((Gv.ble hg Gv.bw : w.heap.size ≤ gb405)); clear HB; have HB := n0_; have BK405 := n1_; have GW405 := n2_; have GE405 := n3_; clear n0_ n1_ n2_ n3_; clear hb hbox hg; obtain ⟨hcz32_0, hcz32_1, hcz32_2, hcz32_3, hcz32_4, hcz32_5, hcz32_6, hcz32_7, hcz32_8, hcz32_9, hcz32_10, hcz32_11, hcz32_12, hcz32_13, hcz32_14, hcz32_15, hcz32_16⟩ := Gv.c17 BK405.out; obtain ⟨hfz32_0, hfz32_1, hfz32_2, hfz32_3, hfz32_4, hfz32_5, hfz32_6, hfz32_7, hfz32_8, hfz32_9, hfz32_10, hfz32_11, hfz32_12, hfz32_13, hfz32_14, hfz32_15, hfz32_16⟩ := Gv.f17 BK405.out) | ((with_reducible refine gate_store (t := 38) (p := 1) rfl ?_); refine Gv.store_event rfl rfl rfl rfl rfl (Gv.kb BK405.out) (by kernel_rfl) rfl (by simp; and_intros <;> rfl) ?_; intro w31s hbox hoth hbel; have n0_ := Gv.a0 (hbox); have n1_ := Gv.a0 (hbel w Gv.bw GE405.out); clear BK405 HB; have BK405 := n0_; have HB := n1_; clear n0_ n1_ hbox hoth hbel; (try clear hcz32_0 hcz32_1 hcz32_2 hcz32_3 hcz32_4 hcz32_5 hcz32_6 hcz32_7 hcz32_8 hcz32_9 hcz32_10 hcz32_11 hcz32_12 hcz32_13 hcz32_14 hcz32_15 hcz32_16 hfz32_0 hfz32_1 hfz32_2 hfz32_3 hfz32_4 hfz32_5 hfz32_6 hfz32_7 hfz32_8 hfz32_9 hfz32_10 hfz32_11 hfz32_12 hfz32_13 hfz32_14 hfz32_15 hfz32_16); obtain ⟨hcz32_0, hcz32_1, hcz32_2, hcz32_3, hcz32_4, hcz32_5, hcz32_6, hcz32_7, hcz32_8, hcz32_9, hcz32_10, hcz32_11, hcz32_12, hcz32_13, hcz32_14, hcz32_15, hcz32_16⟩ := Gv.c17 BK405.out; obtain ⟨hfz32_0, hfz32_1, hfz32_2, hfz32_3, hfz32_4, hfz32_5, hfz32_6, hfz32_7, hfz32_8, hfz32_9, hfz32_10, hfz32_11, hfz32_12, hfz32_13, hfz32_14, hfz32_15, hfz32_16⟩ := Gv.f17 BK405.out) | ((with_reducible refine gate_dst (N := 3) rfl ?_); refine box_event ?hg (N := 3) ?hd (cs := #[.int .i64 0, .int .i64 0, .int .i64 0, .int .i64 0, .int .i64 0, .int .i64 0, .int .i64 0, .int .i64 0, .int .i64 0, .int .i64 0, .int .i64 0, .int .i64 0, .int .i64 0, .int .i64 0, .int .i64 0, .int .i64 0, .int .i64 0]) (t := 38) ?hr ?_; (case hd => rfl); (case hg => rfl); (case hr => first | (go_simp; done) | (go_simp; rfl)); intro gb406 hg w33 hbox hb; have n0_ := Gv.a0 (Gv.bb BK405.out hb); have n1_ := Gv.a0 (below_step Gv.bw hb); have n2_ := Gv.a0 (hbox); have n3_ := Gv.a0 ((Gv.ble hg Gv.bw : w.heap.size ≤ gb406)); have n4_ := Gv.a0 ((Gv.ble hg Gv.bw : w.heap.size ≤ gb406)); have n5_ := Gv.a0 ((Gv.nlt hg (Gv.kb BK405.out) : gb405 ≠ gb406)); have n6_ := Gv.a0 ((Gv.ngt hg (Gv.kb BK405.out) : gb406 ≠ gb405)); clear BK405; clear HB; have BK405 := n0_; have HB := n1_; have BK406 := n2_; have GW406 := n3_; have GE406 := n4_; have NB405_406 := n5_; have NB406_405 := n6_; clear n0_ n1_ n2_ n3_ n4_ n5_ n6_; clear hb hbox hg; have hnb34 := NB406_405.out; have hnc34 := NB405_406.out; obtain ⟨hcz35_0, hcz35_1, hcz35_2, hcz35_3, hcz35_4, hcz35_5, hcz35_6, hcz35_7, hcz35_8, hcz35_9, hcz35_10, hcz35_11, hcz35_12, hcz35_13, hcz35_14, hcz35_15, hcz35_16⟩ := Gv.c17 BK406.out; obtain ⟨hfz35_0, hfz35_1, hfz35_2, hfz35_3, hfz35_4, hfz35_5, hfz35_6, hfz35_7, hfz35_8, hfz35_9, hfz35_10, hfz35_11, hfz35_12, hfz35_13, hfz35_14, hfz35_15, hfz35_16⟩ := Gv.f17 BK406.out; obtain ⟨hcz36_0, hcz36_1, hcz36_2, hcz36_3, hcz36_4, hcz36_5, hcz36_6, hcz36_7, hcz36_8, hcz36_9, hcz36_10, hcz36_11, hcz36_12, hcz36_13, hcz36_14, hcz36_15, hcz36_16⟩ := Gv.c17 BK405.out; obtain ⟨hfz36_0, hfz36_1, hfz36_2, hfz36_3, hfz36_4, hfz36_5, hfz36_6, hfz36_7, hfz36_8, hfz36_9, hfz36_10, hfz36_11, hfz36_12, hfz36_13, hfz36_14, hfz36_15, hfz36_16⟩ := Gv.f17 BK405.out) | ((with_reducible refine gate_store (t := 38) (p := 3) rfl ?_); refine Gv.store_event rfl rfl rfl rfl rfl (Gv.kb BK406.out) (by kernel_rfl) rfl (by simp; and_intros <;> rfl) ?_; intro w33s hbox hoth hbel; have n0_ := Gv.a0 (hbox); have n1_ := Gv.a0 (hbel w Gv.bw GE406.out); have n2_ := Gv.a0 ((hoth gb405 NB405_406.out).trans (Gv.kb BK405.out)); clear BK406 HB BK405; have BK406 := n0_; have HB := n1_; have BK405 := n2_; clear n0_ n1_ n2_ hbox hoth hbel; (try clear hcz35_0 hcz35_1 hcz35_2 hcz35_3 hcz35_4 hcz35_5 hcz35_6 hcz35_7 hcz35_8 hcz35_9 hcz35_10 hcz35_11 hcz35_12 hcz35_13 hcz35_14 hcz35_15 hcz35_16 hfz35_0 hfz35_1 hfz35_2 hfz35_3 hfz35_4 hfz35_5 hfz35_6 hfz35_7 hfz35_8 hfz35_9 hfz35_10 hfz35_11 hfz35_12 hfz35_13 hfz35_14 hfz35_15 hfz35_16 hcz36_0 hcz36_1 hcz36_2 hcz36_3 hcz36_4 hcz36_5 hcz36_6 hcz36_7 hcz36_8 hcz36_9 hcz36_10 hcz36_11 hcz36_12 hcz36_13 hcz36_14 hcz36_15 hcz36_16 hfz36_0 hfz36_1 hfz36_2 hfz36_3 hfz36_4 hfz36_5 hfz36_6 hfz36_7 hfz36_8 hfz36_9 hfz36_10 hfz36_11 hfz36_12 hfz36_13 hfz36_14 hfz36_15 hfz36_16); obtain ⟨hcz35_0, hcz35_1, hcz35_2, hcz35_3, hcz35_4, hcz35_5, hcz35_6, hcz35_7, hcz35_8, hcz35_9, hcz35_10, hcz35_11, hcz35_12, hcz35_13, hcz35_14, hcz35_15, hcz35_16⟩ := Gv.c17 BK406.out; obtain ⟨hfz35_0, hfz35_1, hfz35_2, hfz35_3, hfz35_4, hfz35_5, hfz35_6, hfz35_7, hfz35_8, hfz35_9, hfz35_10, hfz35_11, hfz35_12, hfz35_13, hfz35_14, hfz35_15, hfz35_16⟩ := Gv.f17 BK406.out; obtain ⟨hcz36_0, hcz36_1, hcz36_2, hcz36_3, hcz36_4, hcz36_5, hcz36_6, hcz36_7, hcz36_8, hcz36_9, hcz36_10, hcz36_11, hcz36_12, hcz36_13, hcz36_14, hcz36_15, hcz36_16⟩ := Gv.c17 BK405.out; obtain ⟨hfz36_0, hfz36_1, hfz36_2, hfz36_3, hfz36_4, hfz36_5, hfz36_6, hfz36_7, hfz36_8, hfz36_9, hfz36_10, hfz36_11, hfz36_12, hfz36_13, hfz36_14, hfz36_15, hfz36_16⟩ := Gv.f17 BK405.out) | ((with_reducible refine gate_callee (f := 43) rfl ?_); refine goesL_ (some 11) rfl rfl Try.func43 (by kernel_rfl) rfl #[.agg #[.int .i64 a0_1, .int .i64 a0_2, .int .i64 a0_3, .int .i64 a0_4, .int .i64 a0_5, .int .i64 a0_6]] rfl Gv.lm ?_; (with_reducible refine (impl_PrefixOk.calls k a0_1 a0_2 a0_3 a0_4 a0_5 a0_6 true _ A3.out).mono ?_); rintro e w37 ⟨rfl, hb⟩; refine ⟨_, rfl, ?_⟩; have n0_ := Gv.a0 (blk_below (g := gb405) (o := .cells #[.int .i64 a0_0, .int .i64 a0_1, .int .i64 a0_2, .int .i64 a0_3, .int .i64 a0_4, .int .i64 a0_5, .int .i64 a0_6, .int .i64 a0_7, .int .i64 a0_8, .int .i64 a0_9, .int .i64 a0_10, .int .i64 a0_11, .int .i64 a0_12, .int .i64 a0_13, .int .i64 a0_14, .int .i64 a0_15, .int .i64 a0_16] 38 (0, 0)) Gv.bkf hb); have n1_ := Gv.a0 (blk_below (g := gb406) (o := .cells #[.int .i64 a0_0, .int .i64 a0_1, .int .i64 a0_2, .int .i64 a0_3, .int .i64 a0_4, .int .i64 a0_5, .int .i64 a0_6, .int .i64 a0_7, .int .i64 a0_8, .int .i64 a0_9, .int .i64 a0_10, .int .i64 a0_11, .int .i64 a0_12, .int .i64 a0_13, .int .i64 a0_14, .int .i64 a0_15, .int .i64 a0_16] 38 (0, 0)) (by (with_reducible repeat (first | refine blk_drewN ?_ _ | refine blk_drew ?_ | refine blk_alloc ?_ _)); exact BK406.out) hb); have n2_ := Gv.a0 (below_step Gv.bw hb); clear BK405; clear BK406; clear HB; have BK405 := n0_; have BK406 := n1_; have HB := n2_; clear n0_ n1_ n2_; (try clear hb); (try clear hb2); (try clear hk); (try clear hi); obtain ⟨hcz38_0, hcz38_1, hcz38_2, hcz38_3, hcz38_4, hcz38_5, hcz38_6, hcz38_7, hcz38_8, hcz38_9, hcz38_10, hcz38_11, hcz38_12, hcz38_13, hcz38_14, hcz38_15, hcz38_16⟩ := Gv.c17 BK405.out; obtain ⟨hfz38_0, hfz38_1, hfz38_2, hfz38_3, hfz38_4, hfz38_5, hfz38_6, hfz38_7, hfz38_8, hfz38_9, hfz38_10, hfz38_11, hfz38_12, hfz38_13, hfz38_14, hfz38_15, hfz38_16⟩ := Gv.f17 BK405.out) | (go_at_call 43; (with_reducible refine (impl_PrefixOk.calls k a0_7 a0_8 a0_9 a0_10 a0_11 a0_12 true _ A5.out).mono ?_); rintro e w39 ⟨rfl, hb⟩; have n0_ := Gv.a0 (Gv.bb BK405.out hb); have n1_ := Gv.a0 (Gv.bb BK406.out hb); have n2_ := Gv.a0 (below_step Gv.bw hb); clear BK405; clear BK406; clear HB; have BK405 := n0_; have BK406 := n1_; have HB := n2_; clear n0_ n1_ n2_; (try clear hb); (try clear hb2); (try clear hk); (try clear hi); obtain ⟨hcz40_0, hcz40_1, hcz40_2, hcz40_3, hcz40_4, hcz40_5, hcz40_6, hcz40_7, hcz40_8, hcz40_9, hcz40_10, hcz40_11, hcz40_12, hcz40_13, hcz40_14, hcz40_15, hcz40_16⟩ := Gv.c17 BK405.out; obtain ⟨hfz40_0, hfz40_1, hfz40_2, hfz40_3, hfz40_4, hfz40_5, hfz40_6, hfz40_7, hfz40_8, hfz40_9, hfz40_10, hfz40_11, hfz40_12, hfz40_13, hfz40_14, hfz40_15, hfz40_16⟩ := Gv.f17 BK405.out) | (go_at_call 44; (with_reducible refine (impl_within.calls a0_13 (-1) 255 false _ A7.out).mono ?_); rintro e w' ⟨rfl, ⟨nd, rfl⟩⟩) | ((with_reducible refine Gv.gate_load (t := 38) rfl ?_); (try (refine gate_guard (by rfl) ?_; dsimp only)); refine wpList_load_row rfl 38 _ rfl gb405 rfl 38 _ _ _ (by first | exact Gv.kb0 BK405.out | exact Gv.kb1 (Gv.kb0 BK405.out)) Try.underlying38 rfl (by kernel_rfl) ?_) | ((with_reducible refine Gv.gate_load (t := 38) rfl ?_); (try (refine gate_guard (by rfl) ?_; dsimp only)); refine wpList_load_row rfl 38 _ rfl gb406 rfl 38 _ _ _ (by first | exact Gv.kb0 BK406.out | exact Gv.kb1 (Gv.kb0 BK406.out)) Try.underlying38 rfl (by kernel_rfl) ?_) | ((with_reducible refine gate_store (t := 3) rfl ?_); refine Gv.put_event (g := gb405) rfl rfl rfl rfl rfl (Gv.kb0 BK405.out) (by kernel_rfl) (by simp) ?_; intro wp_ hbox hoth hbel; simp only [List.setIfInBounds_toArray, List.set_cons_succ, List.set_cons_zero] at hbox; have n0_ := Gv.a0 hbox; have n1_ := Gv.a0 (hbel w Gv.bw GE405.out); have n2_ := Gv.a0 ((hoth gb406 NB406_405.out).trans (Gv.kb0 BK406.out)); clear BK405 HB BK406; have BK405 := n0_; have HB := n1_; have BK406 := n2_; clear n0_ n1_ n2_ hbox hoth hbel; obtain ⟨pc405_0, pc405_1, pc405_2, pc405_3, pc405_4, pc405_5, pc405_6, pc405_7, pc405_8, pc405_9, pc405_10, pc405_11, pc405_12, pc405_13, pc405_14, pc405_15, pc405_16⟩ := Gv.c17 BK405.out; obtain ⟨pf405_0, pf405_1, pf405_2, pf405_3, pf405_4, pf405_5, pf405_6, pf405_7, pf405_8, pf405_9, pf405_10, pf405_11, pf405_12, pf405_13, pf405_14, pf405_15, pf405_16⟩ := Gv.f17 BK405.out; obtain ⟨pc406_0, pc406_1, pc406_2, pc406_3, pc406_4, pc406_5, pc406_6, pc406_7, pc406_8, pc406_9, pc406_10, pc406_11, pc406_12, pc406_13, pc406_14, pc406_15, pc406_16⟩ := Gv.c17 BK406.out; obtain ⟨pf406_0, pf406_1, pf406_2, pf406_3, pf406_4, pf406_5, pf406_6, pf406_7, pf406_8, pf406_9, pf406_10, pf406_11, pf406_12, pf406_13, pf406_14, pf406_15, pf406_16⟩ := Gv.f17 BK406.out) | ((with_reducible refine gate_store (t := 3) rfl ?_); refine Gv.put_event (g := gb406) rfl rfl rfl rfl rfl (Gv.kb0 BK406.out) (by kernel_rfl) (by simp) ?_; intro wp_ hbox hoth hbel; simp only [List.setIfInBounds_toArray, List.set_cons_succ, List.set_cons_zero] at hbox; have n0_ := Gv.a0 hbox; have n1_ := Gv.a0 (hbel w Gv.bw GE406.out); have n2_ := Gv.a0 ((hoth gb405 NB405_406.out).trans (Gv.kb0 BK405.out)); clear BK406 HB BK405; have BK406 := n0_; have HB := n1_; have BK405 := n2_; clear n0_ n1_ n2_ hbox hoth hbel; obtain ⟨pc406_0, pc406_1, pc406_2, pc406_3, pc406_4, pc406_5, pc406_6, pc406_7, pc406_8, pc406_9, pc406_10, pc406_11, pc406_12, pc406_13, pc406_14, pc406_15, pc406_16⟩ := Gv.c17 BK406.out; obtain ⟨pf406_0, pf406_1, pf406_2, pf406_3, pf406_4, pf406_5, pf406_6, pf406_7, pf406_8, pf406_9, pf406_10, pf406_11, pf406_12, pf406_13, pf406_14, pf406_15, pf406_16⟩ := Gv.f17 BK406.out; obtain ⟨pc405_0, pc405_1, pc405_2, pc405_3, pc405_4, pc405_5, pc405_6, pc405_7, pc405_8, pc405_9, pc405_10, pc405_11, pc405_12, pc405_13, pc405_14, pc405_15, pc405_16⟩ := Gv.c17 BK405.out; obtain ⟨pf405_0, pf405_1, pf405_2, pf405_3, pf405_4, pf405_5, pf405_6, pf405_7, pf405_8, pf405_9, pf405_10, pf405_11, pf405_12, pf405_13, pf405_14, pf405_15, pf405_16⟩ := Gv.f17 BK405.out))
     go_ret
     exact ⟨Gv.rt, Gv.bw⟩
   ·replace c6 := Bool.eq_false_iff.mpr c6
    subst c6
    have H1 : (some false) = some r := by rw [if_neg (show ¬ (false = true) by decide)] at H; exact H
    clear H
    have H := H1
    clear H1
    obtain rfl := Option.some.inj H
    go_enter Try.func15, Try.ntmps15
    go_wp2_with (first | ((with_reducible refine gate_dst (N := 1) rfl ?_); refine box_event ?hg (N := 1) ?hd (cs := #[.int .i64 a0_0, .int .i64 a0_1, .int .i64 a0_2, .int .i64 a0_3, .int .i64 a0_4, .int .i64 a0_5, .int .i64 a0_6, .int .i64 a0_7, .int .i64 a0_8, .int .i64 a0_9, .int .i64 a0_10, .int .i64 a0_11, .int .i64 a0_12, .int .i64 a0_13, .int .i64 a0_14, .int .i64 a0_15, .int .i64 a0_16]) (t := 38) ?hr ?_; (case hd => rfl); (case hg => rfl); (case hr => first | (go_simp; done) | (go_simp; rfl)); intro gb405 hg w41 hbox hb; have n0_ := Gv.a0 (below_step Gv.bw hb); have n1_ := Gv.a0 (hbox); have n2_ := Gv.a0 ((Gv.ble hg Gv.bw : w.heap.size ≤ gb405)); have n3_ := Gv.a0 ((Gv.ble hg Gv.bw : w.heap.size ≤ gb405)); clear HB; have HB := n0_; have BK405 := n1_; have GW405 := n2_; have GE405 := n3_; clear n0_ n1_ n2_ n3_; clear hb hbox hg; obtain ⟨hcz42_0, hcz42_1, hcz42_2, hcz42_3, hcz42_4, hcz42_5, hcz42_6, hcz42_7, hcz42_8, hcz42_9, hcz42_10, hcz42_11, hcz42_12, hcz42_13, hcz42_14, hcz42_15, hcz42_16⟩ := Gv.c17 BK405.out; obtain ⟨hfz42_0, hfz42_1, hfz42_2, hfz42_3, hfz42_4, hfz42_5, hfz42_6, hfz42_7, hfz42_8, hfz42_9, hfz42_10, hfz42_11, hfz42_12, hfz42_13, hfz42_14, hfz42_15, hfz42_16⟩ := Gv.f17 BK405.out) | ((with_reducible refine gate_store (t := 38) (p := 1) rfl ?_); refine Gv.store_event rfl rfl rfl rfl rfl (Gv.kb BK405.out) (by kernel_rfl) rfl (by simp; and_intros <;> rfl) ?_; intro w41s hbox hoth hbel; have n0_ := Gv.a0 (hbox); have n1_ := Gv.a0 (hbel w Gv.bw GE405.out); clear BK405 HB; have BK405 := n0_; have HB := n1_; clear n0_ n1_ hbox hoth hbel; (try clear hcz42_0 hcz42_1 hcz42_2 hcz42_3 hcz42_4 hcz42_5 hcz42_6 hcz42_7 hcz42_8 hcz42_9 hcz42_10 hcz42_11 hcz42_12 hcz42_13 hcz42_14 hcz42_15 hcz42_16 hfz42_0 hfz42_1 hfz42_2 hfz42_3 hfz42_4 hfz42_5 hfz42_6 hfz42_7 hfz42_8 hfz42_9 hfz42_10 hfz42_11 hfz42_12 hfz42_13 hfz42_14 hfz42_15 hfz42_16); obtain ⟨hcz42_0, hcz42_1, hcz42_2, hcz42_3, hcz42_4, hcz42_5, hcz42_6, hcz42_7, hcz42_8, hcz42_9, hcz42_10, hcz42_11, hcz42_12, hcz42_13, hcz42_14, hcz42_15, hcz42_16⟩ := Gv.c17 BK405.out; obtain ⟨hfz42_0, hfz42_1, hfz42_2, hfz42_3, hfz42_4, hfz42_5, hfz42_6, hfz42_7, hfz42_8, hfz42_9, hfz42_10, hfz42_11, hfz42_12, hfz42_13, hfz42_14, hfz42_15, hfz42_16⟩ := Gv.f17 BK405.out) | ((with_reducible refine gate_dst (N := 3) rfl ?_); refine box_event ?hg (N := 3) ?hd (cs := #[.int .i64 0, .int .i64 0, .int .i64 0, .int .i64 0, .int .i64 0, .int .i64 0, .int .i64 0, .int .i64 0, .int .i64 0, .int .i64 0, .int .i64 0, .int .i64 0, .int .i64 0, .int .i64 0, .int .i64 0, .int .i64 0, .int .i64 0]) (t := 38) ?hr ?_; (case hd => rfl); (case hg => rfl); (case hr => first | (go_simp; done) | (go_simp; rfl)); intro gb406 hg w43 hbox hb; have n0_ := Gv.a0 (Gv.bb BK405.out hb); have n1_ := Gv.a0 (below_step Gv.bw hb); have n2_ := Gv.a0 (hbox); have n3_ := Gv.a0 ((Gv.ble hg Gv.bw : w.heap.size ≤ gb406)); have n4_ := Gv.a0 ((Gv.ble hg Gv.bw : w.heap.size ≤ gb406)); have n5_ := Gv.a0 ((Gv.nlt hg (Gv.kb BK405.out) : gb405 ≠ gb406)); have n6_ := Gv.a0 ((Gv.ngt hg (Gv.kb BK405.out) : gb406 ≠ gb405)); clear BK405; clear HB; have BK405 := n0_; have HB := n1_; have BK406 := n2_; have GW406 := n3_; have GE406 := n4_; have NB405_406 := n5_; have NB406_405 := n6_; clear n0_ n1_ n2_ n3_ n4_ n5_ n6_; clear hb hbox hg; have hnb44 := NB406_405.out; have hnc44 := NB405_406.out; obtain ⟨hcz45_0, hcz45_1, hcz45_2, hcz45_3, hcz45_4, hcz45_5, hcz45_6, hcz45_7, hcz45_8, hcz45_9, hcz45_10, hcz45_11, hcz45_12, hcz45_13, hcz45_14, hcz45_15, hcz45_16⟩ := Gv.c17 BK406.out; obtain ⟨hfz45_0, hfz45_1, hfz45_2, hfz45_3, hfz45_4, hfz45_5, hfz45_6, hfz45_7, hfz45_8, hfz45_9, hfz45_10, hfz45_11, hfz45_12, hfz45_13, hfz45_14, hfz45_15, hfz45_16⟩ := Gv.f17 BK406.out; obtain ⟨hcz46_0, hcz46_1, hcz46_2, hcz46_3, hcz46_4, hcz46_5, hcz46_6, hcz46_7, hcz46_8, hcz46_9, hcz46_10, hcz46_11, hcz46_12, hcz46_13, hcz46_14, hcz46_15, hcz46_16⟩ := Gv.c17 BK405.out; obtain ⟨hfz46_0, hfz46_1, hfz46_2, hfz46_3, hfz46_4, hfz46_5, hfz46_6, hfz46_7, hfz46_8, hfz46_9, hfz46_10, hfz46_11, hfz46_12, hfz46_13, hfz46_14, hfz46_15, hfz46_16⟩ := Gv.f17 BK405.out) | ((with_reducible refine gate_store (t := 38) (p := 3) rfl ?_); refine Gv.store_event rfl rfl rfl rfl rfl (Gv.kb BK406.out) (by kernel_rfl) rfl (by simp; and_intros <;> rfl) ?_; intro w43s hbox hoth hbel; have n0_ := Gv.a0 (hbox); have n1_ := Gv.a0 (hbel w Gv.bw GE406.out); have n2_ := Gv.a0 ((hoth gb405 NB405_406.out).trans (Gv.kb BK405.out)); clear BK406 HB BK405; have BK406 := n0_; have HB := n1_; have BK405 := n2_; clear n0_ n1_ n2_ hbox hoth hbel; (try clear hcz45_0 hcz45_1 hcz45_2 hcz45_3 hcz45_4 hcz45_5 hcz45_6 hcz45_7 hcz45_8 hcz45_9 hcz45_10 hcz45_11 hcz45_12 hcz45_13 hcz45_14 hcz45_15 hcz45_16 hfz45_0 hfz45_1 hfz45_2 hfz45_3 hfz45_4 hfz45_5 hfz45_6 hfz45_7 hfz45_8 hfz45_9 hfz45_10 hfz45_11 hfz45_12 hfz45_13 hfz45_14 hfz45_15 hfz45_16 hcz46_0 hcz46_1 hcz46_2 hcz46_3 hcz46_4 hcz46_5 hcz46_6 hcz46_7 hcz46_8 hcz46_9 hcz46_10 hcz46_11 hcz46_12 hcz46_13 hcz46_14 hcz46_15 hcz46_16 hfz46_0 hfz46_1 hfz46_2 hfz46_3 hfz46_4 hfz46_5 hfz46_6 hfz46_7 hfz46_8 hfz46_9 hfz46_10 hfz46_11 hfz46_12 hfz46_13 hfz46_14 hfz46_15 hfz46_16); obtain ⟨hcz45_0, hcz45_1, hcz45_2, hcz45_3, hcz45_4, hcz45_5, hcz45_6, hcz45_7, hcz45_8, hcz45_9, hcz45_10, hcz45_11, hcz45_12, hcz45_13, hcz45_14, hcz45_15, hcz45_16⟩ := Gv.c17 BK406.out; obtain ⟨hfz45_0, hfz45_1, hfz45_2, hfz45_3, hfz45_4, hfz45_5, hfz45_6, hfz45_7, hfz45_8, hfz45_9, hfz45_10, hfz45_11, hfz45_12, hfz45_13, hfz45_14, hfz45_15, hfz45_16⟩ := Gv.f17 BK406.out; obtain ⟨hcz46_0, hcz46_1, hcz46_2, hcz46_3, hcz46_4, hcz46_5, hcz46_6, hcz46_7, hcz46_8, hcz46_9, hcz46_10, hcz46_11, hcz46_12, hcz46_13, hcz46_14, hcz46_15, hcz46_16⟩ := Gv.c17 BK405.out; obtain ⟨hfz46_0, hfz46_1, hfz46_2, hfz46_3, hfz46_4, hfz46_5, hfz46_6, hfz46_7, hfz46_8, hfz46_9, hfz46_10, hfz46_11, hfz46_12, hfz46_13, hfz46_14, hfz46_15, hfz46_16⟩ := Gv.f17 BK405.out) | ((with_reducible refine gate_callee (f := 43) rfl ?_); refine goesL_ (some 11) rfl rfl Try.func43 (by kernel_rfl) rfl #[.agg #[.int .i64 a0_1, .int .i64 a0_2, .int .i64 a0_3, .int .i64 a0_4, .int .i64 a0_5, .int .i64 a0_6]] rfl Gv.lm ?_; (with_reducible refine (impl_PrefixOk.calls k a0_1 a0_2 a0_3 a0_4 a0_5 a0_6 true _ A3.out).mono ?_); rintro e w47 ⟨rfl, hb⟩; refine ⟨_, rfl, ?_⟩; have n0_ := Gv.a0 (blk_below (g := gb405) (o := .cells #[.int .i64 a0_0, .int .i64 a0_1, .int .i64 a0_2, .int .i64 a0_3, .int .i64 a0_4, .int .i64 a0_5, .int .i64 a0_6, .int .i64 a0_7, .int .i64 a0_8, .int .i64 a0_9, .int .i64 a0_10, .int .i64 a0_11, .int .i64 a0_12, .int .i64 a0_13, .int .i64 a0_14, .int .i64 a0_15, .int .i64 a0_16] 38 (0, 0)) Gv.bkf hb); have n1_ := Gv.a0 (blk_below (g := gb406) (o := .cells #[.int .i64 a0_0, .int .i64 a0_1, .int .i64 a0_2, .int .i64 a0_3, .int .i64 a0_4, .int .i64 a0_5, .int .i64 a0_6, .int .i64 a0_7, .int .i64 a0_8, .int .i64 a0_9, .int .i64 a0_10, .int .i64 a0_11, .int .i64 a0_12, .int .i64 a0_13, .int .i64 a0_14, .int .i64 a0_15, .int .i64 a0_16] 38 (0, 0)) (by (with_reducible repeat (first | refine blk_drewN ?_ _ | refine blk_drew ?_ | refine blk_alloc ?_ _)); exact BK406.out) hb); have n2_ := Gv.a0 (below_step Gv.bw hb); clear BK405; clear BK406; clear HB; have BK405 := n0_; have BK406 := n1_; have HB := n2_; clear n0_ n1_ n2_; (try clear hb); (try clear hb2); (try clear hk); (try clear hi); obtain ⟨hcz48_0, hcz48_1, hcz48_2, hcz48_3, hcz48_4, hcz48_5, hcz48_6, hcz48_7, hcz48_8, hcz48_9, hcz48_10, hcz48_11, hcz48_12, hcz48_13, hcz48_14, hcz48_15, hcz48_16⟩ := Gv.c17 BK405.out; obtain ⟨hfz48_0, hfz48_1, hfz48_2, hfz48_3, hfz48_4, hfz48_5, hfz48_6, hfz48_7, hfz48_8, hfz48_9, hfz48_10, hfz48_11, hfz48_12, hfz48_13, hfz48_14, hfz48_15, hfz48_16⟩ := Gv.f17 BK405.out) | (go_at_call 43; (with_reducible refine (impl_PrefixOk.calls k a0_7 a0_8 a0_9 a0_10 a0_11 a0_12 false _ A5.out).mono ?_); rintro e w49 ⟨rfl, hb⟩; have n0_ := Gv.a0 (Gv.bb BK405.out hb); have n1_ := Gv.a0 (Gv.bb BK406.out hb); have n2_ := Gv.a0 (below_step Gv.bw hb); clear BK405; clear BK406; clear HB; have BK405 := n0_; have BK406 := n1_; have HB := n2_; clear n0_ n1_ n2_; (try clear hb); (try clear hb2); (try clear hk); (try clear hi)) | ((with_reducible refine Gv.gate_load (t := 38) rfl ?_); (try (refine gate_guard (by rfl) ?_; dsimp only)); refine wpList_load_row rfl 38 _ rfl gb405 rfl 38 _ _ _ (by first | exact Gv.kb0 BK405.out | exact Gv.kb1 (Gv.kb0 BK405.out)) Try.underlying38 rfl (by kernel_rfl) ?_) | ((with_reducible refine Gv.gate_load (t := 38) rfl ?_); (try (refine gate_guard (by rfl) ?_; dsimp only)); refine wpList_load_row rfl 38 _ rfl gb406 rfl 38 _ _ _ (by first | exact Gv.kb0 BK406.out | exact Gv.kb1 (Gv.kb0 BK406.out)) Try.underlying38 rfl (by kernel_rfl) ?_) | ((with_reducible refine gate_store (t := 3) rfl ?_); refine Gv.put_event (g := gb405) rfl rfl rfl rfl rfl (Gv.kb0 BK405.out) (by kernel_rfl) (by simp) ?_; intro wp_ hbox hoth hbel; simp only [List.setIfInBounds_toArray, List.set_cons_succ, List.set_cons_zero] at hbox; have n0_ := Gv.a0 hbox; have n1_ := Gv.a0 (hbel w Gv.bw GE405.out); have n2_ := Gv.a0 ((hoth gb406 NB406_405.out).trans (Gv.kb0 BK406.out)); clear BK405 HB BK406; have BK405 := n0_; have HB := n1_; have BK406 := n2_; clear n0_ n1_ n2_ hbox hoth hbel; obtain ⟨pc405_0, pc405_1, pc405_2, pc405_3, pc405_4, pc405_5, pc405_6, pc405_7, pc405_8, pc405_9, pc405_10, pc405_11, pc405_12, pc405_13, pc405_14, pc405_15, pc405_16⟩ := Gv.c17 BK405.out; obtain ⟨pf405_0, pf405_1, pf405_2, pf405_3, pf405_4, pf405_5, pf405_6, pf405_7, pf405_8, pf405_9, pf405_10, pf405_11, pf405_12, pf405_13, pf405_14, pf405_15, pf405_16⟩ := Gv.f17 BK405.out; obtain ⟨pc406_0, pc406_1, pc406_2, pc406_3, pc406_4, pc406_5, pc406_6, pc406_7, pc406_8, pc406_9, pc406_10, pc406_11, pc406_12, pc406_13, pc406_14, pc406_15, pc406_16⟩ := Gv.c17 BK406.out; obtain ⟨pf406_0, pf406_1, pf406_2, pf406_3, pf406_4, pf406_5, pf406_6, pf406_7, pf406_8, pf406_9, pf406_10, pf406_11, pf406_12, pf406_13, pf406_14, pf406_15, pf406_16⟩ := Gv.f17 BK406.out) | ((with_reducible refine gate_store (t := 3) rfl ?_); refine Gv.put_event (g := gb406) rfl rfl rfl rfl rfl (Gv.kb0 BK406.out) (by kernel_rfl) (by simp) ?_; intro wp_ hbox hoth hbel; simp only [List.setIfInBounds_toArray, List.set_cons_succ, List.set_cons_zero] at hbox; have n0_ := Gv.a0 hbox; have n1_ := Gv.a0 (hbel w Gv.bw GE406.out); have n2_ := Gv.a0 ((hoth gb405 NB405_406.out).trans (Gv.kb0 BK405.out)); clear BK406 HB BK405; have BK406 := n0_; have HB := n1_; have BK405 := n2_; clear n0_ n1_ n2_ hbox hoth hbel; obtain ⟨pc406_0, pc406_1, pc406_2, pc406_3, pc406_4, pc406_5, pc406_6, pc406_7, pc406_8, pc406_9, pc406_10, pc406_11, pc406_12, pc406_13, pc406_14, pc406_15, pc406_16⟩ := Gv.c17 BK406.out; obtain ⟨pf406_0, pf406_1, pf406_2, pf406_3, pf406_4, pf406_5, pf406_6, pf406_7, pf406_8, pf406_9, pf406_10, pf406_11, pf406_12, pf406_13, pf406_14, pf406_15, pf406_16⟩ := Gv.f17 BK406.out; obtain ⟨pc405_0, pc405_1, pc405_2, pc405_3, pc405_4, pc405_5, pc405_6, pc405_7, pc405_8, pc405_9, pc405_10, pc405_11, pc405_12, pc405_13, pc405_14, pc405_15, pc405_16⟩ := Gv.c17 BK405.out; obtain ⟨pf405_0, pf405_1, pf405_2, pf405_3, pf405_4, pf405_5, pf405_6, pf405_7, pf405_8, pf405_9, pf405_10, pf405_11, pf405_12, pf405_13, pf405_14, pf405_15, pf405_16⟩ := Gv.f17 BK405.out))
    go_ret
    exact ⟨Gv.rt, Gv.bw⟩
  ·replace c4 := Bool.eq_false_iff.mpr c4
   subst c4
   have H1 : (some false) = some r := by rw [if_neg (show ¬ (false = true) by decide)] at H; exact H
   clear H
   have H := H1
   clear H1
   obtain rfl := Option.some.inj H
   go_enter Try.func15, Try.ntmps15
   go_wp2_with (first | ((with_reducible refine gate_dst (N := 1) rfl ?_); refine box_event ?hg (N := 1) ?hd (cs := #[.int .i64 a0_0, .int .i64 a0_1, .int .i64 a0_2, .int .i64 a0_3, .int .i64 a0_4, .int .i64 a0_5, .int .i64 a0_6, .int .i64 a0_7, .int .i64 a0_8, .int .i64 a0_9, .int .i64 a0_10, .int .i64 a0_11, .int .i64 a0_12, .int .i64 a0_13, .int .i64 a0_14, .int .i64 a0_15, .int .i64 a0_16]) (t := 38) ?hr ?_; (case hd => rfl); (case hg => rfl); (case hr => first | (go_simp; done) | (go_simp; rfl)); intro gb405 hg w50 hbox hb; have n0_ := Gv.a0 (below_step Gv.bw hb); have n1_ := Gv.a0 (hbox); have n2_ := Gv.a0 ((Gv.ble hg Gv.bw : w.heap.size ≤ gb405)); have n3_ := Gv.a0 ((Gv.ble hg Gv.bw : w.heap.size ≤ gb405)); clear HB; have HB := n0_; have BK405 := n1_; have GW405 := n2_; have GE405 := n3_; clear n0_ n1_ n2_ n3_; clear hb hbox hg; obtain ⟨hcz51_0, hcz51_1, hcz51_2, hcz51_3, hcz51_4, hcz51_5, hcz51_6, hcz51_7, hcz51_8, hcz51_9, hcz51_10, hcz51_11, hcz51_12, hcz51_13, hcz51_14, hcz51_15, hcz51_16⟩ := Gv.c17 BK405.out; obtain ⟨hfz51_0, hfz51_1, hfz51_2, hfz51_3, hfz51_4, hfz51_5, hfz51_6, hfz51_7, hfz51_8, hfz51_9, hfz51_10, hfz51_11, hfz51_12, hfz51_13, hfz51_14, hfz51_15, hfz51_16⟩ := Gv.f17 BK405.out) | ((with_reducible refine gate_store (t := 38) (p := 1) rfl ?_); refine Gv.store_event rfl rfl rfl rfl rfl (Gv.kb BK405.out) (by kernel_rfl) rfl (by simp; and_intros <;> rfl) ?_; intro w50s hbox hoth hbel; have n0_ := Gv.a0 (hbox); have n1_ := Gv.a0 (hbel w Gv.bw GE405.out); clear BK405 HB; have BK405 := n0_; have HB := n1_; clear n0_ n1_ hbox hoth hbel; (try clear hcz51_0 hcz51_1 hcz51_2 hcz51_3 hcz51_4 hcz51_5 hcz51_6 hcz51_7 hcz51_8 hcz51_9 hcz51_10 hcz51_11 hcz51_12 hcz51_13 hcz51_14 hcz51_15 hcz51_16 hfz51_0 hfz51_1 hfz51_2 hfz51_3 hfz51_4 hfz51_5 hfz51_6 hfz51_7 hfz51_8 hfz51_9 hfz51_10 hfz51_11 hfz51_12 hfz51_13 hfz51_14 hfz51_15 hfz51_16); obtain ⟨hcz51_0, hcz51_1, hcz51_2, hcz51_3, hcz51_4, hcz51_5, hcz51_6, hcz51_7, hcz51_8, hcz51_9, hcz51_10, hcz51_11, hcz51_12, hcz51_13, hcz51_14, hcz51_15, hcz51_16⟩ := Gv.c17 BK405.out; obtain ⟨hfz51_0, hfz51_1, hfz51_2, hfz51_3, hfz51_4, hfz51_5, hfz51_6, hfz51_7, hfz51_8, hfz51_9, hfz51_10, hfz51_11, hfz51_12, hfz51_13, hfz51_14, hfz51_15, hfz51_16⟩ := Gv.f17 BK405.out) | ((with_reducible refine gate_dst (N := 3) rfl ?_); refine box_event ?hg (N := 3) ?hd (cs := #[.int .i64 0, .int .i64 0, .int .i64 0, .int .i64 0, .int .i64 0, .int .i64 0, .int .i64 0, .int .i64 0, .int .i64 0, .int .i64 0, .int .i64 0, .int .i64 0, .int .i64 0, .int .i64 0, .int .i64 0, .int .i64 0, .int .i64 0]) (t := 38) ?hr ?_; (case hd => rfl); (case hg => rfl); (case hr => first | (go_simp; done) | (go_simp; rfl)); intro gb406 hg w52 hbox hb; have n0_ := Gv.a0 (Gv.bb BK405.out hb); have n1_ := Gv.a0 (below_step Gv.bw hb); have n2_ := Gv.a0 (hbox); have n3_ := Gv.a0 ((Gv.ble hg Gv.bw : w.heap.size ≤ gb406)); have n4_ := Gv.a0 ((Gv.ble hg Gv.bw : w.heap.size ≤ gb406)); have n5_ := Gv.a0 ((Gv.nlt hg (Gv.kb BK405.out) : gb405 ≠ gb406)); have n6_ := Gv.a0 ((Gv.ngt hg (Gv.kb BK405.out) : gb406 ≠ gb405)); clear BK405; clear HB; have BK405 := n0_; have HB := n1_; have BK406 := n2_; have GW406 := n3_; have GE406 := n4_; have NB405_406 := n5_; have NB406_405 := n6_; clear n0_ n1_ n2_ n3_ n4_ n5_ n6_; clear hb hbox hg; have hnb53 := NB406_405.out; have hnc53 := NB405_406.out; obtain ⟨hcz54_0, hcz54_1, hcz54_2, hcz54_3, hcz54_4, hcz54_5, hcz54_6, hcz54_7, hcz54_8, hcz54_9, hcz54_10, hcz54_11, hcz54_12, hcz54_13, hcz54_14, hcz54_15, hcz54_16⟩ := Gv.c17 BK406.out; obtain ⟨hfz54_0, hfz54_1, hfz54_2, hfz54_3, hfz54_4, hfz54_5, hfz54_6, hfz54_7, hfz54_8, hfz54_9, hfz54_10, hfz54_11, hfz54_12, hfz54_13, hfz54_14, hfz54_15, hfz54_16⟩ := Gv.f17 BK406.out; obtain ⟨hcz55_0, hcz55_1, hcz55_2, hcz55_3, hcz55_4, hcz55_5, hcz55_6, hcz55_7, hcz55_8, hcz55_9, hcz55_10, hcz55_11, hcz55_12, hcz55_13, hcz55_14, hcz55_15, hcz55_16⟩ := Gv.c17 BK405.out; obtain ⟨hfz55_0, hfz55_1, hfz55_2, hfz55_3, hfz55_4, hfz55_5, hfz55_6, hfz55_7, hfz55_8, hfz55_9, hfz55_10, hfz55_11, hfz55_12, hfz55_13, hfz55_14, hfz55_15, hfz55_16⟩ := Gv.f17 BK405.out) | ((with_reducible refine gate_store (t := 38) (p := 3) rfl ?_); refine Gv.store_event rfl rfl rfl rfl rfl (Gv.kb BK406.out) (by kernel_rfl) rfl (by simp; and_intros <;> rfl) ?_; intro w52s hbox hoth hbel; have n0_ := Gv.a0 (hbox); have n1_ := Gv.a0 (hbel w Gv.bw GE406.out); have n2_ := Gv.a0 ((hoth gb405 NB405_406.out).trans (Gv.kb BK405.out)); clear BK406 HB BK405; have BK406 := n0_; have HB := n1_; have BK405 := n2_; clear n0_ n1_ n2_ hbox hoth hbel; (try clear hcz54_0 hcz54_1 hcz54_2 hcz54_3 hcz54_4 hcz54_5 hcz54_6 hcz54_7 hcz54_8 hcz54_9 hcz54_10 hcz54_11 hcz54_12 hcz54_13 hcz54_14 hcz54_15 hcz54_16 hfz54_0 hfz54_1 hfz54_2 hfz54_3 hfz54_4 hfz54_5 hfz54_6 hfz54_7 hfz54_8 hfz54_9 hfz54_10 hfz54_11 hfz54_12 hfz54_13 hfz54_14 hfz54_15 hfz54_16 hcz55_0 hcz55_1 hcz55_2 hcz55_3 hcz55_4 hcz55_5 hcz55_6 hcz55_7 hcz55_8 hcz55_9 hcz55_10 hcz55_11 hcz55_12 hcz55_13 hcz55_14 hcz55_15 hcz55_16 hfz55_0 hfz55_1 hfz55_2 hfz55_3 hfz55_4 hfz55_5 hfz55_6 hfz55_7 hfz55_8 hfz55_9 hfz55_10 hfz55_11 hfz55_12 hfz55_13 hfz55_14 hfz55_15 hfz55_16); obtain ⟨hcz54_0, hcz54_1, hcz54_2, hcz54_3, hcz54_4, hcz54_5, hcz54_6, hcz54_7, hcz54_8, hcz54_9, hcz54_10, hcz54_11, hcz54_12, hcz54_13, hcz54_14, hcz54_15, hcz54_16⟩ := Gv.c17 BK406.out; obtain ⟨hfz54_0, hfz54_1, hfz54_2, hfz54_3, hfz54_4, hfz54_5, hfz54_6, hfz54_7, hfz54_8, hfz54_9, hfz54_10, hfz54_11, hfz54_12, hfz54_13, hfz54_14, hfz54_15, hfz54_16⟩ := Gv.f17 BK406.out; obtain ⟨hcz55_0, hcz55_1, hcz55_2, hcz55_3, hcz55_4, hcz55_5, hcz55_6, hcz55_7, hcz55_8, hcz55_9, hcz55_10, hcz55_11, hcz55_12, hcz55_13, hcz55_14, hcz55_15, hcz55_16⟩ := Gv.c17 BK405.out; obtain ⟨hfz55_0, hfz55_1, hfz55_2, hfz55_3, hfz55_4, hfz55_5, hfz55_6, hfz55_7, hfz55_8, hfz55_9, hfz55_10, hfz55_11, hfz55_12, hfz55_13, hfz55_14, hfz55_15, hfz55_16⟩ := Gv.f17 BK405.out) | ((with_reducible refine gate_callee (f := 43) rfl ?_); refine goesL_ (some 11) rfl rfl Try.func43 (by kernel_rfl) rfl #[.agg #[.int .i64 a0_1, .int .i64 a0_2, .int .i64 a0_3, .int .i64 a0_4, .int .i64 a0_5, .int .i64 a0_6]] rfl Gv.lm ?_; (with_reducible refine (impl_PrefixOk.calls k a0_1 a0_2 a0_3 a0_4 a0_5 a0_6 false _ A3.out).mono ?_); rintro e w56 ⟨rfl, hb⟩; refine ⟨_, rfl, ?_⟩; have n0_ := Gv.a0 (blk_below (g := gb405) (o := .cells #[.int .i64 a0_0, .int .i64 a0_1, .int .i64 a0_2, .int .i64 a0_3, .int .i64 a0_4, .int .i64 a0_5, .int .i64 a0_6, .int .i64 a0_7, .int .i64 a0_8, .int .i64 a0_9, .int .i64 a0_10, .int .i64 a0_11, .int .i64 a0_12, .int .i64 a0_13, .int .i64 a0_14, .int .i64 a0_15, .int .i64 a0_16] 38 (0, 0)) Gv.bkf hb); have n1_ := Gv.a0 (blk_below (g := gb406) (o := .cells #[.int .i64 a0_0, .int .i64 a0_1, .int .i64 a0_2, .int .i64 a0_3, .int .i64 a0_4, .int .i64 a0_5, .int .i64 a0_6, .int .i64 a0_7, .int .i64 a0_8, .int .i64 a0_9, .int .i64 a0_10, .int .i64 a0_11, .int .i64 a0_12, .int .i64 a0_13, .int .i64 a0_14, .int .i64 a0_15, .int .i64 a0_16] 38 (0, 0)) (by (with_reducible repeat (first | refine blk_drewN ?_ _ | refine blk_drew ?_ | refine blk_alloc ?_ _)); exact BK406.out) hb); have n2_ := Gv.a0 (below_step Gv.bw hb); clear BK405; clear BK406; clear HB; have BK405 := n0_; have BK406 := n1_; have HB := n2_; clear n0_ n1_ n2_; (try clear hb); (try clear hb2); (try clear hk); (try clear hi)) | ((with_reducible refine Gv.gate_load (t := 38) rfl ?_); (try (refine gate_guard (by rfl) ?_; dsimp only)); refine wpList_load_row rfl 38 _ rfl gb405 rfl 38 _ _ _ (by first | exact Gv.kb0 BK405.out | exact Gv.kb1 (Gv.kb0 BK405.out)) Try.underlying38 rfl (by kernel_rfl) ?_) | ((with_reducible refine Gv.gate_load (t := 38) rfl ?_); (try (refine gate_guard (by rfl) ?_; dsimp only)); refine wpList_load_row rfl 38 _ rfl gb406 rfl 38 _ _ _ (by first | exact Gv.kb0 BK406.out | exact Gv.kb1 (Gv.kb0 BK406.out)) Try.underlying38 rfl (by kernel_rfl) ?_) | ((with_reducible refine gate_store (t := 3) rfl ?_); refine Gv.put_event (g := gb405) rfl rfl rfl rfl rfl (Gv.kb0 BK405.out) (by kernel_rfl) (by simp) ?_; intro wp_ hbox hoth hbel; simp only [List.setIfInBounds_toArray, List.set_cons_succ, List.set_cons_zero] at hbox; have n0_ := Gv.a0 hbox; have n1_ := Gv.a0 (hbel w Gv.bw GE405.out); have n2_ := Gv.a0 ((hoth gb406 NB406_405.out).trans (Gv.kb0 BK406.out)); clear BK405 HB BK406; have BK405 := n0_; have HB := n1_; have BK406 := n2_; clear n0_ n1_ n2_ hbox hoth hbel; obtain ⟨pc405_0, pc405_1, pc405_2, pc405_3, pc405_4, pc405_5, pc405_6, pc405_7, pc405_8, pc405_9, pc405_10, pc405_11, pc405_12, pc405_13, pc405_14, pc405_15, pc405_16⟩ := Gv.c17 BK405.out; obtain ⟨pf405_0, pf405_1, pf405_2, pf405_3, pf405_4, pf405_5, pf405_6, pf405_7, pf405_8, pf405_9, pf405_10, pf405_11, pf405_12, pf405_13, pf405_14, pf405_15, pf405_16⟩ := Gv.f17 BK405.out; obtain ⟨pc406_0, pc406_1, pc406_2, pc406_3, pc406_4, pc406_5, pc406_6, pc406_7, pc406_8, pc406_9, pc406_10, pc406_11, pc406_12, pc406_13, pc406_14, pc406_15, pc406_16⟩ := Gv.c17 BK406.out; obtain ⟨pf406_0, pf406_1, pf406_2, pf406_3, pf406_4, pf406_5, pf406_6, pf406_7, pf406_8, pf406_9, pf406_10, pf406_11, pf406_12, pf406_13, pf406_14, pf406_15, pf406_16⟩ := Gv.f17 BK406.out) | ((with_reducible refine gate_store (t := 3) rfl ?_); refine Gv.put_event (g := gb406) rfl rfl rfl rfl rfl (Gv.kb0 BK406.out) (by kernel_rfl) (by simp) ?_; intro wp_ hbox hoth hbel; simp only [List.setIfInBounds_toArray, List.set_cons_succ, List.set_cons_zero] at hbox; have n0_ := Gv.a0 hbox; have n1_ := Gv.a0 (hbel w Gv.bw GE406.out); have n2_ := Gv.a0 ((hoth gb405 NB405_406.out).trans (Gv.kb0 BK405.out)); clear BK406 HB BK405; have BK406 := n0_; have HB := n1_; have BK405 := n2_; clear n0_ n1_ n2_ hbox hoth hbel; obtain ⟨pc406_0, pc406_1, pc406_2, pc406_3, pc406_4, pc406_5, pc406_6, pc406_7, pc406_8, pc406_9, pc406_10, pc406_11, pc406_12, pc406_13, pc406_14, pc406_15, pc406_16⟩ := Gv.c17 BK406.out; obtain ⟨pf406_0, pf406_1, pf406_2, pf406_3, pf406_4, pf406_5, pf406_6, pf406_7, pf406_8, pf406_9, pf406_10, pf406_11, pf406_12, pf406_13, pf406_14, pf406_15, pf406_16⟩ := Gv.f17 BK406.out; obtain ⟨pc405_0, pc405_1, pc405_2, pc405_3, pc405_4, pc405_5, pc405_6, pc405_7, pc405_8, pc405_9, pc405_10, pc405_11, pc405_12, pc405_13, pc405_14, pc405_15, pc405_16⟩ := Gv.c17 BK405.out; obtain ⟨pf405_0, pf405_1, pf405_2, pf405_3, pf405_4, pf405_5, pf405_6, pf405_7, pf405_8, pf405_9, pf405_10, pf405_11, pf405_12, pf405_13, pf405_14, pf405_15, pf405_16⟩ := Gv.f17 BK405.out))
   go_ret
   exact ⟨Gv.rt, Gv.bw⟩
 ·rw [if_neg c2] at H
  have c2b0 : (a0_0 == 1) = false := beq_eq_false_iff_ne.mpr c2
  have c2b1 : (a0_0 != 1) = true := bne_iff_ne.mpr c2
  have HC57 := Gv.a0 H
  clear H
  go_enter Try.func15, Try.ntmps15
  go_upto_if 34 with (first | ((with_reducible refine gate_dst (N := 1) rfl ?_); refine box_event ?hg (N := 1) ?hd (cs := #[.int .i64 a0_0, .int .i64 a0_1, .int .i64 a0_2, .int .i64 a0_3, .int .i64 a0_4, .int .i64 a0_5, .int .i64 a0_6, .int .i64 a0_7, .int .i64 a0_8, .int .i64 a0_9, .int .i64 a0_10, .int .i64 a0_11, .int .i64 a0_12, .int .i64 a0_13, .int .i64 a0_14, .int .i64 a0_15, .int .i64 a0_16]) (t := 38) ?hr ?_; (case hd => rfl); (case hg => rfl); (case hr => first | (go_simp; done) | (go_simp; rfl)); intro gb405 hg w58 hbox hb; have n0_ := Gv.a0 (below_step Gv.bw hb); have n1_ := Gv.a0 (hbox); have n2_ := Gv.a0 ((Gv.ble hg Gv.bw : w.heap.size ≤ gb405)); have n3_ := Gv.a0 ((Gv.ble hg Gv.bw : w.heap.size ≤ gb405)); clear HB; have HB := n0_; have BK405 := n1_; have GW405 := n2_; have GE405 := n3_; clear n0_ n1_ n2_ n3_; clear hb hbox hg; obtain ⟨hcz59_0, hcz59_1, hcz59_2, hcz59_3, hcz59_4, hcz59_5, hcz59_6, hcz59_7, hcz59_8, hcz59_9, hcz59_10, hcz59_11, hcz59_12, hcz59_13, hcz59_14, hcz59_15, hcz59_16⟩ := Gv.c17 BK405.out; obtain ⟨hfz59_0, hfz59_1, hfz59_2, hfz59_3, hfz59_4, hfz59_5, hfz59_6, hfz59_7, hfz59_8, hfz59_9, hfz59_10, hfz59_11, hfz59_12, hfz59_13, hfz59_14, hfz59_15, hfz59_16⟩ := Gv.f17 BK405.out) | ((with_reducible refine gate_store (t := 38) (p := 1) rfl ?_); refine Gv.store_event rfl rfl rfl rfl rfl (Gv.kb BK405.out) (by kernel_rfl) rfl (by simp; and_intros <;> rfl) ?_; intro w58s hbox hoth hbel; have n0_ := Gv.a0 (hbox); have n1_ := Gv.a0 (hbel w Gv.bw GE405.out); clear BK405 HB; have BK405 := n0_; have HB := n1_; clear n0_ n1_ hbox hoth hbel; (try clear hcz59_0 hcz59_1 hcz59_2 hcz59_3 hcz59_4 hcz59_5 hcz59_6 hcz59_7 hcz59_8 hcz59_9 hcz59_10 hcz59_11 hcz59_12 hcz59_13 hcz59_14 hcz59_15 hcz59_16 hfz59_0 hfz59_1 hfz59_2 hfz59_3 hfz59_4 hfz59_5 hfz59_6 hfz59_7 hfz59_8 hfz59_9 hfz59_10 hfz59_11 hfz59_12 hfz59_13 hfz59_14 hfz59_15 hfz59_16); obtain ⟨hcz59_0, hcz59_1, hcz59_2, hcz59_3, hcz59_4, hcz59_5, hcz59_6, hcz59_7, hcz59_8, hcz59_9, hcz59_10, hcz59_11, hcz59_12, hcz59_13, hcz59_14, hcz59_15, hcz59_16⟩ := Gv.c17 BK405.out; obtain ⟨hfz59_0, hfz59_1, hfz59_2, hfz59_3, hfz59_4, hfz59_5, hfz59_6, hfz59_7, hfz59_8, hfz59_9, hfz59_10, hfz59_11, hfz59_12, hfz59_13, hfz59_14, hfz59_15, hfz59_16⟩ := Gv.f17 BK405.out) | ((with_reducible refine gate_dst (N := 3) rfl ?_); refine box_event ?hg (N := 3) ?hd (cs := #[.int .i64 0, .int .i64 0, .int .i64 0, .int .i64 0, .int .i64 0, .int .i64 0, .int .i64 0, .int .i64 0, .int .i64 0, .int .i64 0, .int .i64 0, .int .i64 0, .int .i64 0, .int .i64 0, .int .i64 0, .int .i64 0, .int .i64 0]) (t := 38) ?hr ?_; (case hd => rfl); (case hg => rfl); (case hr => first | (go_simp; done) | (go_simp; rfl)); intro gb406 hg w60 hbox hb; have n0_ := Gv.a0 (Gv.bb BK405.out hb); have n1_ := Gv.a0 (below_step Gv.bw hb); have n2_ := Gv.a0 (hbox); have n3_ := Gv.a0 ((Gv.ble hg Gv.bw : w.heap.size ≤ gb406)); have n4_ := Gv.a0 ((Gv.ble hg Gv.bw : w.heap.size ≤ gb406)); have n5_ := Gv.a0 ((Gv.nlt hg (Gv.kb BK405.out) : gb405 ≠ gb406)); have n6_ := Gv.a0 ((Gv.ngt hg (Gv.kb BK405.out) : gb406 ≠ gb405)); clear BK405; clear HB; have BK405 := n0_; have HB := n1_; have BK406 := n2_; have GW406 := n3_; have GE406 := n4_; have NB405_406 := n5_; have NB406_405 := n6_; clear n0_ n1_ n2_ n3_ n4_ n5_ n6_; clear hb hbox hg; have hnb61 := NB406_405.out; have hnc61 := NB405_406.out; obtain ⟨hcz62_0, hcz62_1, hcz62_2, hcz62_3, hcz62_4, hcz62_5, hcz62_6, hcz62_7, hcz62_8, hcz62_9, hcz62_10, hcz62_11, hcz62_12, hcz62_13, hcz62_14, hcz62_15, hcz62_16⟩ := Gv.c17 BK406.out; obtain ⟨hfz62_0, hfz62_1, hfz62_2, hfz62_3, hfz62_4, hfz62_5, hfz62_6, hfz62_7, hfz62_8, hfz62_9, hfz62_10, hfz62_11, hfz62_12, hfz62_13, hfz62_14, hfz62_15, hfz62_16⟩ := Gv.f17 BK406.out; obtain ⟨hcz63_0, hcz63_1, hcz63_2, hcz63_3, hcz63_4, hcz63_5, hcz63_6, hcz63_7, hcz63_8, hcz63_9, hcz63_10, hcz63_11, hcz63_12, hcz63_13, hcz63_14, hcz63_15, hcz63_16⟩ := Gv.c17 BK405.out; obtain ⟨hfz63_0, hfz63_1, hfz63_2, hfz63_3, hfz63_4, hfz63_5, hfz63_6, hfz63_7, hfz63_8, hfz63_9, hfz63_10, hfz63_11, hfz63_12, hfz63_13, hfz63_14, hfz63_15, hfz63_16⟩ := Gv.f17 BK405.out) | ((with_reducible refine gate_store (t := 38) (p := 3) rfl ?_); refine Gv.store_event rfl rfl rfl rfl rfl (Gv.kb BK406.out) (by kernel_rfl) rfl (by simp; and_intros <;> rfl) ?_; intro w60s hbox hoth hbel; have n0_ := Gv.a0 (hbox); have n1_ := Gv.a0 (hbel w Gv.bw GE406.out); have n2_ := Gv.a0 ((hoth gb405 NB405_406.out).trans (Gv.kb BK405.out)); clear BK406 HB BK405; have BK406 := n0_; have HB := n1_; have BK405 := n2_; clear n0_ n1_ n2_ hbox hoth hbel; (try clear hcz62_0 hcz62_1 hcz62_2 hcz62_3 hcz62_4 hcz62_5 hcz62_6 hcz62_7 hcz62_8 hcz62_9 hcz62_10 hcz62_11 hcz62_12 hcz62_13 hcz62_14 hcz62_15 hcz62_16 hfz62_0 hfz62_1 hfz62_2 hfz62_3 hfz62_4 hfz62_5 hfz62_6 hfz62_7 hfz62_8 hfz62_9 hfz62_10 hfz62_11 hfz62_12 hfz62_13 hfz62_14 hfz62_15 hfz62_16 hcz63_0 hcz63_1 hcz63_2 hcz63_3 hcz63_4 hcz63_5 hcz63_6 hcz63_7 hcz63_8 hcz63_9 hcz63_10 hcz63_11 hcz63_12 hcz63_13 hcz63_14 hcz63_15 hcz63_16 hfz63_0 hfz63_1 hfz63_2 hfz63_3 hfz63_4 hfz63_5 hfz63_6 hfz63_7 hfz63_8 hfz63_9 hfz63_10 hfz63_11 hfz63_12 hfz63_13 hfz63_14 hfz63_15 hfz63_16); obtain ⟨hcz62_0, hcz62_1, hcz62_2, hcz62_3, hcz62_4, hcz62_5, hcz62_6, hcz62_7, hcz62_8, hcz62_9, hcz62_10, hcz62_11, hcz62_12, hcz62_13, hcz62_14, hcz62_15, hcz62_16⟩ := Gv.c17 BK406.out; obtain ⟨hfz62_0, hfz62_1, hfz62_2, hfz62_3, hfz62_4, hfz62_5, hfz62_6, hfz62_7, hfz62_8, hfz62_9, hfz62_10, hfz62_11, hfz62_12, hfz62_13, hfz62_14, hfz62_15, hfz62_16⟩ := Gv.f17 BK406.out; obtain ⟨hcz63_0, hcz63_1, hcz63_2, hcz63_3, hcz63_4, hcz63_5, hcz63_6, hcz63_7, hcz63_8, hcz63_9, hcz63_10, hcz63_11, hcz63_12, hcz63_13, hcz63_14, hcz63_15, hcz63_16⟩ := Gv.c17 BK405.out; obtain ⟨hfz63_0, hfz63_1, hfz63_2, hfz63_3, hfz63_4, hfz63_5, hfz63_6, hfz63_7, hfz63_8, hfz63_9, hfz63_10, hfz63_11, hfz63_12, hfz63_13, hfz63_14, hfz63_15, hfz63_16⟩ := Gv.f17 BK405.out) | ((with_reducible refine Gv.gate_load (t := 38) rfl ?_); (try (refine gate_guard (by rfl) ?_; dsimp only)); refine wpList_load_row rfl 38 _ rfl gb405 rfl 38 _ _ _ (by first | exact Gv.kb0 BK405.out | exact Gv.kb1 (Gv.kb0 BK405.out)) Try.underlying38 rfl (by kernel_rfl) ?_) | ((with_reducible refine Gv.gate_load (t := 38) rfl ?_); (try (refine gate_guard (by rfl) ?_; dsimp only)); refine wpList_load_row rfl 38 _ rfl gb406 rfl 38 _ _ _ (by first | exact Gv.kb0 BK406.out | exact Gv.kb1 (Gv.kb0 BK406.out)) Try.underlying38 rfl (by kernel_rfl) ?_) | ((with_reducible refine gate_store (t := 3) rfl ?_); refine Gv.put_event (g := gb405) rfl rfl rfl rfl rfl (Gv.kb0 BK405.out) (by kernel_rfl) (by simp) ?_; intro wp_ hbox hoth hbel; simp only [List.setIfInBounds_toArray, List.set_cons_succ, List.set_cons_zero] at hbox; have n0_ := Gv.a0 hbox; have n1_ := Gv.a0 (hbel w Gv.bw GE405.out); have n2_ := Gv.a0 ((hoth gb406 NB406_405.out).trans (Gv.kb0 BK406.out)); clear BK405 HB BK406; have BK405 := n0_; have HB := n1_; have BK406 := n2_; clear n0_ n1_ n2_ hbox hoth hbel; obtain ⟨pc405_0, pc405_1, pc405_2, pc405_3, pc405_4, pc405_5, pc405_6, pc405_7, pc405_8, pc405_9, pc405_10, pc405_11, pc405_12, pc405_13, pc405_14, pc405_15, pc405_16⟩ := Gv.c17 BK405.out; obtain ⟨pf405_0, pf405_1, pf405_2, pf405_3, pf405_4, pf405_5, pf405_6, pf405_7, pf405_8, pf405_9, pf405_10, pf405_11, pf405_12, pf405_13, pf405_14, pf405_15, pf405_16⟩ := Gv.f17 BK405.out; obtain ⟨pc406_0, pc406_1, pc406_2, pc406_3, pc406_4, pc406_5, pc406_6, pc406_7, pc406_8, pc406_9, pc406_10, pc406_11, pc406_12, pc406_13, pc406_14, pc406_15, pc406_16⟩ := Gv.c17 BK406.out; obtain ⟨pf406_0, pf406_1, pf406_2, pf406_3, pf406_4, pf406_5, pf406_6, pf406_7, pf406_8, pf406_9, pf406_10, pf406_11, pf406_12, pf406_13, pf406_14, pf406_15, pf406_16⟩ := Gv.f17 BK406.out) | ((with_reducible refine gate_store (t := 3) rfl ?_); refine Gv.put_event (g := gb406) rfl rfl rfl rfl rfl (Gv.kb0 BK406.out) (by kernel_rfl) (by simp) ?_; intro wp_ hbox hoth hbel; simp only [List.setIfInBounds_toArray, List.set_cons_succ, List.set_cons_zero] at hbox; have n0_ := Gv.a0 hbox; have n1_ := Gv.a0 (hbel w Gv.bw GE406.out); have n2_ := Gv.a0 ((hoth gb405 NB405_406.out).trans (Gv.kb0 BK405.out)); clear BK406 HB BK405; have BK406 := n0_; have HB := n1_; have BK405 := n2_; clear n0_ n1_ n2_ hbox hoth hbel; obtain ⟨pc406_0, pc406_1, pc406_2, pc406_3, pc406_4, pc406_5, pc406_6, pc406_7, pc406_8, pc406_9, pc406_10, pc406_11, pc406_12, pc406_13, pc406_14, pc406_15, pc406_16⟩ := Gv.c17 BK406.out; obtain ⟨pf406_0, pf406_1, pf406_2, pf406_3, pf406_4, pf406_5, pf406_6, pf406_7, pf406_8, pf406_9, pf406_10, pf406_11, pf406_12, pf406_13, pf406_14, pf406_15, pf406_16⟩ := Gv.f17 BK406.out; obtain ⟨pc405_0, pc405_1, pc405_2, pc405_3, pc405_4, pc405_5, pc405_6, pc405_7, pc405_8, pc405_9, pc405_10, pc405_11, pc405_12, pc405_13, pc405_14, pc405_15, pc405_16⟩ := Gv.c17 BK405.out; obtain ⟨pf405_0, pf405_1, pf405_2, pf405_3, pf405_4, pf405_5, pf405_6, pf405_7, pf405_8, pf405_9, pf405_10, pf405_11, pf405_12, pf405_13, pf405_14, pf405_15, pf405_16⟩ := Gv.f17 BK405.out))
  (try simp only [Act.put, List.setIfInBounds_toArray, List.set_cons_zero, List.set_cons_succ])
  go_cut [34] (fun v34 wc => ∃ (kq : Nat) (x34_56 : Bool), v34 = .bool x34_56 ∧ Aside0 (impl_ModuleOk.j0 kq a0_0 x34_56 a0_0 a0_1 a0_2 a0_3 a0_4 a0_5 a0_6 a0_7 a0_8 a0_9 a0_10 a0_11 a0_12 a0_13 a0_14 a0_15 a0_16 a0_0 a0_1 a0_2 a0_3 a0_4 a0_5 a0_6 a0_7 a0_8 a0_9 a0_10 a0_11 a0_12 a0_13 a0_14 a0_15 a0_16 = some r) ∧ Aside0 (kq ≤ k) ∧ Aside0 (wc.heap[gb405]? = some (.cells #[.int .i64 a0_0, .int .i64 a0_1, .int .i64 a0_2, .int .i64 a0_3, .int .i64 a0_4, .int .i64 a0_5, .int .i64 a0_6, .int .i64 a0_7, .int .i64 a0_8, .int .i64 a0_9, .int .i64 a0_10, .int .i64 a0_11, .int .i64 a0_12, .int .i64 a0_13, .int .i64 a0_14, .int .i64 a0_15, .int .i64 a0_16] 38 (0, 0))) ∧ Aside0 (wc.heap[gb406]? = some (.cells #[.int .i64 a0_0, .int .i64 a0_1, .int .i64 a0_2, .int .i64 a0_3, .int .i64 a0_4, .int .i64 a0_5, .int .i64 a0_6, .int .i64 a0_7, .int .i64 a0_8, .int .i64 a0_9, .int .i64 a0_10, .int .i64 a0_11, .int .i64 a0_12, .int .i64 a0_13, .int .i64 a0_14, .int .i64 a0_15, .int .i64 a0_16] 38 (0, 0))) ∧ Aside0 (Below w.heap.size w wc))
  case first =>
   have H := HC57.out
   clear HC57
   by_cases c64 : a0_0 = 2
   ·rw [if_pos c64] at H
    have c64b0 : (a0_0 == 2) = true := beq_iff_eq.mpr c64
    have c64b1 : (a0_0 != 2) = false := bne_eq_false_iff_eq.mpr c64
    clear c64
    (first | rw [c64b0] | (simp only [i64_w, i32_w]; rw [c64b0]) | skip)
    have H' := Gv.a0 H
    clear H
    go_wp2_with (first | ((with_reducible refine Gv.gate_load (t := 38) rfl ?_); (try (refine gate_guard (by rfl) ?_; dsimp only)); refine wpList_load_row rfl 38 _ rfl gb405 rfl 38 _ _ _ (by first | exact Gv.kb0 BK405.out | exact Gv.kb1 (Gv.kb0 BK405.out)) Try.underlying38 rfl (by kernel_rfl) ?_) | ((with_reducible refine Gv.gate_load (t := 38) rfl ?_); (try (refine gate_guard (by rfl) ?_; dsimp only)); refine wpList_load_row rfl 38 _ rfl gb406 rfl 38 _ _ _ (by first | exact Gv.kb0 BK406.out | exact Gv.kb1 (Gv.kb0 BK406.out)) Try.underlying38 rfl (by kernel_rfl) ?_) | ((with_reducible refine gate_store (t := 3) rfl ?_); refine Gv.put_event (g := gb405) rfl rfl rfl rfl rfl (Gv.kb0 BK405.out) (by kernel_rfl) (by simp) ?_; intro wp_ hbox hoth hbel; simp only [List.setIfInBounds_toArray, List.set_cons_succ, List.set_cons_zero] at hbox; have n0_ := Gv.a0 hbox; have n1_ := Gv.a0 (hbel w Gv.bw GE405.out); have n2_ := Gv.a0 ((hoth gb406 NB406_405.out).trans (Gv.kb0 BK406.out)); clear BK405 HB BK406; have BK405 := n0_; have HB := n1_; have BK406 := n2_; clear n0_ n1_ n2_ hbox hoth hbel; obtain ⟨pc405_0, pc405_1, pc405_2, pc405_3, pc405_4, pc405_5, pc405_6, pc405_7, pc405_8, pc405_9, pc405_10, pc405_11, pc405_12, pc405_13, pc405_14, pc405_15, pc405_16⟩ := Gv.c17 BK405.out; obtain ⟨pf405_0, pf405_1, pf405_2, pf405_3, pf405_4, pf405_5, pf405_6, pf405_7, pf405_8, pf405_9, pf405_10, pf405_11, pf405_12, pf405_13, pf405_14, pf405_15, pf405_16⟩ := Gv.f17 BK405.out; obtain ⟨pc406_0, pc406_1, pc406_2, pc406_3, pc406_4, pc406_5, pc406_6, pc406_7, pc406_8, pc406_9, pc406_10, pc406_11, pc406_12, pc406_13, pc406_14, pc406_15, pc406_16⟩ := Gv.c17 BK406.out; obtain ⟨pf406_0, pf406_1, pf406_2, pf406_3, pf406_4, pf406_5, pf406_6, pf406_7, pf406_8, pf406_9, pf406_10, pf406_11, pf406_12, pf406_13, pf406_14, pf406_15, pf406_16⟩ := Gv.f17 BK406.out) | ((with_reducible refine gate_store (t := 3) rfl ?_); refine Gv.put_event (g := gb406) rfl rfl rfl rfl rfl (Gv.kb0 BK406.out) (by kernel_rfl) (by simp) ?_; intro wp_ hbox hoth hbel; simp only [List.setIfInBounds_toArray, List.set_cons_succ, List.set_cons_zero] at hbox; have n0_ := Gv.a0 hbox; have n1_ := Gv.a0 (hbel w Gv.bw GE406.out); have n2_ := Gv.a0 ((hoth gb405 NB405_406.out).trans (Gv.kb0 BK405.out)); clear BK406 HB BK405; have BK406 := n0_; have HB := n1_; have BK405 := n2_; clear n0_ n1_ n2_ hbox hoth hbel; obtain ⟨pc406_0, pc406_1, pc406_2, pc406_3, pc406_4, pc406_5, pc406_6, pc406_7, pc406_8, pc406_9, pc406_10, pc406_11, pc406_12, pc406_13, pc406_14, pc406_15, pc406_16⟩ := Gv.c17 BK406.out; obtain ⟨pf406_0, pf406_1, pf406_2, pf406_3, pf406_4, pf406_5, pf406_6, pf406_7, pf406_8, pf406_9, pf406_10, pf406_11, pf406_12, pf406_13, pf406_14, pf406_15, pf406_16⟩ := Gv.f17 BK406.out; obtain ⟨pc405_0, pc405_1, pc405_2, pc405_3, pc405_4, pc405_5, pc405_6, pc405_7, pc405_8, pc405_9, pc405_10, pc405_11, pc405_12, pc405_13, pc405_14, pc405_15, pc405_16⟩ := Gv.c17 BK405.out; obtain ⟨pf405_0, pf405_1, pf405_2, pf405_3, pf405_4, pf405_5, pf405_6, pf405_7, pf405_8, pf405_9, pf405_10, pf405_11, pf405_12, pf405_13, pf405_14, pf405_15, pf405_16⟩ := Gv.f17 BK405.out))
    go_meet
    case rel => exact ⟨_, ((a0_0 == 2)), Gv.rq, H', ⟨by first | omega | exact Nat.le_refl _⟩, ⟨by (with_reducible repeat (first | refine blk_drewN ?_ _ | refine blk_drew ?_ | refine blk_alloc ?_ _)); (repeat (refine blk_far ?_ NB405_406.out _; (with_reducible repeat (first | refine blk_drewN ?_ _ | refine blk_drew ?_ | refine blk_alloc ?_ _)))); (with_reducible repeat (first | refine blk_drewN ?_ _ | refine blk_drew ?_ | refine blk_alloc ?_ _)); exact BK405.out⟩, ⟨by (with_reducible repeat (first | refine blk_drewN ?_ _ | refine blk_drew ?_ | refine blk_alloc ?_ _)); exact BK406.out⟩, ⟨Gv.bw⟩⟩
   ·rw [if_neg c64] at H
    have c64b0 : (a0_0 == 2) = false := beq_eq_false_iff_ne.mpr c64
    have c64b1 : (a0_0 != 2) = true := bne_iff_ne.mpr c64
    (first | rw [c64b0] | (simp only [i64_w, i32_w]; rw [c64b0]) | skip)
    have H' := Gv.a0 H
    clear H
    go_wp2_with (first | ((with_reducible refine Gv.gate_load (t := 38) rfl ?_); (try (refine gate_guard (by rfl) ?_; dsimp only)); refine wpList_load_row rfl 38 _ rfl gb405 rfl 38 _ _ _ (by first | exact Gv.kb0 BK405.out | exact Gv.kb1 (Gv.kb0 BK405.out)) Try.underlying38 rfl (by kernel_rfl) ?_) | ((with_reducible refine Gv.gate_load (t := 38) rfl ?_); (try (refine gate_guard (by rfl) ?_; dsimp only)); refine wpList_load_row rfl 38 _ rfl gb406 rfl 38 _ _ _ (by first | exact Gv.kb0 BK406.out | exact Gv.kb1 (Gv.kb0 BK406.out)) Try.underlying38 rfl (by kernel_rfl) ?_) | ((with_reducible refine gate_store (t := 3) rfl ?_); refine Gv.put_event (g := gb405) rfl rfl rfl rfl rfl (Gv.kb0 BK405.out) (by kernel_rfl) (by simp) ?_; intro wp_ hbox hoth hbel; simp only [List.setIfInBounds_toArray, List.set_cons_succ, List.set_cons_zero] at hbox; have n0_ := Gv.a0 hbox; have n1_ := Gv.a0 (hbel w Gv.bw GE405.out); have n2_ := Gv.a0 ((hoth gb406 NB406_405.out).trans (Gv.kb0 BK406.out)); clear BK405 HB BK406; have BK405 := n0_; have HB := n1_; have BK406 := n2_; clear n0_ n1_ n2_ hbox hoth hbel; obtain ⟨pc405_0, pc405_1, pc405_2, pc405_3, pc405_4, pc405_5, pc405_6, pc405_7, pc405_8, pc405_9, pc405_10, pc405_11, pc405_12, pc405_13, pc405_14, pc405_15, pc405_16⟩ := Gv.c17 BK405.out; obtain ⟨pf405_0, pf405_1, pf405_2, pf405_3, pf405_4, pf405_5, pf405_6, pf405_7, pf405_8, pf405_9, pf405_10, pf405_11, pf405_12, pf405_13, pf405_14, pf405_15, pf405_16⟩ := Gv.f17 BK405.out; obtain ⟨pc406_0, pc406_1, pc406_2, pc406_3, pc406_4, pc406_5, pc406_6, pc406_7, pc406_8, pc406_9, pc406_10, pc406_11, pc406_12, pc406_13, pc406_14, pc406_15, pc406_16⟩ := Gv.c17 BK406.out; obtain ⟨pf406_0, pf406_1, pf406_2, pf406_3, pf406_4, pf406_5, pf406_6, pf406_7, pf406_8, pf406_9, pf406_10, pf406_11, pf406_12, pf406_13, pf406_14, pf406_15, pf406_16⟩ := Gv.f17 BK406.out) | ((with_reducible refine gate_store (t := 3) rfl ?_); refine Gv.put_event (g := gb406) rfl rfl rfl rfl rfl (Gv.kb0 BK406.out) (by kernel_rfl) (by simp) ?_; intro wp_ hbox hoth hbel; simp only [List.setIfInBounds_toArray, List.set_cons_succ, List.set_cons_zero] at hbox; have n0_ := Gv.a0 hbox; have n1_ := Gv.a0 (hbel w Gv.bw GE406.out); have n2_ := Gv.a0 ((hoth gb405 NB405_406.out).trans (Gv.kb0 BK405.out)); clear BK406 HB BK405; have BK406 := n0_; have HB := n1_; have BK405 := n2_; clear n0_ n1_ n2_ hbox hoth hbel; obtain ⟨pc406_0, pc406_1, pc406_2, pc406_3, pc406_4, pc406_5, pc406_6, pc406_7, pc406_8, pc406_9, pc406_10, pc406_11, pc406_12, pc406_13, pc406_14, pc406_15, pc406_16⟩ := Gv.c17 BK406.out; obtain ⟨pf406_0, pf406_1, pf406_2, pf406_3, pf406_4, pf406_5, pf406_6, pf406_7, pf406_8, pf406_9, pf406_10, pf406_11, pf406_12, pf406_13, pf406_14, pf406_15, pf406_16⟩ := Gv.f17 BK406.out; obtain ⟨pc405_0, pc405_1, pc405_2, pc405_3, pc405_4, pc405_5, pc405_6, pc405_7, pc405_8, pc405_9, pc405_10, pc405_11, pc405_12, pc405_13, pc405_14, pc405_15, pc405_16⟩ := Gv.c17 BK405.out; obtain ⟨pf405_0, pf405_1, pf405_2, pf405_3, pf405_4, pf405_5, pf405_6, pf405_7, pf405_8, pf405_9, pf405_10, pf405_11, pf405_12, pf405_13, pf405_14, pf405_15, pf405_16⟩ := Gv.f17 BK405.out))
    go_meet
    case rel => exact ⟨_, ((a0_0 == 3)), Gv.rq, H', ⟨by first | omega | exact Nat.le_refl _⟩, ⟨by (with_reducible repeat (first | refine blk_drewN ?_ _ | refine blk_drew ?_ | refine blk_alloc ?_ _)); (repeat (refine blk_far ?_ NB405_406.out _; (with_reducible repeat (first | refine blk_drewN ?_ _ | refine blk_drew ?_ | refine blk_alloc ?_ _)))); (with_reducible repeat (first | refine blk_drewN ?_ _ | refine blk_drew ?_ | refine blk_alloc ?_ _)); exact BK405.out⟩, ⟨by (with_reducible repeat (first | refine blk_drewN ?_ _ | refine blk_drew ?_ | refine blk_alloc ?_ _)); exact BK406.out⟩, ⟨Gv.bw⟩⟩
  case rest =>
   clear HC57
   try clear c1
   try clear c2
   try clear c2b0
   try clear c2b1
   try clear p2
   try clear c3
   try clear c4
   try clear c5
   try clear c6
   try clear c8
   try clear c10
   try clear c14
   try clear c15
   try clear c24
   try clear c34
   try clear c43
   try clear c44
   try clear c53
   try clear c61
   try clear c64
   try clear c64b0
   try clear c64b1
   try clear hcz12_0 hcz12_1
   try clear hcz12_10 hcz12_11 hcz12_12 hcz12_13 hcz12_14 hcz12_15 hcz12_16
   try clear hcz12_2 hcz12_3 hcz12_4 hcz12_5 hcz12_6 hcz12_7 hcz12_8 hcz12_9
   try clear hcz15_0 hcz15_1
   try clear hcz15_10 hcz15_11 hcz15_12 hcz15_13 hcz15_14 hcz15_15 hcz15_16
   try clear hcz15_2 hcz15_3 hcz15_4 hcz15_5 hcz15_6 hcz15_7 hcz15_8 hcz15_9
   try clear hcz16_0 hcz16_1
   try clear hcz16_10 hcz16_11 hcz16_12 hcz16_13 hcz16_14 hcz16_15 hcz16_16
   try clear hcz16_2 hcz16_3 hcz16_4 hcz16_5 hcz16_6 hcz16_7 hcz16_8 hcz16_9
   try clear hcz18_0 hcz18_1
   try clear hcz18_10 hcz18_11 hcz18_12 hcz18_13 hcz18_14 hcz18_15 hcz18_16
   try clear hcz18_2 hcz18_3 hcz18_4 hcz18_5 hcz18_6 hcz18_7 hcz18_8 hcz18_9
   try clear hcz20_0 hcz20_1
   try clear hcz20_10 hcz20_11 hcz20_12 hcz20_13 hcz20_14 hcz20_15 hcz20_16
   try clear hcz20_2 hcz20_3 hcz20_4 hcz20_5 hcz20_6 hcz20_7 hcz20_8 hcz20_9
   try clear hcz22_0 hcz22_1
   try clear hcz22_10 hcz22_11 hcz22_12 hcz22_13 hcz22_14 hcz22_15 hcz22_16
   try clear hcz22_2 hcz22_3 hcz22_4 hcz22_5 hcz22_6 hcz22_7 hcz22_8 hcz22_9
   try clear hcz25_0 hcz25_1
   try clear hcz25_10 hcz25_11 hcz25_12 hcz25_13 hcz25_14 hcz25_15 hcz25_16
   try clear hcz25_2 hcz25_3 hcz25_4 hcz25_5 hcz25_6 hcz25_7 hcz25_8 hcz25_9
   try clear hcz26_0 hcz26_1
   try clear hcz26_10 hcz26_11 hcz26_12 hcz26_13 hcz26_14 hcz26_15 hcz26_16
   try clear hcz26_2 hcz26_3 hcz26_4 hcz26_5 hcz26_6 hcz26_7 hcz26_8 hcz26_9
   try clear hcz28_0 hcz28_1
   try clear hcz28_10 hcz28_11 hcz28_12 hcz28_13 hcz28_14 hcz28_15 hcz28_16
   try clear hcz28_2 hcz28_3 hcz28_4 hcz28_5 hcz28_6 hcz28_7 hcz28_8 hcz28_9
   try clear hcz30_0 hcz30_1
   try clear hcz30_10 hcz30_11 hcz30_12 hcz30_13 hcz30_14 hcz30_15 hcz30_16
   try clear hcz30_2 hcz30_3 hcz30_4 hcz30_5 hcz30_6 hcz30_7 hcz30_8 hcz30_9
   try clear hcz32_0 hcz32_1
   try clear hcz32_10 hcz32_11 hcz32_12 hcz32_13 hcz32_14 hcz32_15 hcz32_16
   try clear hcz32_2 hcz32_3 hcz32_4 hcz32_5 hcz32_6 hcz32_7 hcz32_8 hcz32_9
   try clear hcz35_0 hcz35_1
   try clear hcz35_10 hcz35_11 hcz35_12 hcz35_13 hcz35_14 hcz35_15 hcz35_16
   try clear hcz35_2 hcz35_3 hcz35_4 hcz35_5 hcz35_6 hcz35_7 hcz35_8 hcz35_9
   try clear hcz36_0 hcz36_1
   try clear hcz36_10 hcz36_11 hcz36_12 hcz36_13 hcz36_14 hcz36_15 hcz36_16
   try clear hcz36_2 hcz36_3 hcz36_4 hcz36_5 hcz36_6 hcz36_7 hcz36_8 hcz36_9
   try clear hcz38_0 hcz38_1
   try clear hcz38_10 hcz38_11 hcz38_12 hcz38_13 hcz38_14 hcz38_15 hcz38_16
   try clear hcz38_2 hcz38_3 hcz38_4 hcz38_5 hcz38_6 hcz38_7 hcz38_8 hcz38_9
   try clear hcz40_0 hcz40_1
   try clear hcz40_10 hcz40_11 hcz40_12 hcz40_13 hcz40_14 hcz40_15 hcz40_16
   try clear hcz40_2 hcz40_3 hcz40_4 hcz40_5 hcz40_6 hcz40_7 hcz40_8 hcz40_9
   try clear hcz42_0 hcz42_1
   try clear hcz42_10 hcz42_11 hcz42_12 hcz42_13 hcz42_14 hcz42_15 hcz42_16
   try clear hcz42_2 hcz42_3 hcz42_4 hcz42_5 hcz42_6 hcz42_7 hcz42_8 hcz42_9
   try clear hcz45_0 hcz45_1
   try clear hcz45_10 hcz45_11 hcz45_12 hcz45_13 hcz45_14 hcz45_15 hcz45_16
   try clear hcz45_2 hcz45_3 hcz45_4 hcz45_5 hcz45_6 hcz45_7 hcz45_8 hcz45_9
   try clear hcz46_0 hcz46_1
   try clear hcz46_10 hcz46_11 hcz46_12 hcz46_13 hcz46_14 hcz46_15 hcz46_16
   try clear hcz46_2 hcz46_3 hcz46_4 hcz46_5 hcz46_6 hcz46_7 hcz46_8 hcz46_9
   try clear hcz48_0 hcz48_1
   try clear hcz48_10 hcz48_11 hcz48_12 hcz48_13 hcz48_14 hcz48_15 hcz48_16
   try clear hcz48_2 hcz48_3 hcz48_4 hcz48_5 hcz48_6 hcz48_7 hcz48_8 hcz48_9
   try clear hcz51_0 hcz51_1
   try clear hcz51_10 hcz51_11 hcz51_12 hcz51_13 hcz51_14 hcz51_15 hcz51_16
   try clear hcz51_2 hcz51_3 hcz51_4 hcz51_5 hcz51_6 hcz51_7 hcz51_8 hcz51_9
   try clear hcz54_0 hcz54_1
   try clear hcz54_10 hcz54_11 hcz54_12 hcz54_13 hcz54_14 hcz54_15 hcz54_16
   try clear hcz54_2 hcz54_3 hcz54_4 hcz54_5 hcz54_6 hcz54_7 hcz54_8 hcz54_9
   try clear hcz55_0 hcz55_1
   try clear hcz55_10 hcz55_11 hcz55_12 hcz55_13 hcz55_14 hcz55_15 hcz55_16
   try clear hcz55_2 hcz55_3 hcz55_4 hcz55_5 hcz55_6 hcz55_7 hcz55_8 hcz55_9
   try clear hcz59_0 hcz59_1
   try clear hcz59_10 hcz59_11 hcz59_12 hcz59_13 hcz59_14 hcz59_15 hcz59_16
   try clear hcz59_2 hcz59_3 hcz59_4 hcz59_5 hcz59_6 hcz59_7 hcz59_8 hcz59_9
   try clear hcz62_0 hcz62_1
   try clear hcz62_10 hcz62_11 hcz62_12 hcz62_13 hcz62_14 hcz62_15 hcz62_16
   try clear hcz62_2 hcz62_3 hcz62_4 hcz62_5 hcz62_6 hcz62_7 hcz62_8 hcz62_9
   try clear hcz63_0 hcz63_1
   try clear hcz63_10 hcz63_11 hcz63_12 hcz63_13 hcz63_14 hcz63_15 hcz63_16
   try clear hcz63_2 hcz63_3 hcz63_4 hcz63_5 hcz63_6 hcz63_7 hcz63_8 hcz63_9
   try clear hfz12_0 hfz12_1
   try clear hfz12_10 hfz12_11 hfz12_12 hfz12_13 hfz12_14 hfz12_15 hfz12_16
   try clear hfz12_2 hfz12_3 hfz12_4 hfz12_5 hfz12_6 hfz12_7 hfz12_8 hfz12_9
   try clear hfz15_0 hfz15_1
   try clear hfz15_10 hfz15_11 hfz15_12 hfz15_13 hfz15_14 hfz15_15 hfz15_16
   try clear hfz15_2 hfz15_3 hfz15_4 hfz15_5 hfz15_6 hfz15_7 hfz15_8 hfz15_9
   try clear hfz16_0 hfz16_1
   try clear hfz16_10 hfz16_11 hfz16_12 hfz16_13 hfz16_14 hfz16_15 hfz16_16
   try clear hfz16_2 hfz16_3 hfz16_4 hfz16_5 hfz16_6 hfz16_7 hfz16_8 hfz16_9
   try clear hfz18_0 hfz18_1
   try clear hfz18_10 hfz18_11 hfz18_12 hfz18_13 hfz18_14 hfz18_15 hfz18_16
   try clear hfz18_2 hfz18_3 hfz18_4 hfz18_5 hfz18_6 hfz18_7 hfz18_8 hfz18_9
   try clear hfz20_0 hfz20_1
   try clear hfz20_10 hfz20_11 hfz20_12 hfz20_13 hfz20_14 hfz20_15 hfz20_16
   try clear hfz20_2 hfz20_3 hfz20_4 hfz20_5 hfz20_6 hfz20_7 hfz20_8 hfz20_9
   try clear hfz22_0 hfz22_1
   try clear hfz22_10 hfz22_11 hfz22_12 hfz22_13 hfz22_14 hfz22_15 hfz22_16
   try clear hfz22_2 hfz22_3 hfz22_4 hfz22_5 hfz22_6 hfz22_7 hfz22_8 hfz22_9
   try clear hfz25_0 hfz25_1
   try clear hfz25_10 hfz25_11 hfz25_12 hfz25_13 hfz25_14 hfz25_15 hfz25_16
   try clear hfz25_2 hfz25_3 hfz25_4 hfz25_5 hfz25_6 hfz25_7 hfz25_8 hfz25_9
   try clear hfz26_0 hfz26_1
   try clear hfz26_10 hfz26_11 hfz26_12 hfz26_13 hfz26_14 hfz26_15 hfz26_16
   try clear hfz26_2 hfz26_3 hfz26_4 hfz26_5 hfz26_6 hfz26_7 hfz26_8 hfz26_9
   try clear hfz28_0 hfz28_1
   try clear hfz28_10 hfz28_11 hfz28_12 hfz28_13 hfz28_14 hfz28_15 hfz28_16
   try clear hfz28_2 hfz28_3 hfz28_4 hfz28_5 hfz28_6 hfz28_7 hfz28_8 hfz28_9
   try clear hfz30_0 hfz30_1
   try clear hfz30_10 hfz30_11 hfz30_12 hfz30_13 hfz30_14 hfz30_15 hfz30_16
   try clear hfz30_2 hfz30_3 hfz30_4 hfz30_5 hfz30_6 hfz30_7 hfz30_8 hfz30_9
   try clear hfz32_0 hfz32_1
   try clear hfz32_10 hfz32_11 hfz32_12 hfz32_13 hfz32_14 hfz32_15 hfz32_16
   try clear hfz32_2 hfz32_3 hfz32_4 hfz32_5 hfz32_6 hfz32_7 hfz32_8 hfz32_9
   try clear hfz35_0 hfz35_1
   try clear hfz35_10 hfz35_11 hfz35_12 hfz35_13 hfz35_14 hfz35_15 hfz35_16
   try clear hfz35_2 hfz35_3 hfz35_4 hfz35_5 hfz35_6 hfz35_7 hfz35_8 hfz35_9
   try clear hfz36_0 hfz36_1
   try clear hfz36_10 hfz36_11 hfz36_12 hfz36_13 hfz36_14 hfz36_15 hfz36_16
   try clear hfz36_2 hfz36_3 hfz36_4 hfz36_5 hfz36_6 hfz36_7 hfz36_8 hfz36_9
   try clear hfz38_0 hfz38_1
   try clear hfz38_10 hfz38_11 hfz38_12 hfz38_13 hfz38_14 hfz38_15 hfz38_16
   try clear hfz38_2 hfz38_3 hfz38_4 hfz38_5 hfz38_6 hfz38_7 hfz38_8 hfz38_9
   try clear hfz40_0 hfz40_1
   try clear hfz40_10 hfz40_11 hfz40_12 hfz40_13 hfz40_14 hfz40_15 hfz40_16
   try clear hfz40_2 hfz40_3 hfz40_4 hfz40_5 hfz40_6 hfz40_7 hfz40_8 hfz40_9
   try clear hfz42_0 hfz42_1
   try clear hfz42_10 hfz42_11 hfz42_12 hfz42_13 hfz42_14 hfz42_15 hfz42_16
   try clear hfz42_2 hfz42_3 hfz42_4 hfz42_5 hfz42_6 hfz42_7 hfz42_8 hfz42_9
   try clear hfz45_0 hfz45_1
   try clear hfz45_10 hfz45_11 hfz45_12 hfz45_13 hfz45_14 hfz45_15 hfz45_16
   try clear hfz45_2 hfz45_3 hfz45_4 hfz45_5 hfz45_6 hfz45_7 hfz45_8 hfz45_9
   try clear hfz46_0 hfz46_1
   try clear hfz46_10 hfz46_11 hfz46_12 hfz46_13 hfz46_14 hfz46_15 hfz46_16
   try clear hfz46_2 hfz46_3 hfz46_4 hfz46_5 hfz46_6 hfz46_7 hfz46_8 hfz46_9
   try clear hfz48_0 hfz48_1
   try clear hfz48_10 hfz48_11 hfz48_12 hfz48_13 hfz48_14 hfz48_15 hfz48_16
   try clear hfz48_2 hfz48_3 hfz48_4 hfz48_5 hfz48_6 hfz48_7 hfz48_8 hfz48_9
   try clear hfz51_0 hfz51_1
   try clear hfz51_10 hfz51_11 hfz51_12 hfz51_13 hfz51_14 hfz51_15 hfz51_16
   try clear hfz51_2 hfz51_3 hfz51_4 hfz51_5 hfz51_6 hfz51_7 hfz51_8 hfz51_9
   try clear hfz54_0 hfz54_1
   try clear hfz54_10 hfz54_11 hfz54_12 hfz54_13 hfz54_14 hfz54_15 hfz54_16
   try clear hfz54_2 hfz54_3 hfz54_4 hfz54_5 hfz54_6 hfz54_7 hfz54_8 hfz54_9
   try clear hfz55_0 hfz55_1
   try clear hfz55_10 hfz55_11 hfz55_12 hfz55_13 hfz55_14 hfz55_15 hfz55_16
   try clear hfz55_2 hfz55_3 hfz55_4 hfz55_5 hfz55_6 hfz55_7 hfz55_8 hfz55_9
   try clear hfz59_0 hfz59_1
   try clear hfz59_10 hfz59_11 hfz59_12 hfz59_13 hfz59_14 hfz59_15 hfz59_16
   try clear hfz59_2 hfz59_3 hfz59_4 hfz59_5 hfz59_6 hfz59_7 hfz59_8 hfz59_9
   try clear hfz62_0 hfz62_1
   try clear hfz62_10 hfz62_11 hfz62_12 hfz62_13 hfz62_14 hfz62_15 hfz62_16
   try clear hfz62_2 hfz62_3 hfz62_4 hfz62_5 hfz62_6 hfz62_7 hfz62_8 hfz62_9
   try clear hfz63_0 hfz63_1
   try clear hfz63_10 hfz63_11 hfz63_12 hfz63_13 hfz63_14 hfz63_15 hfz63_16
   try clear hfz63_2 hfz63_3 hfz63_4 hfz63_5 hfz63_6 hfz63_7 hfz63_8 hfz63_9
   obtain ⟨kq, x34_56, rfl, HA, HJ56, BK405, BK406, HB⟩ := hcut
   cases kq with
   | zero => exact absurd HA.out (by simp [impl_ModuleOk.j0])
   | succ kj56 =>
    have H := HA.out
    clear HA
    simp only [impl_ModuleOk.j0] at H
    by_cases c65 : x34_56 = true
    ·subst c65
     have H1 : ((impl_arePairOf.f kj56 a0_1 a0_2 a0_3 a0_4 a0_5 a0_6 a0_7 a0_8 a0_9 a0_10 a0_11 a0_12).bind fun t411 => (if t411 = true then (some (a0_0 == a0_0 && (a0_13 == 0 && (a0_14 == 0 && (a0_15 == 0 && (a0_16 == 0)))))) else (some false))) = some r := by rw [if_pos rfl] at H; exact H
     clear H
     have H := H1
     clear H1
     replace H := Option.bind_eq_some_iff.mp H
     obtain ⟨t411, A660, H⟩ := H
     replace H : (if t411 = true then (some (a0_0 == a0_0 && (a0_13 == 0 && (a0_14 == 0 && (a0_15 == 0 && (a0_16 == 0)))))) else (some false)) = some r := H
     have A66 := Gv.a0 A660
     clear A660
     by_cases c67 : t411 = true
     ·subst c67
      have H1 : (some (a0_0 == a0_0 && (a0_13 == 0 && (a0_14 == 0 && (a0_15 == 0 && (a0_16 == 0)))))) = some r := by rw [if_pos rfl] at H; exact H
      clear H
      have H := H1
      clear H1
      obtain rfl := Option.some.inj H
      have hnb68 := NB406_405.out
      have hnc68 := NB405_406.out
      obtain ⟨hcz69_0, hcz69_1, hcz69_2, hcz69_3, hcz69_4, hcz69_5, hcz69_6, hcz69_7, hcz69_8, hcz69_9, hcz69_10, hcz69_11, hcz69_12, hcz69_13, hcz69_14, hcz69_15, hcz69_16⟩ := Gv.c17 BK406.out
      obtain ⟨hfz69_0, hfz69_1, hfz69_2, hfz69_3, hfz69_4, hfz69_5, hfz69_6, hfz69_7, hfz69_8, hfz69_9, hfz69_10, hfz69_11, hfz69_12, hfz69_13, hfz69_14, hfz69_15, hfz69_16⟩ := Gv.f17 BK406.out
      obtain ⟨hcz70_0, hcz70_1, hcz70_2, hcz70_3, hcz70_4, hcz70_5, hcz70_6, hcz70_7, hcz70_8, hcz70_9, hcz70_10, hcz70_11, hcz70_12, hcz70_13, hcz70_14, hcz70_15, hcz70_16⟩ := Gv.c17 BK405.out
      obtain ⟨hfz70_0, hfz70_1, hfz70_2, hfz70_3, hfz70_4, hfz70_5, hfz70_6, hfz70_7, hfz70_8, hfz70_9, hfz70_10, hfz70_11, hfz70_12, hfz70_13, hfz70_14, hfz70_15, hfz70_16⟩ := Gv.f17 BK405.out
      go_wp2_with (first | ((with_reducible refine gate_callee (f := 36) rfl ?_); refine goesL_ (some 45) rfl rfl Try.func36 (by kernel_rfl) rfl #[.agg #[.int .i64 a0_1, .int .i64 a0_2, .int .i64 a0_3, .int .i64 a0_4, .int .i64 a0_5, .int .i64 a0_6], .agg #[.int .i64 a0_7, .int .i64 a0_8, .int .i64 a0_9, .int .i64 a0_10, .int .i64 a0_11, .int .i64 a0_12]] rfl Gv.lm ?_; (with_reducible refine (impl_arePairOf.calls kj56 a0_1 a0_2 a0_3 a0_4 a0_5 a0_6 a0_7 a0_8 a0_9 a0_10 a0_11 a0_12 true _ A66.out).mono ?_); rintro e w71 ⟨rfl, hb⟩; refine ⟨_, rfl, ?_⟩; have n0_ := Gv.a0 (blk_below (g := gb405) (o := .cells #[.int .i64 a0_0, .int .i64 a0_1, .int .i64 a0_2, .int .i64 a0_3, .int .i64 a0_4, .int .i64 a0_5, .int .i64 a0_6, .int .i64 a0_7, .int .i64 a0_8, .int .i64 a0_9, .int .i64 a0_10, .int .i64 a0_11, .int .i64 a0_12, .int .i64 a0_13, .int .i64 a0_14, .int .i64 a0_15, .int .i64 a0_16] 38 (0, 0)) Gv.bkf hb); have n1_ := Gv.a0 (blk_below (g := gb406) (o := .cells #[.int .i64 a0_0, .int .i64 0, .int .i64 0, .int .i64 0, .int .i64 0, .int .i64 0, .int .i64 0, .int .i64 0, .int .i64 0, .int .i64 0, .int .i64 0, .int .i64 0, .int .i64 0, .int .i64 a0_13, .int .i64 a0_14, .int .i64 a0_15, .int .i64 a0_16] 38 (0, 0)) (by (with_reducible repeat (first | refine blk_drewN ?_ _ | refine blk_drew ?_ | refine blk_alloc ?_ _)); (try refine blk_put (cs := #[.int .i64 a0_0, .int .i64 0, .int .i64 0, .int .i64 0, .int .i64 0, .int .i64 0, .int .i64 0, .int .i64 0, .int .i64 0, .int .i64 0, .int .i64 0, .int .i64 0, .int .i64 a0_12, .int .i64 a0_13, .int .i64 a0_14, .int .i64 a0_15, .int .i64 a0_16]) ?_ 12 _ rfl); (with_reducible repeat (first | refine blk_drewN ?_ _ | refine blk_drew ?_ | refine blk_alloc ?_ _)); (try refine blk_put (cs := #[.int .i64 a0_0, .int .i64 0, .int .i64 0, .int .i64 0, .int .i64 0, .int .i64 0, .int .i64 0, .int .i64 0, .int .i64 0, .int .i64 0, .int .i64 0, .int .i64 a0_11, .int .i64 a0_12, .int .i64 a0_13, .int .i64 a0_14, .int .i64 a0_15, .int .i64 a0_16]) ?_ 11 _ rfl); (with_reducible repeat (first | refine blk_drewN ?_ _ | refine blk_drew ?_ | refine blk_alloc ?_ _)); (try refine blk_put (cs := #[.int .i64 a0_0, .int .i64 0, .int .i64 0, .int .i64 0, .int .i64 0, .int .i64 0, .int .i64 0, .int .i64 0, .int .i64 0, .int .i64 0, .int .i64 a0_10, .int .i64 a0_11, .int .i64 a0_12, .int .i64 a0_13, .int .i64 a0_14, .int .i64 a0_15, .int .i64 a0_16]) ?_ 10 _ rfl); (with_reducible repeat (first | refine blk_drewN ?_ _ | refine blk_drew ?_ | refine blk_alloc ?_ _)); (try refine blk_put (cs := #[.int .i64 a0_0, .int .i64 0, .int .i64 0, .int .i64 0, .int .i64 0, .int .i64 0, .int .i64 0, .int .i64 0, .int .i64 0, .int .i64 a0_9, .int .i64 a0_10, .int .i64 a0_11, .int .i64 a0_12, .int .i64 a0_13, .int .i64 a0_14, .int .i64 a0_15, .int .i64 a0_16]) ?_ 9 _ rfl); (with_reducible repeat (first | refine blk_drewN ?_ _ | refine blk_drew ?_ | refine blk_alloc ?_ _)); (try refine blk_put (cs := #[.int .i64 a0_0, .int .i64 0, .int .i64 0, .int .i64 0, .int .i64 0, .int .i64 0, .int .i64 0, .int .i64 0, .int .i64 a0_8, .int .i64 a0_9, .int .i64 a0_10, .int .i64 a0_11, .int .i64 a0_12, .int .i64 a0_13, .int .i64 a0_14, .int .i64 a0_15, .int .i64 a0_16]) ?_ 8 _ rfl); (with_reducible repeat (first | refine blk_drewN ?_ _ | refine blk_drew ?_ | refine blk_alloc ?_ _)); (try refine blk_put (cs := #[.int .i64 a0_0, .int .i64 0, .int .i64 0, .int .i64 0, .int .i64 0, .int .i64 0, .int .i64 0, .int .i64 a0_7, .int .i64 a0_8, .int .i64 a0_9, .int .i64 a0_10, .int .i64 a0_11, .int .i64 a0_12, .int .i64 a0_13, .int .i64 a0_14, .int .i64 a0_15, .int .i64 a0_16]) ?_ 7 _ rfl); (with_reducible repeat (first | refine blk_drewN ?_ _ | refine blk_drew ?_ | refine blk_alloc ?_ _)); (try refine blk_put (cs := #[.int .i64 a0_0, .int .i64 0, .int .i64 0, .int .i64 0, .int .i64 0, .int .i64 0, .int .i64 a0_6, .int .i64 a0_7, .int .i64 a0_8, .int .i64 a0_9, .int .i64 a0_10, .int .i64 a0_11, .int .i64 a0_12, .int .i64 a0_13, .int .i64 a0_14, .int .i64 a0_15, .int .i64 a0_16]) ?_ 6 _ rfl); (with_reducible repeat (first | refine blk_drewN ?_ _ | refine blk_drew ?_ | refine blk_alloc ?_ _)); (try refine blk_put (cs := #[.int .i64 a0_0, .int .i64 0, .int .i64 0, .int .i64 0, .int .i64 0, .int .i64 a0_5, .int .i64 a0_6, .int .i64 a0_7, .int .i64 a0_8, .int .i64 a0_9, .int .i64 a0_10, .int .i64 a0_11, .int .i64 a0_12, .int .i64 a0_13, .int .i64 a0_14, .int .i64 a0_15, .int .i64 a0_16]) ?_ 5 _ rfl); (with_reducible repeat (first | refine blk_drewN ?_ _ | refine blk_drew ?_ | refine blk_alloc ?_ _)); (try refine blk_put (cs := #[.int .i64 a0_0, .int .i64 0, .int .i64 0, .int .i64 0, .int .i64 a0_4, .int .i64 a0_5, .int .i64 a0_6, .int .i64 a0_7, .int .i64 a0_8, .int .i64 a0_9, .int .i64 a0_10, .int .i64 a0_11, .int .i64 a0_12, .int .i64 a0_13, .int .i64 a0_14, .int .i64 a0_15, .int .i64 a0_16]) ?_ 4 _ rfl); (with_reducible repeat (first | refine blk_drewN ?_ _ | refine blk_drew ?_ | refine blk_alloc ?_ _)); (try refine blk_put (cs := #[.int .i64 a0_0, .int .i64 0, .int .i64 0, .int .i64 a0_3, .int .i64 a0_4, .int .i64 a0_5, .int .i64 a0_6, .int .i64 a0_7, .int .i64 a0_8, .int .i64 a0_9, .int .i64 a0_10, .int .i64 a0_11, .int .i64 a0_12, .int .i64 a0_13, .int .i64 a0_14, .int .i64 a0_15, .int .i64 a0_16]) ?_ 3 _ rfl); (with_reducible repeat (first | refine blk_drewN ?_ _ | refine blk_drew ?_ | refine blk_alloc ?_ _)); (try refine blk_put (cs := #[.int .i64 a0_0, .int .i64 0, .int .i64 a0_2, .int .i64 a0_3, .int .i64 a0_4, .int .i64 a0_5, .int .i64 a0_6, .int .i64 a0_7, .int .i64 a0_8, .int .i64 a0_9, .int .i64 a0_10, .int .i64 a0_11, .int .i64 a0_12, .int .i64 a0_13, .int .i64 a0_14, .int .i64 a0_15, .int .i64 a0_16]) ?_ 2 _ rfl); (with_reducible repeat (first | refine blk_drewN ?_ _ | refine blk_drew ?_ | refine blk_alloc ?_ _)); (try refine blk_put (cs := #[.int .i64 a0_0, .int .i64 a0_1, .int .i64 a0_2, .int .i64 a0_3, .int .i64 a0_4, .int .i64 a0_5, .int .i64 a0_6, .int .i64 a0_7, .int .i64 a0_8, .int .i64 a0_9, .int .i64 a0_10, .int .i64 a0_11, .int .i64 a0_12, .int .i64 a0_13, .int .i64 a0_14, .int .i64 a0_15, .int .i64 a0_16]) ?_ 1 _ rfl); (with_reducible repeat (first | refine blk_drewN ?_ _ | refine blk_drew ?_ | refine blk_alloc ?_ _)); exact BK406.out) hb); have n2_ := Gv.a0 (below_step Gv.bw hb); clear BK405; clear BK406; clear HB; have BK405 := n0_; have BK406 := n1_; have HB := n2_; clear n0_ n1_ n2_; (try clear hb); (try clear hb2); (try clear hk); (try clear hi); obtain ⟨hcz72_0, hcz72_1, hcz72_2, hcz72_3, hcz72_4, hcz72_5, hcz72_6, hcz72_7, hcz72_8, hcz72_9, hcz72_10, hcz72_11, hcz72_12, hcz72_13, hcz72_14, hcz72_15, hcz72_16⟩ := Gv.c17 BK406.out; obtain ⟨hfz72_0, hfz72_1, hfz72_2, hfz72_3, hfz72_4, hfz72_5, hfz72_6, hfz72_7, hfz72_8, hfz72_9, hfz72_10, hfz72_11, hfz72_12, hfz72_13, hfz72_14, hfz72_15, hfz72_16⟩ := Gv.f17 BK406.out; obtain ⟨hcz73_0, hcz73_1, hcz73_2, hcz73_3, hcz73_4, hcz73_5, hcz73_6, hcz73_7, hcz73_8, hcz73_9, hcz73_10, hcz73_11, hcz73_12, hcz73_13, hcz73_14, hcz73_15, hcz73_16⟩ := Gv.c17 BK405.out; obtain ⟨hfz73_0, hfz73_1, hfz73_2, hfz73_3, hfz73_4, hfz73_5, hfz73_6, hfz73_7, hfz73_8, hfz73_9, hfz73_10, hfz73_11, hfz73_12, hfz73_13, hfz73_14, hfz73_15, hfz73_16⟩ := Gv.f17 BK405.out) | ((with_reducible refine Gv.gate_load (t := 38) rfl ?_); (try (refine gate_guard (by rfl) ?_; dsimp only)); refine wpList_load_row rfl 38 _ rfl gb405 rfl 38 _ _ _ (by first | exact Gv.kb0 BK405.out | exact Gv.kb1 (Gv.kb0 BK405.out)) Try.underlying38 rfl (by kernel_rfl) ?_) | ((with_reducible refine Gv.gate_load (t := 38) rfl ?_); (try (refine gate_guard (by rfl) ?_; dsimp only)); refine wpList_load_row rfl 38 _ rfl gb406 rfl 38 _ _ _ (by first | exact Gv.kb0 BK406.out | exact Gv.kb1 (Gv.kb0 BK406.out)) Try.underlying38 rfl (by kernel_rfl) ?_) | ((with_reducible refine gate_store (t := 3) rfl ?_); refine Gv.put_event (g := gb405) rfl rfl rfl rfl rfl (Gv.kb0 BK405.out) (by kernel_rfl) (by simp) ?_; intro wp_ hbox hoth hbel; simp only [List.setIfInBounds_toArray, List.set_cons_succ, List.set_cons_zero] at hbox; have n0_ := Gv.a0 hbox; have n1_ := Gv.a0 (hbel w Gv.bw GE405.out); have n2_ := Gv.a0 ((hoth gb406 NB406_405.out).trans (Gv.kb0 BK406.out)); clear BK405 HB BK406; have BK405 := n0_; have HB := n1_; have BK406 := n2_; clear n0_ n1_ n2_ hbox hoth hbel; obtain ⟨pc405_0, pc405_1, pc405_2, pc405_3, pc405_4, pc405_5, pc405_6, pc405_7, pc405_8, pc405_9, pc405_10, pc405_11, pc405_12, pc405_13, pc405_14, pc405_15, pc405_16⟩ := Gv.c17 BK405.out; obtain ⟨pf405_0, pf405_1, pf405_2, pf405_3, pf405_4, pf405_5, pf405_6, pf405_7, pf405_8, pf405_9, pf405_10, pf405_11, pf405_12, pf405_13, pf405_14, pf405_15, pf405_16⟩ := Gv.f17 BK405.out; obtain ⟨pc406_0, pc406_1, pc406_2, pc406_3, pc406_4, pc406_5, pc406_6, pc406_7, pc406_8, pc406_9, pc406_10, pc406_11, pc406_12, pc406_13, pc406_14, pc406_15, pc406_16⟩ := Gv.c17 BK406.out; obtain ⟨pf406_0, pf406_1, pf406_2, pf406_3, pf406_4, pf406_5, pf406_6, pf406_7, pf406_8, pf406_9, pf406_10, pf406_11, pf406_12, pf406_13, pf406_14, pf406_15, pf406_16⟩ := Gv.f17 BK406.out) | ((with_reducible refine gate_store (t := 3) rfl ?_); refine Gv.put_event (g := gb406) rfl rfl rfl rfl rfl (Gv.kb0 BK406.out) (by kernel_rfl) (by simp) ?_; intro wp_ hbox hoth hbel; simp only [List.setIfInBounds_toArray, List.set_cons_succ, List.set_cons_zero] at hbox; have n0_ := Gv.a0 hbox; have n1_ := Gv.a0 (hbel w Gv.bw GE406.out); have n2_ := Gv.a0 ((hoth gb405 NB405_406.out).trans (Gv.kb0 BK405.out)); clear BK406 HB BK405; have BK406 := n0_; have HB := n1_; have BK405 := n2_; clear n0_ n1_ n2_ hbox hoth hbel; obtain ⟨pc406_0, pc406_1, pc406_2, pc406_3, pc406_4, pc406_5, pc406_6, pc406_7, pc406_8, pc406_9, pc406_10, pc406_11, pc406_12, pc406_13, pc406_14, pc406_15, pc406_16⟩ := Gv.c17 BK406.out; obtain ⟨pf406_0, pf406_1, pf406_2, pf406_3, pf406_4, pf406_5, pf406_6, pf406_7, pf406_8, pf406_9, pf406_10, pf406_11, pf406_12, pf406_13, pf406_14, pf406_15, pf406_16⟩ := Gv.f17 BK406.out; obtain ⟨pc405_0, pc405_1, pc405_2, pc405_3, pc405_4, pc405_5, pc405_6, pc405_7, pc405_8, pc405_9, pc405_10, pc405_11, pc405_12, pc405_13, pc405_14, pc405_15, pc405_16⟩ := Gv.c17 BK405.out; obtain ⟨pf405_0, pf405_1, pf405_2, pf405_3, pf405_4, pf405_5, pf405_6, pf405_7, pf405_8, pf405_9, pf405_10, pf405_11, pf405_12, pf405_13, pf405_14, pf405_15, pf405_16⟩ := Gv.f17 BK405.out))
      go_ret
      exact ⟨Gv.rt, Gv.bw⟩
     ·replace c67 := Bool.eq_false_iff.mpr c67
      subst c67
      have H1 : (some false) = some r := by rw [if_neg (show ¬ (false = true) by decide)] at H; exact H
      clear H
      have H := H1
      clear H1
      obtain rfl := Option.some.inj H
      have hnb74 := NB406_405.out
      have hnc74 := NB405_406.out
      obtain ⟨hcz75_0, hcz75_1, hcz75_2, hcz75_3, hcz75_4, hcz75_5, hcz75_6, hcz75_7, hcz75_8, hcz75_9, hcz75_10, hcz75_11, hcz75_12, hcz75_13, hcz75_14, hcz75_15, hcz75_16⟩ := Gv.c17 BK406.out
      obtain ⟨hfz75_0, hfz75_1, hfz75_2, hfz75_3, hfz75_4, hfz75_5, hfz75_6, hfz75_7, hfz75_8, hfz75_9, hfz75_10, hfz75_11, hfz75_12, hfz75_13, hfz75_14, hfz75_15, hfz75_16⟩ := Gv.f17 BK406.out
      obtain ⟨hcz76_0, hcz76_1, hcz76_2, hcz76_3, hcz76_4, hcz76_5, hcz76_6, hcz76_7, hcz76_8, hcz76_9, hcz76_10, hcz76_11, hcz76_12, hcz76_13, hcz76_14, hcz76_15, hcz76_16⟩ := Gv.c17 BK405.out
      obtain ⟨hfz76_0, hfz76_1, hfz76_2, hfz76_3, hfz76_4, hfz76_5, hfz76_6, hfz76_7, hfz76_8, hfz76_9, hfz76_10, hfz76_11, hfz76_12, hfz76_13, hfz76_14, hfz76_15, hfz76_16⟩ := Gv.f17 BK405.out
      go_wp2_with (first | ((with_reducible refine gate_callee (f := 36) rfl ?_); refine goesL_ (some 45) rfl rfl Try.func36 (by kernel_rfl) rfl #[.agg #[.int .i64 a0_1, .int .i64 a0_2, .int .i64 a0_3, .int .i64 a0_4, .int .i64 a0_5, .int .i64 a0_6], .agg #[.int .i64 a0_7, .int .i64 a0_8, .int .i64 a0_9, .int .i64 a0_10, .int .i64 a0_11, .int .i64 a0_12]] rfl Gv.lm ?_; (with_reducible refine (impl_arePairOf.calls kj56 a0_1 a0_2 a0_3 a0_4 a0_5 a0_6 a0_7 a0_8 a0_9 a0_10 a0_11 a0_12 false _ A66.out).mono ?_); rintro e w77 ⟨rfl, hb⟩; refine ⟨_, rfl, ?_⟩; have n0_ := Gv.a0 (blk_below (g := gb405) (o := .cells #[.int .i64 a0_0, .int .i64 a0_1, .int .i64 a0_2, .int .i64 a0_3, .int .i64 a0_4, .int .i64 a0_5, .int .i64 a0_6, .int .i64 a0_7, .int .i64 a0_8, .int .i64 a0_9, .int .i64 a0_10, .int .i64 a0_11, .int .i64 a0_12, .int .i64 a0_13, .int .i64 a0_14, .int .i64 a0_15, .int .i64 a0_16] 38 (0, 0)) Gv.bkf hb); have n1_ := Gv.a0 (blk_below (g := gb406) (o := .cells #[.int .i64 a0_0, .int .i64 0, .int .i64 0, .int .i64 0, .int .i64 0, .int .i64 0, .int .i64 0, .int .i64 0, .int .i64 0, .int .i64 0, .int .i64 0, .int .i64 0, .int .i64 0, .int .i64 a0_13, .int .i64 a0_14, .int .i64 a0_15, .int .i64 a0_16] 38 (0, 0)) (by (with_reducible repeat (first | refine blk_drewN ?_ _ | refine blk_drew ?_ | refine blk_alloc ?_ _)); (try refine blk_put (cs := #[.int .i64 a0_0, .int .i64 0, .int .i64 0, .int .i64 0, .int .i64 0, .int .i64 0, .int .i64 0, .int .i64 0, .int .i64 0, .int .i64 0, .int .i64 0, .int .i64 0, .int .i64 a0_12, .int .i64 a0_13, .int .i64 a0_14, .int .i64 a0_15, .int .i64 a0_16]) ?_ 12 _ rfl); (with_reducible repeat (first | refine blk_drewN ?_ _ | refine blk_drew ?_ | refine blk_alloc ?_ _)); (try refine blk_put (cs := #[.int .i64 a0_0, .int .i64 0, .int .i64 0, .int .i64 0, .int .i64 0, .int .i64 0, .int .i64 0, .int .i64 0, .int .i64 0, .int .i64 0, .int .i64 0, .int .i64 a0_11, .int .i64 a0_12, .int .i64 a0_13, .int .i64 a0_14, .int .i64 a0_15, .int .i64 a0_16]) ?_ 11 _ rfl); (with_reducible repeat (first | refine blk_drewN ?_ _ | refine blk_drew ?_ | refine blk_alloc ?_ _)); (try refine blk_put (cs := #[.int .i64 a0_0, .int .i64 0, .int .i64 0, .int .i64 0, .int .i64 0, .int .i64 0, .int .i64 0, .int .i64 0, .int .i64 0, .int .i64 0, .int .i64 a0_10, .int .i64 a0_11, .int .i64 a0_12, .int .i64 a0_13, .int .i64 a0_14, .int .i64 a0_15, .int .i64 a0_16]) ?_ 10 _ rfl); (with_reducible repeat (first | refine blk_drewN ?_ _ | refine blk_drew ?_ | refine blk_alloc ?_ _)); (try refine blk_put (cs := #[.int .i64 a0_0, .int .i64 0, .int .i64 0, .int .i64 0, .int .i64 0, .int .i64 0, .int .i64 0, .int .i64 0, .int .i64 0, .int .i64 a0_9, .int .i64 a0_10, .int .i64 a0_11, .int .i64 a0_12, .int .i64 a0_13, .int .i64 a0_14, .int .i64 a0_15, .int .i64 a0_16]) ?_ 9 _ rfl); (with_reducible repeat (first | refine blk_drewN ?_ _ | refine blk_drew ?_ | refine blk_alloc ?_ _)); (try refine blk_put (cs := #[.int .i64 a0_0, .int .i64 0, .int .i64 0, .int .i64 0, .int .i64 0, .int .i64 0, .int .i64 0, .int .i64 0, .int .i64 a0_8, .int .i64 a0_9, .int .i64 a0_10, .int .i64 a0_11, .int .i64 a0_12, .int .i64 a0_13, .int .i64 a0_14, .int .i64 a0_15, .int .i64 a0_16]) ?_ 8 _ rfl); (with_reducible repeat (first | refine blk_drewN ?_ _ | refine blk_drew ?_ | refine blk_alloc ?_ _)); (try refine blk_put (cs := #[.int .i64 a0_0, .int .i64 0, .int .i64 0, .int .i64 0, .int .i64 0, .int .i64 0, .int .i64 0, .int .i64 a0_7, .int .i64 a0_8, .int .i64 a0_9, .int .i64 a0_10, .int .i64 a0_11, .int .i64 a0_12, .int .i64 a0_13, .int .i64 a0_14, .int .i64 a0_15, .int .i64 a0_16]) ?_ 7 _ rfl); (with_reducible repeat (first | refine blk_drewN ?_ _ | refine blk_drew ?_ | refine blk_alloc ?_ _)); (try refine blk_put (cs := #[.int .i64 a0_0, .int .i64 0, .int .i64 0, .int .i64 0, .int .i64 0, .int .i64 0, .int .i64 a0_6, .int .i64 a0_7, .int .i64 a0_8, .int .i64 a0_9, .int .i64 a0_10, .int .i64 a0_11, .int .i64 a0_12, .int .i64 a0_13, .int .i64 a0_14, .int .i64 a0_15, .int .i64 a0_16]) ?_ 6 _ rfl); (with_reducible repeat (first | refine blk_drewN ?_ _ | refine blk_drew ?_ | refine blk_alloc ?_ _)); (try refine blk_put (cs := #[.int .i64 a0_0, .int .i64 0, .int .i64 0, .int .i64 0, .int .i64 0, .int .i64 a0_5, .int .i64 a0_6, .int .i64 a0_7, .int .i64 a0_8, .int .i64 a0_9, .int .i64 a0_10, .int .i64 a0_11, .int .i64 a0_12, .int .i64 a0_13, .int .i64 a0_14, .int .i64 a0_15, .int .i64 a0_16]) ?_ 5 _ rfl); (with_reducible repeat (first | refine blk_drewN ?_ _ | refine blk_drew ?_ | refine blk_alloc ?_ _)); (try refine blk_put (cs := #[.int .i64 a0_0, .int .i64 0, .int .i64 0, .int .i64 0, .int .i64 a0_4, .int .i64 a0_5, .int .i64 a0_6, .int .i64 a0_7, .int .i64 a0_8, .int .i64 a0_9, .int .i64 a0_10, .int .i64 a0_11, .int .i64 a0_12, .int .i64 a0_13, .int .i64 a0_14, .int .i64 a0_15, .int .i64 a0_16]) ?_ 4 _ rfl); (with_reducible repeat (first | refine blk_drewN ?_ _ | refine blk_drew ?_ | refine blk_alloc ?_ _)); (try refine blk_put (cs := #[.int .i64 a0_0, .int .i64 0, .int .i64 0, .int .i64 a0_3, .int .i64 a0_4, .int .i64 a0_5, .int .i64 a0_6, .int .i64 a0_7, .int .i64 a0_8, .int .i64 a0_9, .int .i64 a0_10, .int .i64 a0_11, .int .i64 a0_12, .int .i64 a0_13, .int .i64 a0_14, .int .i64 a0_15, .int .i64 a0_16]) ?_ 3 _ rfl); (with_reducible repeat (first | refine blk_drewN ?_ _ | refine blk_drew ?_ | refine blk_alloc ?_ _)); (try refine blk_put (cs := #[.int .i64 a0_0, .int .i64 0, .int .i64 a0_2, .int .i64 a0_3, .int .i64 a0_4, .int .i64 a0_5, .int .i64 a0_6, .int .i64 a0_7, .int .i64 a0_8, .int .i64 a0_9, .int .i64 a0_10, .int .i64 a0_11, .int .i64 a0_12, .int .i64 a0_13, .int .i64 a0_14, .int .i64 a0_15, .int .i64 a0_16]) ?_ 2 _ rfl); (with_reducible repeat (first | refine blk_drewN ?_ _ | refine blk_drew ?_ | refine blk_alloc ?_ _)); (try refine blk_put (cs := #[.int .i64 a0_0, .int .i64 a0_1, .int .i64 a0_2, .int .i64 a0_3, .int .i64 a0_4, .int .i64 a0_5, .int .i64 a0_6, .int .i64 a0_7, .int .i64 a0_8, .int .i64 a0_9, .int .i64 a0_10, .int .i64 a0_11, .int .i64 a0_12, .int .i64 a0_13, .int .i64 a0_14, .int .i64 a0_15, .int .i64 a0_16]) ?_ 1 _ rfl); (with_reducible repeat (first | refine blk_drewN ?_ _ | refine blk_drew ?_ | refine blk_alloc ?_ _)); exact BK406.out) hb); have n2_ := Gv.a0 (below_step Gv.bw hb); clear BK405; clear BK406; clear HB; have BK405 := n0_; have BK406 := n1_; have HB := n2_; clear n0_ n1_ n2_; (try clear hb); (try clear hb2); (try clear hk); (try clear hi)) | ((with_reducible refine Gv.gate_load (t := 38) rfl ?_); (try (refine gate_guard (by rfl) ?_; dsimp only)); refine wpList_load_row rfl 38 _ rfl gb405 rfl 38 _ _ _ (by first | exact Gv.kb0 BK405.out | exact Gv.kb1 (Gv.kb0 BK405.out)) Try.underlying38 rfl (by kernel_rfl) ?_) | ((with_reducible refine Gv.gate_load (t := 38) rfl ?_); (try (refine gate_guard (by rfl) ?_; dsimp only)); refine wpList_load_row rfl 38 _ rfl gb406 rfl 38 _ _ _ (by first | exact Gv.kb0 BK406.out | exact Gv.kb1 (Gv.kb0 BK406.out)) Try.underlying38 rfl (by kernel_rfl) ?_) | ((with_reducible refine gate_store (t := 3) rfl ?_); refine Gv.put_event (g := gb405) rfl rfl rfl rfl rfl (Gv.kb0 BK405.out) (by kernel_rfl) (by simp) ?_; intro wp_ hbox hoth hbel; simp only [List.setIfInBounds_toArray, List.set_cons_succ, List.set_cons_zero] at hbox; have n0_ := Gv.a0 hbox; have n1_ := Gv.a0 (hbel w Gv.bw GE405.out); have n2_ := Gv.a0 ((hoth gb406 NB406_405.out).trans (Gv.kb0 BK406.out)); clear BK405 HB BK406; have BK405 := n0_; have HB := n1_; have BK406 := n2_; clear n0_ n1_ n2_ hbox hoth hbel; obtain ⟨pc405_0, pc405_1, pc405_2, pc405_3, pc405_4, pc405_5, pc405_6, pc405_7, pc405_8, pc405_9, pc405_10, pc405_11, pc405_12, pc405_13, pc405_14, pc405_15, pc405_16⟩ := Gv.c17 BK405.out; obtain ⟨pf405_0, pf405_1, pf405_2, pf405_3, pf405_4, pf405_5, pf405_6, pf405_7, pf405_8, pf405_9, pf405_10, pf405_11, pf405_12, pf405_13, pf405_14, pf405_15, pf405_16⟩ := Gv.f17 BK405.out; obtain ⟨pc406_0, pc406_1, pc406_2, pc406_3, pc406_4, pc406_5, pc406_6, pc406_7, pc406_8, pc406_9, pc406_10, pc406_11, pc406_12, pc406_13, pc406_14, pc406_15, pc406_16⟩ := Gv.c17 BK406.out; obtain ⟨pf406_0, pf406_1, pf406_2, pf406_3, pf406_4, pf406_5, pf406_6, pf406_7, pf406_8, pf406_9, pf406_10, pf406_11, pf406_12, pf406_13, pf406_14, pf406_15, pf406_16⟩ := Gv.f17 BK406.out) | ((with_reducible refine gate_store (t := 3) rfl ?_); refine Gv.put_event (g := gb406) rfl rfl rfl rfl rfl (Gv.kb0 BK406.out) (by kernel_rfl) (by simp) ?_; intro wp_ hbox hoth hbel; simp only [List.setIfInBounds_toArray, List.set_cons_succ, List.set_cons_zero] at hbox; have n0_ := Gv.a0 hbox; have n1_ := Gv.a0 (hbel w Gv.bw GE406.out); have n2_ := Gv.a0 ((hoth gb405 NB405_406.out).trans (Gv.kb0 BK405.out)); clear BK406 HB BK405; have BK406 := n0_; have HB := n1_; have BK405 := n2_; clear n0_ n1_ n2_ hbox hoth hbel; obtain ⟨pc406_0, pc406_1, pc406_2, pc406_3, pc406_4, pc406_5, pc406_6, pc406_7, pc406_8, pc406_9, pc406_10, pc406_11, pc406_12, pc406_13, pc406_14, pc406_15, pc406_16⟩ := Gv.c17 BK406.out; obtain ⟨pf406_0, pf406_1, pf406_2, pf406_3, pf406_4, pf406_5, pf406_6, pf406_7, pf406_8, pf406_9, pf406_10, pf406_11, pf406_12, pf406_13, pf406_14, pf406_15, pf406_16⟩ := Gv.f17 BK406.out; obtain ⟨pc405_0, pc405_1, pc405_2, pc405_3, pc405_4, pc405_5, pc405_6, pc405_7, pc405_8, pc405_9, pc405_10, pc405_11, pc405_12, pc405_13, pc405_14, pc405_15, pc405_16⟩ := Gv.c17 BK405.out; obtain ⟨pf405_0, pf405_1, pf405_2, pf405_3, pf405_4, pf405_5, pf405_6, pf405_7, pf405_8, pf405_9, pf405_10, pf405_11, pf405_12, pf405_13, pf405_14, pf405_15, pf405_16⟩ := Gv.f17 BK405.out))
      go_ret
      exact ⟨Gv.rt, Gv.bw⟩
    ·replace c65 := Bool.eq_false_iff.mpr c65
     subst c65
     have H1 : (if a0_0 = 5 then ((impl_within.f a0_16 0 63).bind fun t412 => (if t412 = true then (some (a0_0 == a0_0 && (((a0_1 == 0 && (a0_2 == 0 && (a0_3 == 0 && (a0_4 == 0 && (a0_5 == 0))))) && (a0_6 == 0)) && (((a0_7 == 0 && (a0_8 == 0 && (a0_9 == 0 && (a0_10 == 0 && (a0_11 == 0))))) && (a0_12 == 0)) && (a0_13 == 0 && (a0_14 == 0 && (a0_15 == 0))))))) else (some false))) else (if a0_0 = 7 then ((impl_within.f a0_16 1 4).bind fun t413 => (if t413 = true then (some (a0_0 == a0_0 && (((a0_1 == 0 && (a0_2 == 0 && (a0_3 == 0 && (a0_4 == 0 && (a0_5 == 0))))) && (a0_6 == 0)) && (((a0_7 == 0 && (a0_8 == 0 && (a0_9 == 0 && (a0_10 == 0 && (a0_11 == 0))))) && (a0_12 == 0)) && (a0_13 == 0 && (a0_14 == 0 && (a0_15 == 0))))))) else (some false))) else (if a0_0 = 4 then (some (a0_0 == a0_0 && (((a0_1 == 0 && (a0_2 == 0 && (a0_3 == 0 && (a0_4 == 0 && (a0_5 == 0))))) && (a0_6 == 0)) && (((a0_7 == 0 && (a0_8 == 0 && (a0_9 == 0 && (a0_10 == 0 && (a0_11 == 0))))) && (a0_12 == 0)) && (a0_13 == 0 && (a0_14 == 0 && (a0_15 == 0 && (a0_16 == 0)))))))) else (if a0_0 = 6 then (some (a0_0 == a0_0 && (((a0_1 == 0 && (a0_2 == 0 && (a0_3 == 0 && (a0_4 == 0 && (a0_5 == 0))))) && (a0_6 == 0)) && (((a0_7 == 0 && (a0_8 == 0 && (a0_9 == 0 && (a0_10 == 0 && (a0_11 == 0))))) && (a0_12 == 0)) && (a0_13 == 0 && (a0_14 == 0 && (a0_15 == 0 && (a0_16 == 0)))))))) else (some false))))) = some r := by rw [if_neg (show ¬ (false = true) by decide)] at H; exact H
     clear H
     have H := H1
     clear H1
     by_cases c78 : a0_0 = 5
     ·rw [if_pos c78] at H
      have c78b0 : (a0_0 == 5) = true := beq_iff_eq.mpr c78
      have c78b1 : (a0_0 != 5) = false := bne_eq_false_iff_eq.mpr c78
      clear c78
      replace H := Option.bind_eq_some_iff.mp H
      obtain ⟨t412, A790, H⟩ := H
      replace H : (if t412 = true then (some (a0_0 == a0_0 && (((a0_1 == 0 && (a0_2 == 0 && (a0_3 == 0 && (a0_4 == 0 && (a0_5 == 0))))) && (a0_6 == 0)) && (((a0_7 == 0 && (a0_8 == 0 && (a0_9 == 0 && (a0_10 == 0 && (a0_11 == 0))))) && (a0_12 == 0)) && (a0_13 == 0 && (a0_14 == 0 && (a0_15 == 0))))))) else (some false)) = some r := H
      have A79 := Gv.a0 A790
      clear A790
      by_cases c80 : t412 = true
      ·subst c80
       have H1 : (some (a0_0 == a0_0 && (((a0_1 == 0 && (a0_2 == 0 && (a0_3 == 0 && (a0_4 == 0 && (a0_5 == 0))))) && (a0_6 == 0)) && (((a0_7 == 0 && (a0_8 == 0 && (a0_9 == 0 && (a0_10 == 0 && (a0_11 == 0))))) && (a0_12 == 0)) && (a0_13 == 0 && (a0_14 == 0 && (a0_15 == 0))))))) = some r := by rw [if_pos rfl] at H; exact H
       clear H
       have H := H1
       clear H1
       obtain rfl := Option.some.inj H
       have hnb81 := NB406_405.out
       have hnc81 := NB405_406.out
       obtain ⟨hcz82_0, hcz82_1, hcz82_2, hcz82_3, hcz82_4, hcz82_5, hcz82_6, hcz82_7, hcz82_8, hcz82_9, hcz82_10, hcz82_11, hcz82_12, hcz82_13, hcz82_14, hcz82_15, hcz82_16⟩ := Gv.c17 BK406.out
       obtain ⟨hfz82_0, hfz82_1, hfz82_2, hfz82_3, hfz82_4, hfz82_5, hfz82_6, hfz82_7, hfz82_8, hfz82_9, hfz82_10, hfz82_11, hfz82_12, hfz82_13, hfz82_14, hfz82_15, hfz82_16⟩ := Gv.f17 BK406.out
       obtain ⟨hcz83_0, hcz83_1, hcz83_2, hcz83_3, hcz83_4, hcz83_5, hcz83_6, hcz83_7, hcz83_8, hcz83_9, hcz83_10, hcz83_11, hcz83_12, hcz83_13, hcz83_14, hcz83_15, hcz83_16⟩ := Gv.c17 BK405.out
       obtain ⟨hfz83_0, hfz83_1, hfz83_2, hfz83_3, hfz83_4, hfz83_5, hfz83_6, hfz83_7, hfz83_8, hfz83_9, hfz83_10, hfz83_11, hfz83_12, hfz83_13, hfz83_14, hfz83_15, hfz83_16⟩ := Gv.f17 BK405.out
       go_wp2_with (first | ((with_reducible refine gate_callee (f := 44) rfl ?_); refine goesL_ (some 58) rfl rfl Try.func44 (by kernel_rfl) rfl #[.int .i64 a0_16, .int .i64 0, .int .i64 63] rfl Gv.lm ?_; (with_reducible refine (impl_within.calls a0_16 0 63 true _ A79.out).mono ?_); rintro e w' ⟨rfl, ⟨nd, rfl⟩⟩; refine ⟨_, rfl, ?_⟩) | ((with_reducible refine Gv.gate_load (t := 38) rfl ?_); (try (refine gate_guard (by rfl) ?_; dsimp only)); refine wpList_load_row rfl 38 _ rfl gb405 rfl 38 _ _ _ (by first | exact Gv.kb0 BK405.out | exact Gv.kb1 (Gv.kb0 BK405.out)) Try.underlying38 rfl (by kernel_rfl) ?_) | ((with_reducible refine Gv.gate_load (t := 38) rfl ?_); (try (refine gate_guard (by rfl) ?_; dsimp only)); refine wpList_load_row rfl 38 _ rfl gb406 rfl 38 _ _ _ (by first | exact Gv.kb0 BK406.out | exact Gv.kb1 (Gv.kb0 BK406.out)) Try.underlying38 rfl (by kernel_rfl) ?_) | ((with_reducible refine gate_store (t := 3) rfl ?_); refine Gv.put_event (g := gb405) rfl rfl rfl rfl rfl (Gv.kb0 BK405.out) (by kernel_rfl) (by simp) ?_; intro wp_ hbox hoth hbel; simp only [List.setIfInBounds_toArray, List.set_cons_succ, List.set_cons_zero] at hbox; have n0_ := Gv.a0 hbox; have n1_ := Gv.a0 (hbel w Gv.bw GE405.out); have n2_ := Gv.a0 ((hoth gb406 NB406_405.out).trans (Gv.kb0 BK406.out)); clear BK405 HB BK406; have BK405 := n0_; have HB := n1_; have BK406 := n2_; clear n0_ n1_ n2_ hbox hoth hbel; obtain ⟨pc405_0, pc405_1, pc405_2, pc405_3, pc405_4, pc405_5, pc405_6, pc405_7, pc405_8, pc405_9, pc405_10, pc405_11, pc405_12, pc405_13, pc405_14, pc405_15, pc405_16⟩ := Gv.c17 BK405.out; obtain ⟨pf405_0, pf405_1, pf405_2, pf405_3, pf405_4, pf405_5, pf405_6, pf405_7, pf405_8, pf405_9, pf405_10, pf405_11, pf405_12, pf405_13, pf405_14, pf405_15, pf405_16⟩ := Gv.f17 BK405.out; obtain ⟨pc406_0, pc406_1, pc406_2, pc406_3, pc406_4, pc406_5, pc406_6, pc406_7, pc406_8, pc406_9, pc406_10, pc406_11, pc406_12, pc406_13, pc406_14, pc406_15, pc406_16⟩ := Gv.c17 BK406.out; obtain ⟨pf406_0, pf406_1, pf406_2, pf406_3, pf406_4, pf406_5, pf406_6, pf406_7, pf406_8, pf406_9, pf406_10, pf406_11, pf406_12, pf406_13, pf406_14, pf406_15, pf406_16⟩ := Gv.f17 BK406.out) | ((with_reducible refine gate_store (t := 3) rfl ?_); refine Gv.put_event (g := gb406) rfl rfl rfl rfl rfl (Gv.kb0 BK406.out) (by kernel_rfl) (by simp) ?_; intro wp_ hbox hoth hbel; simp only [List.setIfInBounds_toArray, List.set_cons_succ, List.set_cons_zero] at hbox; have n0_ := Gv.a0 hbox; have n1_ := Gv.a0 (hbel w Gv.bw GE406.out); have n2_ := Gv.a0 ((hoth gb405 NB405_406.out).trans (Gv.kb0 BK405.out)); clear BK406 HB BK405; have BK406 := n0_; have HB := n1_; have BK405 := n2_; clear n0_ n1_ n2_ hbox hoth hbel; obtain ⟨pc406_0, pc406_1, pc406_2, pc406_3, pc406_4, pc406_5, pc406_6, pc406_7, pc406_8, pc406_9, pc406_10, pc406_11, pc406_12, pc406_13, pc406_14, pc406_15, pc406_16⟩ := Gv.c17 BK406.out; obtain ⟨pf406_0, pf406_1, pf406_2, pf406_3, pf406_4, pf406_5, pf406_6, pf406_7, pf406_8, pf406_9, pf406_10, pf406_11, pf406_12, pf406_13, pf406_14, pf406_15, pf406_16⟩ := Gv.f17 BK406.out; obtain ⟨pc405_0, pc405_1, pc405_2, pc405_3, pc405_4, pc405_5, pc405_6, pc405_7, pc405_8, pc405_9, pc405_10, pc405_11, pc405_12, pc405_13, pc405_14, pc405_15, pc405_16⟩ := Gv.c17 BK405.out; obtain ⟨pf405_0, pf405_1, pf405_2, pf405_3, pf405_4, pf405_5, pf405_6, pf405_7, pf405_8, pf405_9, pf405_10, pf405_11, pf405_12, pf405_13, pf405_14, pf405_15, pf405_16⟩ := Gv.f17 BK405.out))
       go_ret
       exact ⟨Gv.rt, Gv.bw⟩
      ·replace c80 := Bool.eq_false_iff.mpr c80
       subst c80
       have H1 : (some false) = some r := by rw [if_neg (show ¬ (false = true) by decide)] at H; exact H
       clear H
       have H := H1
       clear H1
       obtain rfl := Option.some.inj H
       have hnb84 := NB406_405.out
       have hnc84 := NB405_406.out
       obtain ⟨hcz85_0, hcz85_1, hcz85_2, hcz85_3, hcz85_4, hcz85_5, hcz85_6, hcz85_7, hcz85_8, hcz85_9, hcz85_10, hcz85_11, hcz85_12, hcz85_13, hcz85_14, hcz85_15, hcz85_16⟩ := Gv.c17 BK406.out
       obtain ⟨hfz85_0, hfz85_1, hfz85_2, hfz85_3, hfz85_4, hfz85_5, hfz85_6, hfz85_7, hfz85_8, hfz85_9, hfz85_10, hfz85_11, hfz85_12, hfz85_13, hfz85_14, hfz85_15, hfz85_16⟩ := Gv.f17 BK406.out
       obtain ⟨hcz86_0, hcz86_1, hcz86_2, hcz86_3, hcz86_4, hcz86_5, hcz86_6, hcz86_7, hcz86_8, hcz86_9, hcz86_10, hcz86_11, hcz86_12, hcz86_13, hcz86_14, hcz86_15, hcz86_16⟩ := Gv.c17 BK405.out
       obtain ⟨hfz86_0, hfz86_1, hfz86_2, hfz86_3, hfz86_4, hfz86_5, hfz86_6, hfz86_7, hfz86_8, hfz86_9, hfz86_10, hfz86_11, hfz86_12, hfz86_13, hfz86_14, hfz86_15, hfz86_16⟩ := Gv.f17 BK405.out
       go_wp2_with (first | ((with_reducible refine gate_callee (f := 44) rfl ?_); refine goesL_ (some 58) rfl rfl Try.func44 (by kernel_rfl) rfl #[.int .i64 a0_16, .int .i64 0, .int .i64 63] rfl Gv.lm ?_; (with_reducible refine (impl_within.calls a0_16 0 63 false _ A79.out).mono ?_); rintro e w' ⟨rfl, ⟨nd, rfl⟩⟩; refine ⟨_, rfl, ?_⟩) | ((with_reducible refine Gv.gate_load (t := 38) rfl ?_); (try (refine gate_guard (by rfl) ?_; dsimp only)); refine wpList_load_row rfl 38 _ rfl gb405 rfl 38 _ _ _ (by first | exact Gv.kb0 BK405.out | exact Gv.kb1 (Gv.kb0 BK405.out)) Try.underlying38 rfl (by kernel_rfl) ?_) | ((with_reducible refine Gv.gate_load (t := 38) rfl ?_); (try (refine gate_guard (by rfl) ?_; dsimp only)); refine wpList_load_row rfl 38 _ rfl gb406 rfl 38 _ _ _ (by first | exact Gv.kb0 BK406.out | exact Gv.kb1 (Gv.kb0 BK406.out)) Try.underlying38 rfl (by kernel_rfl) ?_) | ((with_reducible refine gate_store (t := 3) rfl ?_); refine Gv.put_event (g := gb405) rfl rfl rfl rfl rfl (Gv.kb0 BK405.out) (by kernel_rfl) (by simp) ?_; intro wp_ hbox hoth hbel; simp only [List.setIfInBounds_toArray, List.set_cons_succ, List.set_cons_zero] at hbox; have n0_ := Gv.a0 hbox; have n1_ := Gv.a0 (hbel w Gv.bw GE405.out); have n2_ := Gv.a0 ((hoth gb406 NB406_405.out).trans (Gv.kb0 BK406.out)); clear BK405 HB BK406; have BK405 := n0_; have HB := n1_; have BK406 := n2_; clear n0_ n1_ n2_ hbox hoth hbel; obtain ⟨pc405_0, pc405_1, pc405_2, pc405_3, pc405_4, pc405_5, pc405_6, pc405_7, pc405_8, pc405_9, pc405_10, pc405_11, pc405_12, pc405_13, pc405_14, pc405_15, pc405_16⟩ := Gv.c17 BK405.out; obtain ⟨pf405_0, pf405_1, pf405_2, pf405_3, pf405_4, pf405_5, pf405_6, pf405_7, pf405_8, pf405_9, pf405_10, pf405_11, pf405_12, pf405_13, pf405_14, pf405_15, pf405_16⟩ := Gv.f17 BK405.out; obtain ⟨pc406_0, pc406_1, pc406_2, pc406_3, pc406_4, pc406_5, pc406_6, pc406_7, pc406_8, pc406_9, pc406_10, pc406_11, pc406_12, pc406_13, pc406_14, pc406_15, pc406_16⟩ := Gv.c17 BK406.out; obtain ⟨pf406_0, pf406_1, pf406_2, pf406_3, pf406_4, pf406_5, pf406_6, pf406_7, pf406_8, pf406_9, pf406_10, pf406_11, pf406_12, pf406_13, pf406_14, pf406_15, pf406_16⟩ := Gv.f17 BK406.out) | ((with_reducible refine gate_store (t := 3) rfl ?_); refine Gv.put_event (g := gb406) rfl rfl rfl rfl rfl (Gv.kb0 BK406.out) (by kernel_rfl) (by simp) ?_; intro wp_ hbox hoth hbel; simp only [List.setIfInBounds_toArray, List.set_cons_succ, List.set_cons_zero] at hbox; have n0_ := Gv.a0 hbox; have n1_ := Gv.a0 (hbel w Gv.bw GE406.out); have n2_ := Gv.a0 ((hoth gb405 NB405_406.out).trans (Gv.kb0 BK405.out)); clear BK406 HB BK405; have BK406 := n0_; have HB := n1_; have BK405 := n2_; clear n0_ n1_ n2_ hbox hoth hbel; obtain ⟨pc406_0, pc406_1, pc406_2, pc406_3, pc406_4, pc406_5, pc406_6, pc406_7, pc406_8, pc406_9, pc406_10, pc406_11, pc406_12, pc406_13, pc406_14, pc406_15, pc406_16⟩ := Gv.c17 BK406.out; obtain ⟨pf406_0, pf406_1, pf406_2, pf406_3, pf406_4, pf406_5, pf406_6, pf406_7, pf406_8, pf406_9, pf406_10, pf406_11, pf406_12, pf406_13, pf406_14, pf406_15, pf406_16⟩ := Gv.f17 BK406.out; obtain ⟨pc405_0, pc405_1, pc405_2, pc405_3, pc405_4, pc405_5, pc405_6, pc405_7, pc405_8, pc405_9, pc405_10, pc405_11, pc405_12, pc405_13, pc405_14, pc405_15, pc405_16⟩ := Gv.c17 BK405.out; obtain ⟨pf405_0, pf405_1, pf405_2, pf405_3, pf405_4, pf405_5, pf405_6, pf405_7, pf405_8, pf405_9, pf405_10, pf405_11, pf405_12, pf405_13, pf405_14, pf405_15, pf405_16⟩ := Gv.f17 BK405.out))
       go_ret
       exact ⟨Gv.rt, Gv.bw⟩
     ·rw [if_neg c78] at H
      have c78b0 : (a0_0 == 5) = false := beq_eq_false_iff_ne.mpr c78
      have c78b1 : (a0_0 != 5) = true := bne_iff_ne.mpr c78
      by_cases c87 : a0_0 = 7
      ·rw [if_pos c87] at H
       have c87b0 : (a0_0 == 7) = true := beq_iff_eq.mpr c87
       have c87b1 : (a0_0 != 7) = false := bne_eq_false_iff_eq.mpr c87
       clear c87
       replace H := Option.bind_eq_some_iff.mp H
       obtain ⟨t413, A880, H⟩ := H
       replace H : (if t413 = true then (some (a0_0 == a0_0 && (((a0_1 == 0 && (a0_2 == 0 && (a0_3 == 0 && (a0_4 == 0 && (a0_5 == 0))))) && (a0_6 == 0)) && (((a0_7 == 0 && (a0_8 == 0 && (a0_9 == 0 && (a0_10 == 0 && (a0_11 == 0))))) && (a0_12 == 0)) && (a0_13 == 0 && (a0_14 == 0 && (a0_15 == 0))))))) else (some false)) = some r := H
       have A88 := Gv.a0 A880
       clear A880
       by_cases c89 : t413 = true
       ·subst c89
        have H1 : (some (a0_0 == a0_0 && (((a0_1 == 0 && (a0_2 == 0 && (a0_3 == 0 && (a0_4 == 0 && (a0_5 == 0))))) && (a0_6 == 0)) && (((a0_7 == 0 && (a0_8 == 0 && (a0_9 == 0 && (a0_10 == 0 && (a0_11 == 0))))) && (a0_12 == 0)) && (a0_13 == 0 && (a0_14 == 0 && (a0_15 == 0))))))) = some r := by rw [if_pos rfl] at H; exact H
        clear H
        have H := H1
        clear H1
        obtain rfl := Option.some.inj H
        have hnb90 := NB406_405.out
        have hnc90 := NB405_406.out
        obtain ⟨hcz91_0, hcz91_1, hcz91_2, hcz91_3, hcz91_4, hcz91_5, hcz91_6, hcz91_7, hcz91_8, hcz91_9, hcz91_10, hcz91_11, hcz91_12, hcz91_13, hcz91_14, hcz91_15, hcz91_16⟩ := Gv.c17 BK406.out
        obtain ⟨hfz91_0, hfz91_1, hfz91_2, hfz91_3, hfz91_4, hfz91_5, hfz91_6, hfz91_7, hfz91_8, hfz91_9, hfz91_10, hfz91_11, hfz91_12, hfz91_13, hfz91_14, hfz91_15, hfz91_16⟩ := Gv.f17 BK406.out
        obtain ⟨hcz92_0, hcz92_1, hcz92_2, hcz92_3, hcz92_4, hcz92_5, hcz92_6, hcz92_7, hcz92_8, hcz92_9, hcz92_10, hcz92_11, hcz92_12, hcz92_13, hcz92_14, hcz92_15, hcz92_16⟩ := Gv.c17 BK405.out
        obtain ⟨hfz92_0, hfz92_1, hfz92_2, hfz92_3, hfz92_4, hfz92_5, hfz92_6, hfz92_7, hfz92_8, hfz92_9, hfz92_10, hfz92_11, hfz92_12, hfz92_13, hfz92_14, hfz92_15, hfz92_16⟩ := Gv.f17 BK405.out
        go_wp2_with (first | ((with_reducible refine gate_callee (f := 44) rfl ?_); refine goesL_ (some 71) rfl rfl Try.func44 (by kernel_rfl) rfl #[.int .i64 a0_16, .int .i64 1, .int .i64 4] rfl Gv.lm ?_; (with_reducible refine (impl_within.calls a0_16 1 4 true _ A88.out).mono ?_); rintro e w' ⟨rfl, ⟨nd, rfl⟩⟩; refine ⟨_, rfl, ?_⟩) | ((with_reducible refine Gv.gate_load (t := 38) rfl ?_); (try (refine gate_guard (by rfl) ?_; dsimp only)); refine wpList_load_row rfl 38 _ rfl gb405 rfl 38 _ _ _ (by first | exact Gv.kb0 BK405.out | exact Gv.kb1 (Gv.kb0 BK405.out)) Try.underlying38 rfl (by kernel_rfl) ?_) | ((with_reducible refine Gv.gate_load (t := 38) rfl ?_); (try (refine gate_guard (by rfl) ?_; dsimp only)); refine wpList_load_row rfl 38 _ rfl gb406 rfl 38 _ _ _ (by first | exact Gv.kb0 BK406.out | exact Gv.kb1 (Gv.kb0 BK406.out)) Try.underlying38 rfl (by kernel_rfl) ?_) | ((with_reducible refine gate_store (t := 3) rfl ?_); refine Gv.put_event (g := gb405) rfl rfl rfl rfl rfl (Gv.kb0 BK405.out) (by kernel_rfl) (by simp) ?_; intro wp_ hbox hoth hbel; simp only [List.setIfInBounds_toArray, List.set_cons_succ, List.set_cons_zero] at hbox; have n0_ := Gv.a0 hbox; have n1_ := Gv.a0 (hbel w Gv.bw GE405.out); have n2_ := Gv.a0 ((hoth gb406 NB406_405.out).trans (Gv.kb0 BK406.out)); clear BK405 HB BK406; have BK405 := n0_; have HB := n1_; have BK406 := n2_; clear n0_ n1_ n2_ hbox hoth hbel; obtain ⟨pc405_0, pc405_1, pc405_2, pc405_3, pc405_4, pc405_5, pc405_6, pc405_7, pc405_8, pc405_9, pc405_10, pc405_11, pc405_12, pc405_13, pc405_14, pc405_15, pc405_16⟩ := Gv.c17 BK405.out; obtain ⟨pf405_0, pf405_1, pf405_2, pf405_3, pf405_4, pf405_5, pf405_6, pf405_7, pf405_8, pf405_9, pf405_10, pf405_11, pf405_12, pf405_13, pf405_14, pf405_15, pf405_16⟩ := Gv.f17 BK405.out; obtain ⟨pc406_0, pc406_1, pc406_2, pc406_3, pc406_4, pc406_5, pc406_6, pc406_7, pc406_8, pc406_9, pc406_10, pc406_11, pc406_12, pc406_13, pc406_14, pc406_15, pc406_16⟩ := Gv.c17 BK406.out; obtain ⟨pf406_0, pf406_1, pf406_2, pf406_3, pf406_4, pf406_5, pf406_6, pf406_7, pf406_8, pf406_9, pf406_10, pf406_11, pf406_12, pf406_13, pf406_14, pf406_15, pf406_16⟩ := Gv.f17 BK406.out) | ((with_reducible refine gate_store (t := 3) rfl ?_); refine Gv.put_event (g := gb406) rfl rfl rfl rfl rfl (Gv.kb0 BK406.out) (by kernel_rfl) (by simp) ?_; intro wp_ hbox hoth hbel; simp only [List.setIfInBounds_toArray, List.set_cons_succ, List.set_cons_zero] at hbox; have n0_ := Gv.a0 hbox; have n1_ := Gv.a0 (hbel w Gv.bw GE406.out); have n2_ := Gv.a0 ((hoth gb405 NB405_406.out).trans (Gv.kb0 BK405.out)); clear BK406 HB BK405; have BK406 := n0_; have HB := n1_; have BK405 := n2_; clear n0_ n1_ n2_ hbox hoth hbel; obtain ⟨pc406_0, pc406_1, pc406_2, pc406_3, pc406_4, pc406_5, pc406_6, pc406_7, pc406_8, pc406_9, pc406_10, pc406_11, pc406_12, pc406_13, pc406_14, pc406_15, pc406_16⟩ := Gv.c17 BK406.out; obtain ⟨pf406_0, pf406_1, pf406_2, pf406_3, pf406_4, pf406_5, pf406_6, pf406_7, pf406_8, pf406_9, pf406_10, pf406_11, pf406_12, pf406_13, pf406_14, pf406_15, pf406_16⟩ := Gv.f17 BK406.out; obtain ⟨pc405_0, pc405_1, pc405_2, pc405_3, pc405_4, pc405_5, pc405_6, pc405_7, pc405_8, pc405_9, pc405_10, pc405_11, pc405_12, pc405_13, pc405_14, pc405_15, pc405_16⟩ := Gv.c17 BK405.out; obtain ⟨pf405_0, pf405_1, pf405_2, pf405_3, pf405_4, pf405_5, pf405_6, pf405_7, pf405_8, pf405_9, pf405_10, pf405_11, pf405_12, pf405_13, pf405_14, pf405_15, pf405_16⟩ := Gv.f17 BK405.out))
        go_ret
        exact ⟨Gv.rt, Gv.bw⟩
       ·replace c89 := Bool.eq_false_iff.mpr c89
        subst c89
        have H1 : (some false) = some r := by rw [if_neg (show ¬ (false = true) by decide)] at H; exact H
        clear H
        have H := H1
        clear H1
        obtain rfl := Option.some.inj H
        have hnb93 := NB406_405.out
        have hnc93 := NB405_406.out
        obtain ⟨hcz94_0, hcz94_1, hcz94_2, hcz94_3, hcz94_4, hcz94_5, hcz94_6, hcz94_7, hcz94_8, hcz94_9, hcz94_10, hcz94_11, hcz94_12, hcz94_13, hcz94_14, hcz94_15, hcz94_16⟩ := Gv.c17 BK406.out
        obtain ⟨hfz94_0, hfz94_1, hfz94_2, hfz94_3, hfz94_4, hfz94_5, hfz94_6, hfz94_7, hfz94_8, hfz94_9, hfz94_10, hfz94_11, hfz94_12, hfz94_13, hfz94_14, hfz94_15, hfz94_16⟩ := Gv.f17 BK406.out
        obtain ⟨hcz95_0, hcz95_1, hcz95_2, hcz95_3, hcz95_4, hcz95_5, hcz95_6, hcz95_7, hcz95_8, hcz95_9, hcz95_10, hcz95_11, hcz95_12, hcz95_13, hcz95_14, hcz95_15, hcz95_16⟩ := Gv.c17 BK405.out
        obtain ⟨hfz95_0, hfz95_1, hfz95_2, hfz95_3, hfz95_4, hfz95_5, hfz95_6, hfz95_7, hfz95_8, hfz95_9, hfz95_10, hfz95_11, hfz95_12, hfz95_13, hfz95_14, hfz95_15, hfz95_16⟩ := Gv.f17 BK405.out
        go_wp2_with (first | ((with_reducible refine gate_callee (f := 44) rfl ?_); refine goesL_ (some 71) rfl rfl Try.func44 (by kernel_rfl) rfl #[.int .i64 a0_16, .int .i64 1, .int .i64 4] rfl Gv.lm ?_; (with_reducible refine (impl_within.calls a0_16 1 4 false _ A88.out).mono ?_); rintro e w' ⟨rfl, ⟨nd, rfl⟩⟩; refine ⟨_, rfl, ?_⟩) | ((with_reducible refine Gv.gate_load (t := 38) rfl ?_); (try (refine gate_guard (by rfl) ?_; dsimp only)); refine wpList_load_row rfl 38 _ rfl gb405 rfl 38 _ _ _ (by first | exact Gv.kb0 BK405.out | exact Gv.kb1 (Gv.kb0 BK405.out)) Try.underlying38 rfl (by kernel_rfl) ?_) | ((with_reducible refine Gv.gate_load (t := 38) rfl ?_); (try (refine gate_guard (by rfl) ?_; dsimp only)); refine wpList_load_row rfl 38 _ rfl gb406 rfl 38 _ _ _ (by first | exact Gv.kb0 BK406.out | exact Gv.kb1 (Gv.kb0 BK406.out)) Try.underlying38 rfl (by kernel_rfl) ?_) | ((with_reducible refine gate_store (t := 3) rfl ?_); refine Gv.put_event (g := gb405) rfl rfl rfl rfl rfl (Gv.kb0 BK405.out) (by kernel_rfl) (by simp) ?_; intro wp_ hbox hoth hbel; simp only [List.setIfInBounds_toArray, List.set_cons_succ, List.set_cons_zero] at hbox; have n0_ := Gv.a0 hbox; have n1_ := Gv.a0 (hbel w Gv.bw GE405.out); have n2_ := Gv.a0 ((hoth gb406 NB406_405.out).trans (Gv.kb0 BK406.out)); clear BK405 HB BK406; have BK405 := n0_; have HB := n1_; have BK406 := n2_; clear n0_ n1_ n2_ hbox hoth hbel; obtain ⟨pc405_0, pc405_1, pc405_2, pc405_3, pc405_4, pc405_5, pc405_6, pc405_7, pc405_8, pc405_9, pc405_10, pc405_11, pc405_12, pc405_13, pc405_14, pc405_15, pc405_16⟩ := Gv.c17 BK405.out; obtain ⟨pf405_0, pf405_1, pf405_2, pf405_3, pf405_4, pf405_5, pf405_6, pf405_7, pf405_8, pf405_9, pf405_10, pf405_11, pf405_12, pf405_13, pf405_14, pf405_15, pf405_16⟩ := Gv.f17 BK405.out; obtain ⟨pc406_0, pc406_1, pc406_2, pc406_3, pc406_4, pc406_5, pc406_6, pc406_7, pc406_8, pc406_9, pc406_10, pc406_11, pc406_12, pc406_13, pc406_14, pc406_15, pc406_16⟩ := Gv.c17 BK406.out; obtain ⟨pf406_0, pf406_1, pf406_2, pf406_3, pf406_4, pf406_5, pf406_6, pf406_7, pf406_8, pf406_9, pf406_10, pf406_11, pf406_12, pf406_13, pf406_14, pf406_15, pf406_16⟩ := Gv.f17 BK406.out) | ((with_reducible refine gate_store (t := 3) rfl ?_); refine Gv.put_event (g := gb406) rfl rfl rfl rfl rfl (Gv.kb0 BK406.out) (by kernel_rfl) (by simp) ?_; intro wp_ hbox hoth hbel; simp only [List.setIfInBounds_toArray, List.set_cons_succ, List.set_cons_zero] at hbox; have n0_ := Gv.a0 hbox; have n1_ := Gv.a0 (hbel w Gv.bw GE406.out); have n2_ := Gv.a0 ((hoth gb405 NB405_406.out).trans (Gv.kb0 BK405.out)); clear BK406 HB BK405; have BK406 := n0_; have HB := n1_; have BK405 := n2_; clear n0_ n1_ n2_ hbox hoth hbel; obtain ⟨pc406_0, pc406_1, pc406_2, pc406_3, pc406_4, pc406_5, pc406_6, pc406_7, pc406_8, pc406_9, pc406_10, pc406_11, pc406_12, pc406_13, pc406_14, pc406_15, pc406_16⟩ := Gv.c17 BK406.out; obtain ⟨pf406_0, pf406_1, pf406_2, pf406_3, pf406_4, pf406_5, pf406_6, pf406_7, pf406_8, pf406_9, pf406_10, pf406_11, pf406_12, pf406_13, pf406_14, pf406_15, pf406_16⟩ := Gv.f17 BK406.out; obtain ⟨pc405_0, pc405_1, pc405_2, pc405_3, pc405_4, pc405_5, pc405_6, pc405_7, pc405_8, pc405_9, pc405_10, pc405_11, pc405_12, pc405_13, pc405_14, pc405_15, pc405_16⟩ := Gv.c17 BK405.out; obtain ⟨pf405_0, pf405_1, pf405_2, pf405_3, pf405_4, pf405_5, pf405_6, pf405_7, pf405_8, pf405_9, pf405_10, pf405_11, pf405_12, pf405_13, pf405_14, pf405_15, pf405_16⟩ := Gv.f17 BK405.out))
        go_ret
        exact ⟨Gv.rt, Gv.bw⟩
      ·rw [if_neg c87] at H
       have c87b0 : (a0_0 == 7) = false := beq_eq_false_iff_ne.mpr c87
       have c87b1 : (a0_0 != 7) = true := bne_iff_ne.mpr c87
       by_cases c96 : a0_0 = 4
       ·rw [if_pos c96] at H
        have c96b0 : (a0_0 == 4) = true := beq_iff_eq.mpr c96
        have c96b1 : (a0_0 != 4) = false := bne_eq_false_iff_eq.mpr c96
        clear c96
        obtain rfl := Option.some.inj H
        have hnb97 := NB406_405.out
        have hnc97 := NB405_406.out
        obtain ⟨hcz98_0, hcz98_1, hcz98_2, hcz98_3, hcz98_4, hcz98_5, hcz98_6, hcz98_7, hcz98_8, hcz98_9, hcz98_10, hcz98_11, hcz98_12, hcz98_13, hcz98_14, hcz98_15, hcz98_16⟩ := Gv.c17 BK406.out
        obtain ⟨hfz98_0, hfz98_1, hfz98_2, hfz98_3, hfz98_4, hfz98_5, hfz98_6, hfz98_7, hfz98_8, hfz98_9, hfz98_10, hfz98_11, hfz98_12, hfz98_13, hfz98_14, hfz98_15, hfz98_16⟩ := Gv.f17 BK406.out
        obtain ⟨hcz99_0, hcz99_1, hcz99_2, hcz99_3, hcz99_4, hcz99_5, hcz99_6, hcz99_7, hcz99_8, hcz99_9, hcz99_10, hcz99_11, hcz99_12, hcz99_13, hcz99_14, hcz99_15, hcz99_16⟩ := Gv.c17 BK405.out
        obtain ⟨hfz99_0, hfz99_1, hfz99_2, hfz99_3, hfz99_4, hfz99_5, hfz99_6, hfz99_7, hfz99_8, hfz99_9, hfz99_10, hfz99_11, hfz99_12, hfz99_13, hfz99_14, hfz99_15, hfz99_16⟩ := Gv.f17 BK405.out
        go_wp2_with (first | ((with_reducible refine Gv.gate_load (t := 38) rfl ?_); (try (refine gate_guard (by rfl) ?_; dsimp only)); refine wpList_load_row rfl 38 _ rfl gb405 rfl 38 _ _ _ (by first | exact Gv.kb0 BK405.out | exact Gv.kb1 (Gv.kb0 BK405.out)) Try.underlying38 rfl (by kernel_rfl) ?_) | ((with_reducible refine Gv.gate_load (t := 38) rfl ?_); (try (refine gate_guard (by rfl) ?_; dsimp only)); refine wpList_load_row rfl 38 _ rfl gb406 rfl 38 _ _ _ (by first | exact Gv.kb0 BK406.out | exact Gv.kb1 (Gv.kb0 BK406.out)) Try.underlying38 rfl (by kernel_rfl) ?_) | ((with_reducible refine gate_store (t := 3) rfl ?_); refine Gv.put_event (g := gb405) rfl rfl rfl rfl rfl (Gv.kb0 BK405.out) (by kernel_rfl) (by simp) ?_; intro wp_ hbox hoth hbel; simp only [List.setIfInBounds_toArray, List.set_cons_succ, List.set_cons_zero] at hbox; have n0_ := Gv.a0 hbox; have n1_ := Gv.a0 (hbel w Gv.bw GE405.out); have n2_ := Gv.a0 ((hoth gb406 NB406_405.out).trans (Gv.kb0 BK406.out)); clear BK405 HB BK406; have BK405 := n0_; have HB := n1_; have BK406 := n2_; clear n0_ n1_ n2_ hbox hoth hbel; obtain ⟨pc405_0, pc405_1, pc405_2, pc405_3, pc405_4, pc405_5, pc405_6, pc405_7, pc405_8, pc405_9, pc405_10, pc405_11, pc405_12, pc405_13, pc405_14, pc405_15, pc405_16⟩ := Gv.c17 BK405.out; obtain ⟨pf405_0, pf405_1, pf405_2, pf405_3, pf405_4, pf405_5, pf405_6, pf405_7, pf405_8, pf405_9, pf405_10, pf405_11, pf405_12, pf405_13, pf405_14, pf405_15, pf405_16⟩ := Gv.f17 BK405.out; obtain ⟨pc406_0, pc406_1, pc406_2, pc406_3, pc406_4, pc406_5, pc406_6, pc406_7, pc406_8, pc406_9, pc406_10, pc406_11, pc406_12, pc406_13, pc406_14, pc406_15, pc406_16⟩ := Gv.c17 BK406.out; obtain ⟨pf406_0, pf406_1, pf406_2, pf406_3, pf406_4, pf406_5, pf406_6, pf406_7, pf406_8, pf406_9, pf406_10, pf406_11, pf406_12, pf406_13, pf406_14, pf406_15, pf406_16⟩ := Gv.f17 BK406.out) | ((with_reducible refine gate_store (t := 3) rfl ?_); refine Gv.put_event (g := gb406) rfl rfl rfl rfl rfl (Gv.kb0 BK406.out) (by kernel_rfl) (by simp) ?_; intro wp_ hbox hoth hbel; simp only [List.setIfInBounds_toArray, List.set_cons_succ, List.set_cons_zero] at hbox; have n0_ := Gv.a0 hbox; have n1_ := Gv.a0 (hbel w Gv.bw GE406.out); have n2_ := Gv.a0 ((hoth gb405 NB405_406.out).trans (Gv.kb0 BK405.out)); clear BK406 HB BK405; have BK406 := n0_; have HB := n1_; have BK405 := n2_; clear n0_ n1_ n2_ hbox hoth hbel; obtain ⟨pc406_0, pc406_1, pc406_2, pc406_3, pc406_4, pc406_5, pc406_6, pc406_7, pc406_8, pc406_9, pc406_10, pc406_11, pc406_12, pc406_13, pc406_14, pc406_15, pc406_16⟩ := Gv.c17 BK406.out; obtain ⟨pf406_0, pf406_1, pf406_2, pf406_3, pf406_4, pf406_5, pf406_6, pf406_7, pf406_8, pf406_9, pf406_10, pf406_11, pf406_12, pf406_13, pf406_14, pf406_15, pf406_16⟩ := Gv.f17 BK406.out; obtain ⟨pc405_0, pc405_1, pc405_2, pc405_3, pc405_4, pc405_5, pc405_6, pc405_7, pc405_8, pc405_9, pc405_10, pc405_11, pc405_12, pc405_13, pc405_14, pc405_15, pc405_16⟩ := Gv.c17 BK405.out; obtain ⟨pf405_0, pf405_1, pf405_2, pf405_3, pf405_4, pf405_5, pf405_6, pf405_7, pf405_8, pf405_9, pf405_10, pf405_11, pf405_12, pf405_13, pf405_14, pf405_15, pf405_16⟩ := Gv.f17 BK405.out))
        go_ret
        exact ⟨Gv.rt, Gv.bw⟩
       ·rw [if_neg c96] at H
        have c96b0 : (a0_0 == 4) = false := beq_eq_false_iff_ne.mpr c96
        have c96b1 : (a0_0 != 4) = true := bne_iff_ne.mpr c96
        by_cases c100 : a0_0 = 6
        ·rw [if_pos c100] at H
         have c100b0 : (a0_0 == 6) = true := beq_iff_eq.mpr c100
         have c100b1 : (a0_0 != 6) = false := bne_eq_false_iff_eq.mpr c100
         clear c100
         obtain rfl := Option.some.inj H
         have hnb101 := NB406_405.out
         have hnc101 := NB405_406.out
         obtain ⟨hcz102_0, hcz102_1, hcz102_2, hcz102_3, hcz102_4, hcz102_5, hcz102_6, hcz102_7, hcz102_8, hcz102_9, hcz102_10, hcz102_11, hcz102_12, hcz102_13, hcz102_14, hcz102_15, hcz102_16⟩ := Gv.c17 BK406.out
         obtain ⟨hfz102_0, hfz102_1, hfz102_2, hfz102_3, hfz102_4, hfz102_5, hfz102_6, hfz102_7, hfz102_8, hfz102_9, hfz102_10, hfz102_11, hfz102_12, hfz102_13, hfz102_14, hfz102_15, hfz102_16⟩ := Gv.f17 BK406.out
         obtain ⟨hcz103_0, hcz103_1, hcz103_2, hcz103_3, hcz103_4, hcz103_5, hcz103_6, hcz103_7, hcz103_8, hcz103_9, hcz103_10, hcz103_11, hcz103_12, hcz103_13, hcz103_14, hcz103_15, hcz103_16⟩ := Gv.c17 BK405.out
         obtain ⟨hfz103_0, hfz103_1, hfz103_2, hfz103_3, hfz103_4, hfz103_5, hfz103_6, hfz103_7, hfz103_8, hfz103_9, hfz103_10, hfz103_11, hfz103_12, hfz103_13, hfz103_14, hfz103_15, hfz103_16⟩ := Gv.f17 BK405.out
         go_wp2_with (first | ((with_reducible refine Gv.gate_load (t := 38) rfl ?_); (try (refine gate_guard (by rfl) ?_; dsimp only)); refine wpList_load_row rfl 38 _ rfl gb405 rfl 38 _ _ _ (by first | exact Gv.kb0 BK405.out | exact Gv.kb1 (Gv.kb0 BK405.out)) Try.underlying38 rfl (by kernel_rfl) ?_) | ((with_reducible refine Gv.gate_load (t := 38) rfl ?_); (try (refine gate_guard (by rfl) ?_; dsimp only)); refine wpList_load_row rfl 38 _ rfl gb406 rfl 38 _ _ _ (by first | exact Gv.kb0 BK406.out | exact Gv.kb1 (Gv.kb0 BK406.out)) Try.underlying38 rfl (by kernel_rfl) ?_) | ((with_reducible refine gate_store (t := 3) rfl ?_); refine Gv.put_event (g := gb405) rfl rfl rfl rfl rfl (Gv.kb0 BK405.out) (by kernel_rfl) (by simp) ?_; intro wp_ hbox hoth hbel; simp only [List.setIfInBounds_toArray, List.set_cons_succ, List.set_cons_zero] at hbox; have n0_ := Gv.a0 hbox; have n1_ := Gv.a0 (hbel w Gv.bw GE405.out); have n2_ := Gv.a0 ((hoth gb406 NB406_405.out).trans (Gv.kb0 BK406.out)); clear BK405 HB BK406; have BK405 := n0_; have HB := n1_; have BK406 := n2_; clear n0_ n1_ n2_ hbox hoth hbel; obtain ⟨pc405_0, pc405_1, pc405_2, pc405_3, pc405_4, pc405_5, pc405_6, pc405_7, pc405_8, pc405_9, pc405_10, pc405_11, pc405_12, pc405_13, pc405_14, pc405_15, pc405_16⟩ := Gv.c17 BK405.out; obtain ⟨pf405_0, pf405_1, pf405_2, pf405_3, pf405_4, pf405_5, pf405_6, pf405_7, pf405_8, pf405_9, pf405_10, pf405_11, pf405_12, pf405_13, pf405_14, pf405_15, pf405_16⟩ := Gv.f17 BK405.out; obtain ⟨pc406_0, pc406_1, pc406_2, pc406_3, pc406_4, pc406_5, pc406_6, pc406_7, pc406_8, pc406_9, pc406_10, pc406_11, pc406_12, pc406_13, pc406_14, pc406_15, pc406_16⟩ := Gv.c17 BK406.out; obtain ⟨pf406_0, pf406_1, pf406_2, pf406_3, pf406_4, pf406_5, pf406_6, pf406_7, pf406_8, pf406_9, pf406_10, pf406_11, pf406_12, pf406_13, pf406_14, pf406_15, pf406_16⟩ := Gv.f17 BK406.out) | ((with_reducible refine gate_store (t := 3) rfl ?_); refine Gv.put_event (g := gb406) rfl rfl rfl rfl rfl (Gv.kb0 BK406.out) (by kernel_rfl) (by simp) ?_; intro wp_ hbox hoth hbel; simp only [List.setIfInBounds_toArray, List.set_cons_succ, List.set_cons_zero] at hbox; have n0_ := Gv.a0 hbox; have n1_ := Gv.a0 (hbel w Gv.bw GE406.out); have n2_ := Gv.a0 ((hoth gb405 NB405_406.out).trans (Gv.kb0 BK405.out)); clear BK406 HB BK405; have BK406 := n0_; have HB := n1_; have BK405 := n2_; clear n0_ n1_ n2_ hbox hoth hbel; obtain ⟨pc406_0, pc406_1, pc406_2, pc406_3, pc406_4, pc406_5, pc406_6, pc406_7, pc406_8, pc406_9, pc406_10, pc406_11, pc406_12, pc406_13, pc406_14, pc406_15, pc406_16⟩ := Gv.c17 BK406.out; obtain ⟨pf406_0, pf406_1, pf406_2, pf406_3, pf406_4, pf406_5, pf406_6, pf406_7, pf406_8, pf406_9, pf406_10, pf406_11, pf406_12, pf406_13, pf406_14, pf406_15, pf406_16⟩ := Gv.f17 BK406.out; obtain ⟨pc405_0, pc405_1, pc405_2, pc405_3, pc405_4, pc405_5, pc405_6, pc405_7, pc405_8, pc405_9, pc405_10, pc405_11, pc405_12, pc405_13, pc405_14, pc405_15, pc405_16⟩ := Gv.c17 BK405.out; obtain ⟨pf405_0, pf405_1, pf405_2, pf405_3, pf405_4, pf405_5, pf405_6, pf405_7, pf405_8, pf405_9, pf405_10, pf405_11, pf405_12, pf405_13, pf405_14, pf405_15, pf405_16⟩ := Gv.f17 BK405.out))
         go_ret
         exact ⟨Gv.rt, Gv.bw⟩
        ·rw [if_neg c100] at H
         have c100b0 : (a0_0 == 6) = false := beq_eq_false_iff_ne.mpr c100
         have c100b1 : (a0_0 != 6) = true := bne_iff_ne.mpr c100
         obtain rfl := Option.some.inj H
         go_wp2_with (first | ((with_reducible refine Gv.gate_load (t := 38) rfl ?_); (try (refine gate_guard (by rfl) ?_; dsimp only)); refine wpList_load_row rfl 38 _ rfl gb405 rfl 38 _ _ _ (by first | exact Gv.kb0 BK405.out | exact Gv.kb1 (Gv.kb0 BK405.out)) Try.underlying38 rfl (by kernel_rfl) ?_) | ((with_reducible refine Gv.gate_load (t := 38) rfl ?_); (try (refine gate_guard (by rfl) ?_; dsimp only)); refine wpList_load_row rfl 38 _ rfl gb406 rfl 38 _ _ _ (by first | exact Gv.kb0 BK406.out | exact Gv.kb1 (Gv.kb0 BK406.out)) Try.underlying38 rfl (by kernel_rfl) ?_) | ((with_reducible refine gate_store (t := 3) rfl ?_); refine Gv.put_event (g := gb405) rfl rfl rfl rfl rfl (Gv.kb0 BK405.out) (by kernel_rfl) (by simp) ?_; intro wp_ hbox hoth hbel; simp only [List.setIfInBounds_toArray, List.set_cons_succ, List.set_cons_zero] at hbox; have n0_ := Gv.a0 hbox; have n1_ := Gv.a0 (hbel w Gv.bw GE405.out); have n2_ := Gv.a0 ((hoth gb406 NB406_405.out).trans (Gv.kb0 BK406.out)); clear BK405 HB BK406; have BK405 := n0_; have HB := n1_; have BK406 := n2_; clear n0_ n1_ n2_ hbox hoth hbel; obtain ⟨pc405_0, pc405_1, pc405_2, pc405_3, pc405_4, pc405_5, pc405_6, pc405_7, pc405_8, pc405_9, pc405_10, pc405_11, pc405_12, pc405_13, pc405_14, pc405_15, pc405_16⟩ := Gv.c17 BK405.out; obtain ⟨pf405_0, pf405_1, pf405_2, pf405_3, pf405_4, pf405_5, pf405_6, pf405_7, pf405_8, pf405_9, pf405_10, pf405_11, pf405_12, pf405_13, pf405_14, pf405_15, pf405_16⟩ := Gv.f17 BK405.out; obtain ⟨pc406_0, pc406_1, pc406_2, pc406_3, pc406_4, pc406_5, pc406_6, pc406_7, pc406_8, pc406_9, pc406_10, pc406_11, pc406_12, pc406_13, pc406_14, pc406_15, pc406_16⟩ := Gv.c17 BK406.out; obtain ⟨pf406_0, pf406_1, pf406_2, pf406_3, pf406_4, pf406_5, pf406_6, pf406_7, pf406_8, pf406_9, pf406_10, pf406_11, pf406_12, pf406_13, pf406_14, pf406_15, pf406_16⟩ := Gv.f17 BK406.out) | ((with_reducible refine gate_store (t := 3) rfl ?_); refine Gv.put_event (g := gb406) rfl rfl rfl rfl rfl (Gv.kb0 BK406.out) (by kernel_rfl) (by simp) ?_; intro wp_ hbox hoth hbel; simp only [List.setIfInBounds_toArray, List.set_cons_succ, List.set_cons_zero] at hbox; have n0_ := Gv.a0 hbox; have n1_ := Gv.a0 (hbel w Gv.bw GE406.out); have n2_ := Gv.a0 ((hoth gb405 NB405_406.out).trans (Gv.kb0 BK405.out)); clear BK406 HB BK405; have BK406 := n0_; have HB := n1_; have BK405 := n2_; clear n0_ n1_ n2_ hbox hoth hbel; obtain ⟨pc406_0, pc406_1, pc406_2, pc406_3, pc406_4, pc406_5, pc406_6, pc406_7, pc406_8, pc406_9, pc406_10, pc406_11, pc406_12, pc406_13, pc406_14, pc406_15, pc406_16⟩ := Gv.c17 BK406.out; obtain ⟨pf406_0, pf406_1, pf406_2, pf406_3, pf406_4, pf406_5, pf406_6, pf406_7, pf406_8, pf406_9, pf406_10, pf406_11, pf406_12, pf406_13, pf406_14, pf406_15, pf406_16⟩ := Gv.f17 BK406.out; obtain ⟨pc405_0, pc405_1, pc405_2, pc405_3, pc405_4, pc405_5, pc405_6, pc405_7, pc405_8, pc405_9, pc405_10, pc405_11, pc405_12, pc405_13, pc405_14, pc405_15, pc405_16⟩ := Gv.c17 BK405.out; obtain ⟨pf405_0, pf405_1, pf405_2, pf405_3, pf405_4, pf405_5, pf405_6, pf405_7, pf405_8, pf405_9, pf405_10, pf405_11, pf405_12, pf405_13, pf405_14, pf405_15, pf405_16⟩ := Gv.f17 BK405.out))
         go_ret
         exact ⟨Gv.rt, Gv.bw⟩

end Go.Proofs.Ytbpkmdghloapjaa.PCc
