/- Plain Lean functions of a law's Go functions, their contracts, by a program of this session (wip/pr.py over the kit's print). -/
import Derived.Test.YtbihbbkdciebhaaPShx0
import Derived.Test.YtbihbbkdciebhaaPShx1
import Derived.Test.YtbihbbkdciebhaaPShx6
namespace Go.Proofs.Ytbihbbkdciebhaa.PSh
open Go.RowKit Go.Proofs.YtbihbbkdciebhaaW.PrintWords Go.Proofs.YtbihbbkdciebhaaW.PrintLast Go.Proofs.YtbihbbkdciebhaaW.PrintMore
attribute [local go_sem] max2_int min2_int max_two min_two max_three min_three max_four min_four   -- for this text's walks alone
set_option linter.unusedVariables false
set_option linter.unusedSimpArgs false

attribute [local go_sem high] eqA34
/-! ### impl_Cut: function 67 -/
mutual
def impl_Cut.j0 : Nat → Int → Bool → Int → Int → Int → Int → Int → Option (Int × Int × Int × Int × Int)
 | 0, _, _, _, _, _, _, _ => none
 | k + 1, x1, x19, x356000, x356001, x356002, x356003, x356004 => if x19 = true then (some (0, 0, 0, 0, 0)) else ((impl_AddrBytes.f k x356000 x356001 x356002 x356003 x356004).bind fun t360 => (impl_Cut.l0 k x1 t360 (t360.length : Int) 0))
def impl_Cut.l0 : Nat → Int → List Int → Int → Int → Option (Int × Int × Int × Int × Int)
 | 0, _, _, _, _ => none
 | k + 1, x1, x5, x24, x25 => if x25 < x24 then ((impl_Clip.f (wrap64 (x1 - (wrap64 (8 * x25)))) 0 8).bind fun t363 => (if 0 ≤ x25 then (if x25 < (x5.length : Int) then (if 0 ≤ t363 then (impl_Cut.l0 k x1 (x5.set (x25 : Int).toNat (Go.bits .and .u8 (rd x5 x25) ((shr .u16 65280 t363) % 256))) x24 (wrap64 (x25 + 1))) else (none)) else (none)) else (none))) else ((impl_AddrOf.f k x5).bind fun bt366 => (some (bt366.1, bt366.2.1, bt366.2.2.1, bt366.2.2.2.1, bt366.2.2.2.2.1)))
end
def impl_Cut.f (k : Nat) (a0_0 : Int) (a0_1 : Int) (a0_2 : Int) (a0_3 : Int) (a0_4 : Int) (a1 : Int) : Option (Int × Int × Int × Int × Int) := (impl_AddrOk.f a0_0 a0_1 a0_2 a0_3 a0_4).bind fun t357 => (if t357 = true then ((impl_bitsOf.f a0_0 a0_1 a0_2 a0_3 a0_4).bind fun t358 => ((impl_within.f a1 0 t358).bind fun t359 => (impl_Cut.j0 k a1 (!t359) a0_0 a0_1 a0_2 a0_3 a0_4))) else (impl_Cut.j0 k a1 true a0_0 a0_1 a0_2 a0_3 a0_4))
theorem impl_Cut.mono_l : ∀ k, (∀ y0 y1 y2 y3 y4 y5 y6, LeO (impl_Cut.j0 k y0 y1 y2 y3 y4 y5 y6) (impl_Cut.j0 (k + 1) y0 y1 y2 y3 y4 y5 y6)) ∧ (∀ y0 y1 y2 y3, LeO (impl_Cut.l0 k y0 y1 y2 y3) (impl_Cut.l0 (k + 1) y0 y1 y2 y3))
 | 0 => ⟨fun _ _ _ _ _ _ _ r h => by simp [impl_Cut.j0] at h, fun _ _ _ _ r h => by simp [impl_Cut.l0] at h⟩
 | k + 1 => by
  obtain ⟨ih0, ih1⟩ := impl_Cut.mono_l k
  refine ⟨?_, ?_⟩
  ·intro y0 y1 y2 y3 y4 y5 y6
   unfold impl_Cut.j0
   repeat' first
   | (with_reducible exact ih0 _ _ _ _ _ _ _)
   | (with_reducible exact ih1 _ _ _ _)
   | (with_reducible exact impl_AddrBytes.mono _ _ _ _ _ _)
   | (with_reducible exact impl_AddrOf.mono _ _)
   | (with_reducible exact LeO.refl _)
   | (with_reducible exact LeO.none _)
   | (with_reducible refine LeO.ite ?_ ?_)
   | (with_reducible refine LeO.bind ?_ (fun _ => ?_))
   | exact ih0 _ _ _ _ _ _ _
   | exact ih1 _ _ _ _
   | exact impl_AddrBytes.mono _ _ _ _ _ _
   | exact impl_AddrOf.mono _ _
   | exact LeO.none _
   | refine LeO.ite ?_ ?_
   | refine LeO.bind ?_ (fun _ => ?_)
  ·intro y0 y1 y2 y3
   unfold impl_Cut.l0
   repeat' first
   | (with_reducible exact ih0 _ _ _ _ _ _ _)
   | (with_reducible exact ih1 _ _ _ _)
   | (with_reducible exact impl_AddrBytes.mono _ _ _ _ _ _)
   | (with_reducible exact impl_AddrOf.mono _ _)
   | (with_reducible exact LeO.refl _)
   | (with_reducible exact LeO.none _)
   | (with_reducible refine LeO.ite ?_ ?_)
   | (with_reducible refine LeO.bind ?_ (fun _ => ?_))
   | exact ih0 _ _ _ _ _ _ _
   | exact ih1 _ _ _ _
   | exact impl_AddrBytes.mono _ _ _ _ _ _
   | exact impl_AddrOf.mono _ _
   | exact LeO.none _
   | refine LeO.ite ?_ ?_
   | refine LeO.bind ?_ (fun _ => ?_)
theorem impl_Cut.mono : ∀ a0 a1 a2 a3 a4 a5 k, LeO (impl_Cut.f k a0 a1 a2 a3 a4 a5) (impl_Cut.f (k + 1) a0 a1 a2 a3 a4 a5) := by
 intro a0 a1 a2 a3 a4 a5 k
 obtain ⟨ih0, ih1⟩ := impl_Cut.mono_l k
 unfold impl_Cut.f
 repeat' first
   | (with_reducible exact ih0 _ _ _ _ _ _ _)
   | (with_reducible exact ih1 _ _ _ _)
   | (with_reducible exact impl_AddrBytes.mono _ _ _ _ _ _)
   | (with_reducible exact impl_AddrOf.mono _ _)
   | (with_reducible exact LeO.refl _)
   | (with_reducible exact LeO.none _)
   | (with_reducible refine LeO.ite ?_ ?_)
   | (with_reducible refine LeO.bind ?_ (fun _ => ?_))
   | exact ih0 _ _ _ _ _ _ _
   | exact ih1 _ _ _ _
   | exact impl_AddrBytes.mono _ _ _ _ _ _
   | exact impl_AddrOf.mono _ _
   | exact LeO.none _
   | refine LeO.ite ?_ ?_
   | refine LeO.bind ?_ (fun _ => ?_)
def impl_Cut.T8 : Bool × List (List Nat × List Nat) := (true, [([], []), ([], []), ([0, 1], [0, 1]), ([2], [2]), ([], []), ([4], [4]), ([5], [5]), ([3, 6], [3, 6]), ([0, 1, 0, 1, 2, 3, 4, 5, 6, 7], [0, 1]), ([8, 7, 0, 1, 2, 3, 4, 5, 6, 7], [7, 8])])
def impl_Cut.B8 : List Nat := [0, 0, 3, 7, 0, 16, 48, 127, 255, 511]
theorem impl_Cut.tab8 : rtab .any (opsOf Try.f67 8) = impl_Cut.T8 := by kernel_rfl
theorem impl_Cut.bits8 : waitsOk impl_Cut.T8.2 impl_Cut.B8 = true := by kernel_rfl
set_option maxHeartbeats 8000000 in
set_option maxRecDepth 100000 in
theorem impl_Cut.calls (k : Nat) (a0_0 : Int) (a0_1 : Int) (a0_2 : Int) (a0_3 : Int) (a0_4 : Int) (a1 : Int) (r1 : Int) (r2 : Int) (r3 : Int) (r4 : Int) (r5 : Int) (w : World) (h : impl_Cut.f k a0_0 a0_1 a0_2 a0_3 a0_4 a1 = some (r1, r2, r3, r4, r5)) :
  Calls Try.prog 67 #[.agg #[.int .i64 a0_0, .int .i64 a0_1, .int .i64 a0_2, .int .i64 a0_3, .int .i64 a0_4], .int .i64 a1] w fun e w' => e = .returned (.agg #[.int .i64 r1, .int .i64 r2, .int .i64 r3, .int .i64 r4, .int .i64 r5]) ∧ Below w.heap.size w w' := by
 have hu34 := Try.underlying34
 have HB := Gv.a0 (Below.refl w.heap.size w)
 have H : ((impl_AddrOk.f a0_0 a0_1 a0_2 a0_3 a0_4).bind fun t357 => (if t357 = true then ((impl_bitsOf.f a0_0 a0_1 a0_2 a0_3 a0_4).bind fun t358 => ((impl_within.f a1 0 t358).bind fun t359 => (impl_Cut.j0 k a1 (!t359) a0_0 a0_1 a0_2 a0_3 a0_4))) else (impl_Cut.j0 k a1 true a0_0 a0_1 a0_2 a0_3 a0_4))) = some (r1, r2, r3, r4, r5) := h
 clear h
 have HC3 := Gv.a0 H
 clear H
 go_enter Try.func67, Try.ntmps67
 go_upto_region 1 with (first | ((with_reducible refine gate_dst (N := 2) rfl ?_); refine box_event ?hg (N := 2) ?hd (cs := #[.int .i64 a0_0, .int .i64 a0_1, .int .i64 a0_2, .int .i64 a0_3, .int .i64 a0_4]) (t := 34) ?hr ?_; (case hd => rfl); (case hg => rfl); (case hr => first | (go_simp; done) | (go_simp; rfl)); intro gb355 hg w4 hbox hb; have n0_ := Gv.a0 (below_step Gv.bw hb); have n1_ := Gv.a0 (hbox); have n2_ := Gv.a0 ((Gv.ble hg Gv.bw : w.heap.size ≤ gb355)); have n3_ := Gv.a0 ((Gv.ble hg Gv.bw : w.heap.size ≤ gb355)); clear HB; have HB := n0_; have BK355 := n1_; have GW355 := n2_; have GE355 := n3_; clear n0_ n1_ n2_ n3_; clear hb hbox hg) | ((with_reducible refine gate_dst (N := 4) rfl ?_); refine box_event ?hg (N := 4) ?hd (cs := #[.int .i64 0, .int .i64 0, .int .i64 0, .int .i64 0, .int .i64 0]) (t := 34) ?hr ?_; (case hd => rfl); (case hg => rfl); (case hr => first | (go_simp; done) | (go_simp; rfl)); intro gb356 hg w5 hbox hb; have n0_ := Gv.a0 (Gv.bb BK355.out hb); have n1_ := Gv.a0 (below_step Gv.bw hb); have n2_ := Gv.a0 (hbox); have n3_ := Gv.a0 ((Gv.ble hg Gv.bw : w.heap.size ≤ gb356)); have n4_ := Gv.a0 ((Gv.ble hg Gv.bw : w.heap.size ≤ gb356)); have n5_ := Gv.a0 ((Gv.nlt hg (Gv.kb BK355.out) : gb355 ≠ gb356)); have n6_ := Gv.a0 ((Gv.ngt hg (Gv.kb BK355.out) : gb356 ≠ gb355)); clear BK355; clear HB; have BK355 := n0_; have HB := n1_; have BK356 := n2_; have GW356 := n3_; have GE356 := n4_; have NB355_356 := n5_; have NB356_355 := n6_; clear n0_ n1_ n2_ n3_ n4_ n5_ n6_; clear hb hbox hg))
 (try simp only [Act.put, List.setIfInBounds_toArray, List.set_cons_zero, List.set_cons_succ])
 go_cut [19] (fun v19 wc => ∃ (kq : Nat) (x19_2 : Bool), v19 = .bool x19_2 ∧ Aside0 (impl_Cut.j0 kq a1 x19_2 a0_0 a0_1 a0_2 a0_3 a0_4 = some (r1, r2, r3, r4, r5)) ∧ Aside0 (kq ≤ k) ∧ Aside0 (wc.heap[gb355]? = some (.cells #[.int .i64 a0_0, .int .i64 a0_1, .int .i64 a0_2, .int .i64 a0_3, .int .i64 a0_4] 34 (0, 0))) ∧ Aside0 (wc.heap[gb356]? = some (.cells #[.int .i64 0, .int .i64 0, .int .i64 0, .int .i64 0, .int .i64 0] 34 (0, 0))) ∧ Aside0 (Below w.heap.size w wc))
 case first =>
  have H := HC3.out
  clear HC3
  replace H := Option.bind_eq_some_iff.mp H
  obtain ⟨t357, A60, H⟩ := H
  replace H : (if t357 = true then ((impl_bitsOf.f a0_0 a0_1 a0_2 a0_3 a0_4).bind fun t358 => ((impl_within.f a1 0 t358).bind fun t359 => (impl_Cut.j0 k a1 (!t359) a0_0 a0_1 a0_2 a0_3 a0_4))) else (impl_Cut.j0 k a1 true a0_0 a0_1 a0_2 a0_3 a0_4)) = some (r1, r2, r3, r4, r5) := H
  have A6 := Gv.a0 A60
  clear A60
  by_cases c7 : t357 = true
  ·subst c7
   have H1 : ((impl_bitsOf.f a0_0 a0_1 a0_2 a0_3 a0_4).bind fun t358 => ((impl_within.f a1 0 t358).bind fun t359 => (impl_Cut.j0 k a1 (!t359) a0_0 a0_1 a0_2 a0_3 a0_4))) = some (r1, r2, r3, r4, r5) := by rw [if_pos rfl] at H; exact H
   clear H
   have H := H1
   clear H1
   replace H := Option.bind_eq_some_iff.mp H
   obtain ⟨t358, A80, H⟩ := H
   replace H : ((impl_within.f a1 0 t358).bind fun t359 => (impl_Cut.j0 k a1 (!t359) a0_0 a0_1 a0_2 a0_3 a0_4)) = some (r1, r2, r3, r4, r5) := H
   have A8 := Gv.a0 A80
   clear A80
   replace H := Option.bind_eq_some_iff.mp H
   obtain ⟨t359, A90, H⟩ := H
   replace H : (impl_Cut.j0 k a1 (!t359) a0_0 a0_1 a0_2 a0_3 a0_4) = some (r1, r2, r3, r4, r5) := H
   have A9 := Gv.a0 A90
   clear A90
   have H' := Gv.a0 H
   clear H
   have hnb10 := NB355_356.out
   have hnc10 := NB356_355.out
   obtain ⟨hcz11_0, hcz11_1, hcz11_2, hcz11_3, hcz11_4⟩ := Gv.c5 BK355.out
   obtain ⟨hfz11_0, hfz11_1, hfz11_2, hfz11_3, hfz11_4⟩ := Gv.f5 BK355.out
   go_wp2_with (first | ((with_reducible refine gate_callee (f := 65) rfl ?_); refine goesL_ (some 11) rfl rfl Try.func65 (by kernel_rfl) rfl #[.agg #[.int .i64 a0_0, .int .i64 a0_1, .int .i64 a0_2, .int .i64 a0_3, .int .i64 a0_4]] rfl Gv.lm ?_; (with_reducible refine (impl_AddrOk.calls a0_0 a0_1 a0_2 a0_3 a0_4 true _ A6.out).mono ?_); rintro e w12 ⟨rfl, hb⟩; refine ⟨_, rfl, ?_⟩; have n0_ := Gv.a0 (Gv.bb BK355.out hb); have n1_ := Gv.a0 (Gv.bb BK356.out hb); have n2_ := Gv.a0 (below_step Gv.bw hb); clear BK355; clear BK356; clear HB; have BK355 := n0_; have BK356 := n1_; have HB := n2_; clear n0_ n1_ n2_; (try clear hb); (try clear hb2); (try clear hk); (try clear hi); obtain ⟨hcz13_0, hcz13_1, hcz13_2, hcz13_3, hcz13_4⟩ := Gv.c5 BK355.out; obtain ⟨hfz13_0, hfz13_1, hfz13_2, hfz13_3, hfz13_4⟩ := Gv.f5 BK355.out) | (go_at_call 66; (with_reducible refine (impl_bitsOf.calls a0_0 a0_1 a0_2 a0_3 a0_4 t358 _ A8.out).mono ?_); rintro e w14 ⟨rfl, hb⟩; have n0_ := Gv.a0 (Gv.bb BK355.out hb); have n1_ := Gv.a0 (Gv.bb BK356.out hb); have n2_ := Gv.a0 (below_step Gv.bw hb); clear BK355; clear BK356; clear HB; have BK355 := n0_; have BK356 := n1_; have HB := n2_; clear n0_ n1_ n2_; (try clear hb); (try clear hb2); (try clear hk); (try clear hi)) | (go_at_call 46; (with_reducible refine (impl_within.calls a1 0 t358 t359 _ A9.out).mono ?_); rintro e w' ⟨rfl, ⟨nd, rfl⟩⟩))
   go_meet
   case rel => exact ⟨_, (!t359), Gv.rq, H', ⟨by first | omega | exact Nat.le_refl _⟩, ⟨by (with_reducible repeat (first | refine blk_drewN ?_ _ | refine blk_drew ?_ | refine blk_alloc ?_ _)); exact BK355.out⟩, ⟨by (with_reducible repeat (first | refine blk_drewN ?_ _ | refine blk_drew ?_ | refine blk_alloc ?_ _)); exact BK356.out⟩, ⟨Gv.bw⟩⟩
  ·replace c7 := Bool.eq_false_iff.mpr c7
   subst c7
   have H1 : (impl_Cut.j0 k a1 true a0_0 a0_1 a0_2 a0_3 a0_4) = some (r1, r2, r3, r4, r5) := by rw [if_neg (show ¬ (false = true) by decide)] at H; exact H
   clear H
   have H := H1
   clear H1
   have H' := Gv.a0 H
   clear H
   have hnb15 := NB355_356.out
   have hnc15 := NB356_355.out
   obtain ⟨hcz16_0, hcz16_1, hcz16_2, hcz16_3, hcz16_4⟩ := Gv.c5 BK355.out
   obtain ⟨hfz16_0, hfz16_1, hfz16_2, hfz16_3, hfz16_4⟩ := Gv.f5 BK355.out
   go_wp2_with (first | ((with_reducible refine gate_callee (f := 65) rfl ?_); refine goesL_ (some 11) rfl rfl Try.func65 (by kernel_rfl) rfl #[.agg #[.int .i64 a0_0, .int .i64 a0_1, .int .i64 a0_2, .int .i64 a0_3, .int .i64 a0_4]] rfl Gv.lm ?_; (with_reducible refine (impl_AddrOk.calls a0_0 a0_1 a0_2 a0_3 a0_4 false _ A6.out).mono ?_); rintro e w17 ⟨rfl, hb⟩; refine ⟨_, rfl, ?_⟩; have n0_ := Gv.a0 (Gv.bb BK355.out hb); have n1_ := Gv.a0 (Gv.bb BK356.out hb); have n2_ := Gv.a0 (below_step Gv.bw hb); clear BK355; clear BK356; clear HB; have BK355 := n0_; have BK356 := n1_; have HB := n2_; clear n0_ n1_ n2_; (try clear hb); (try clear hb2); (try clear hk); (try clear hi)))
   go_meet
   case rel => exact ⟨_, (true), Gv.rq, H', ⟨by first | omega | exact Nat.le_refl _⟩, ⟨by (with_reducible repeat (first | refine blk_drewN ?_ _ | refine blk_drew ?_ | refine blk_alloc ?_ _)); exact BK355.out⟩, ⟨by (with_reducible repeat (first | refine blk_drewN ?_ _ | refine blk_drew ?_ | refine blk_alloc ?_ _)); exact BK356.out⟩, ⟨Gv.bw⟩⟩
 case rest =>
  clear HC3
  try clear c1
  try clear p2
  try clear c6
  try clear c7
  try clear c10
  try clear c15
  try clear hcz11_0 hcz11_1 hcz11_2 hcz11_3 hcz11_4
  try clear hcz13_0 hcz13_1 hcz13_2 hcz13_3 hcz13_4
  try clear hcz16_0 hcz16_1 hcz16_2 hcz16_3 hcz16_4
  try clear hfz11_0 hfz11_1 hfz11_2 hfz11_3 hfz11_4
  try clear hfz13_0 hfz13_1 hfz13_2 hfz13_3 hfz13_4
  try clear hfz16_0 hfz16_1 hfz16_2 hfz16_3 hfz16_4
  obtain ⟨kq, x19_2, rfl, HA, HJ2, BK355, BK356, HB⟩ := hcut
  cases kq with
  | zero => exact absurd HA.out (by simp [impl_Cut.j0])
  | succ kj2 =>
   have H := HA.out
   clear HA
   simp only [impl_Cut.j0] at H
   by_cases c18 : x19_2 = true
   ·subst c18
    have H1 : (some (0, 0, 0, 0, 0)) = some (r1, r2, r3, r4, r5) := by rw [if_pos rfl] at H; exact H
    clear H
    have H := H1
    clear H1
    simp only [Option.some.injEq, Prod.mk.injEq] at H
    obtain ⟨rfl, rfl, rfl, rfl, rfl⟩ := H
    have hnb19 := NB356_355.out
    have hnc19 := NB355_356.out
    obtain ⟨hcz20_0, hcz20_1, hcz20_2, hcz20_3, hcz20_4⟩ := Gv.c5 BK356.out
    obtain ⟨hfz20_0, hfz20_1, hfz20_2, hfz20_3, hfz20_4⟩ := Gv.f5 BK356.out
    go_wp2
    refine bodyPost_ret (results_cell_row rfl _ _ gb356 34 #[.int .i64 0, .int .i64 0, .int .i64 0, .int .i64 0, .int .i64 0] (0, 0) _ rfl (by (with_reducible repeat (first | refine blk_drewN ?_ _ | refine blk_drew ?_ | refine blk_alloc ?_ _)); refine blk_put (cs := #[.int .i64 0, .int .i64 0, .int .i64 0, .int .i64 0, .int .i64 0]) ?_ 4 _ rfl; (with_reducible repeat (first | refine blk_drewN ?_ _ | refine blk_drew ?_ | refine blk_alloc ?_ _)); refine blk_put (cs := #[.int .i64 0, .int .i64 0, .int .i64 0, .int .i64 0, .int .i64 0]) ?_ 3 _ rfl; (with_reducible repeat (first | refine blk_drewN ?_ _ | refine blk_drew ?_ | refine blk_alloc ?_ _)); refine blk_put (cs := #[.int .i64 0, .int .i64 0, .int .i64 0, .int .i64 0, .int .i64 0]) ?_ 2 _ rfl; (with_reducible repeat (first | refine blk_drewN ?_ _ | refine blk_drew ?_ | refine blk_alloc ?_ _)); refine blk_put (cs := #[.int .i64 0, .int .i64 0, .int .i64 0, .int .i64 0, .int .i64 0]) ?_ 1 _ rfl; (with_reducible repeat (first | refine blk_drewN ?_ _ | refine blk_drew ?_ | refine blk_alloc ?_ _)); refine blk_put (cs := #[.int .i64 0, .int .i64 0, .int .i64 0, .int .i64 0, .int .i64 0]) ?_ 0 _ rfl; (with_reducible repeat (first | refine blk_drewN ?_ _ | refine blk_drew ?_ | refine blk_alloc ?_ _)); exact BK356.out) Try.underlying34 rfl (by kernel_rfl)) rfl ?_
    exact ⟨Gv.rt, Gv.bw⟩
   ·replace c18 := Bool.eq_false_iff.mpr c18
    subst c18
    have H1 : ((impl_AddrBytes.f kj2 a0_0 a0_1 a0_2 a0_3 a0_4).bind fun t360 => (impl_Cut.l0 kj2 a1 t360 (t360.length : Int) 0)) = some (r1, r2, r3, r4, r5) := by rw [if_neg (show ¬ (false = true) by decide)] at H; exact H
    clear H
    have H := H1
    clear H1
    replace H := Option.bind_eq_some_iff.mp H
    obtain ⟨t360, A210, H⟩ := H
    replace H : (impl_Cut.l0 kj2 a1 t360 (t360.length : Int) 0) = some (r1, r2, r3, r4, r5) := H
    have A21 := Gv.a0 A210
    clear A210
    have H' := Gv.a0 H
    clear H
    have hnb22 := NB355_356.out
    have hnc22 := NB356_355.out
    obtain ⟨hcz23_0, hcz23_1, hcz23_2, hcz23_3, hcz23_4⟩ := Gv.c5 BK355.out
    obtain ⟨hfz23_0, hfz23_1, hfz23_2, hfz23_3, hfz23_4⟩ := Gv.f5 BK355.out
    go_wp2_with (first | ((with_reducible refine gate_callee (f := 76) rfl ?_); refine goesL_ (some 22) rfl rfl Try.func76 (by kernel_rfl) rfl #[.agg #[.int .i64 a0_0, .int .i64 a0_1, .int .i64 a0_2, .int .i64 a0_3, .int .i64 a0_4]] rfl Gv.lm ?_; (with_reducible refine (impl_AddrBytes.calls kj2 a0_0 a0_1 a0_2 a0_3 a0_4 t360 _ A21.out).mono ?_); rintro e w24 ⟨v361, rfl, ho0, hb⟩; refine ⟨_, rfl, ?_⟩; have n0_ := Gv.a0 (Kd.R_lower ho0 (below_size Gv.bw)); have n1_ := Gv.a0 (Gv.bb BK355.out hb); have n2_ := Gv.a0 (Gv.bb BK356.out hb); have n3_ := Gv.a0 (below_step Gv.bw hb); clear BK355; clear BK356; clear HB; have HO362 := n0_; have BK355 := n1_; have BK356 := n2_; have HB := n3_; clear n0_ n1_ n2_ n3_; (try clear hb); (try clear hb2); (try clear hk); (try clear hi); (try clear ho0); obtain ⟨Ao25, co25, eo25⟩ := Kd.R_slice HO362.out; subst eo25))
    go_loopg [25] kj2 (fun kq v25 w' => ∃ (x5_2 : List Int) (x25_2 : Int), v25 = .int .i64 x25_2 ∧ Aside0 (impl_Cut.l0 kq a1 x5_2 (t360.length : Int) x25_2 = some (r1, r2, r3, r4, r5)) ∧ Aside0 (kq ≤ kj2) ∧ Aside0 (Kd.R (Kd.int .u8) 5 w' w.heap.size (fun _ => True) (.slice Ao25 t360.length co25) x5_2) ∧ Aside0 (w'.heap[gb355]? = some (.cells #[.int .i64 a0_0, .int .i64 a0_1, .int .i64 a0_2, .int .i64 a0_3, .int .i64 a0_4] 34 (0, 0))) ∧ Aside0 (w'.heap[gb356]? = some (.cells #[.int .i64 0, .int .i64 0, .int .i64 0, .int .i64 0, .int .i64 0] 34 (0, 0))) ∧ Aside0 (Below w.heap.size w w'))
    case atStart => exact ⟨(t360), (0), Gv.rq, H', ⟨Nat.le_refl _⟩, ⟨Gv.kr HO362.out⟩, ⟨by (with_reducible repeat (first | refine blk_drewN ?_ _ | refine blk_drew ?_ | refine blk_alloc ?_ _)); exact BK355.out⟩, ⟨by (with_reducible repeat (first | refine blk_drewN ?_ _ | refine blk_drew ?_ | refine blk_alloc ?_ _)); exact BK356.out⟩, ⟨Gv.bw⟩⟩
    case round =>
     clear H'
     try clear c1
     try clear c2
     try clear p2
     try clear c6
     try clear c7
     try clear c10
     try clear c15
     try clear c18
     try clear c19
     try clear c22
     try clear hcz11_0 hcz11_1 hcz11_2 hcz11_3 hcz11_4
     try clear hcz13_0 hcz13_1 hcz13_2 hcz13_3 hcz13_4
     try clear hcz16_0 hcz16_1 hcz16_2 hcz16_3 hcz16_4
     try clear hcz20_0 hcz20_1 hcz20_2 hcz20_3 hcz20_4
     try clear hcz23_0 hcz23_1 hcz23_2 hcz23_3 hcz23_4
     try clear hfz11_0 hfz11_1 hfz11_2 hfz11_3 hfz11_4
     try clear hfz13_0 hfz13_1 hfz13_2 hfz13_3 hfz13_4
     try clear hfz16_0 hfz16_1 hfz16_2 hfz16_3 hfz16_4
     try clear hfz20_0 hfz20_1 hfz20_2 hfz20_3 hfz20_4
     try clear hfz23_0 hfz23_1 hfz23_2 hfz23_3 hfz23_4
     try clear p2
     obtain ⟨x5_2, x25_2, rfl, HA, HK2, HO_5, BK355, BK356, HB⟩ := hrel
     have hl5_2 := (Kd.R_reads' HO_5.out).1
     rw [hl5_2] at HO_5
     (try simp only [hl5_2])
     (try simp only [hl5_2] at BK355)
     (try simp only [hl5_2] at BK356)
     cases gk with
     | zero => exact absurd HA.out (by simp [impl_Cut.l0])
     | succ k2 =>
      have H := HA.out
      clear HA
      simp only [impl_Cut.l0] at H
      by_cases c26 : x25_2 < (t360.length : Int)
      ·rw [if_pos c26] at H
       have c26b0 : decide (x25_2 < (t360.length : Int)) = true := decide_eq_true c26
       (try (have c26b9 := c26b0; rw [hl5_2] at c26b9))
       (try (have c26b8 := c26b0; rw [← hl5_2] at c26b8))
       clear c26
       replace H := Option.bind_eq_some_iff.mp H
       obtain ⟨t363, A270, H⟩ := H
       replace H : (if 0 ≤ x25_2 then (if x25_2 < (x5_2.length : Int) then (if 0 ≤ t363 then (impl_Cut.l0 k2 a1 (x5_2.set (x25_2 : Int).toNat (Go.bits .and .u8 (rd x5_2 x25_2) ((shr .u16 65280 t363) % 256))) (t360.length : Int) (wrap64 (x25_2 + 1))) else (none)) else (none)) else (none)) = some (r1, r2, r3, r4, r5) := H
       have A27 := Gv.a0 A270
       clear A270
       by_cases c28 : 0 ≤ x25_2
       ·rw [if_pos c28] at H
        have c28b0 : decide (0 ≤ x25_2) = true := decide_eq_true c28
        clear c28
        by_cases c29 : x25_2 < (x5_2.length : Int)
        ·rw [if_pos c29] at H
         have c29b0 : decide (x25_2 < (x5_2.length : Int)) = true := decide_eq_true c29
         clear c29
         by_cases c30 : 0 ≤ t363
         ·rw [if_pos c30] at H
          have c30b0 := eq_true c30
          have c30b1 : decide (0 ≤ t363) = true := decide_eq_true c30
          clear c30
          obtain ⟨ji31, hji31⟩ : ∃ j_ : Int, (shr .u16 65280 t363) = j_ := ⟨_, rfl⟩
          replace H : (impl_Cut.l0 k2 a1 (x5_2.set (x25_2 : Int).toNat (Go.bits .and .u8 (rd x5_2 x25_2) ((ji31) % 256))) (t360.length : Int) (wrap64 (x25_2 + 1))) = some (r1, r2, r3, r4, r5) := by first | (rw [hji31] at H; exact H) | (simp only [hji31] at H ⊢; exact H)
          (try rw [hji31] at A27)
          have hji31_ : (65280 / 2 ^ min t363.toNat 16) = ji31 := hji31
          have hji31z : t363 ≤ 16 → (65280 / 2 ^ t363.toNat) = ji31 := shr_small hji31
          obtain ⟨y365, hy365⟩ : ∃ y_ : List Int, y_ = (x5_2.set (x25_2 : Int).toNat (Go.bits .and .u8 (rd x5_2 x25_2) ((ji31) % 256))) := ⟨_, rfl⟩
          replace H : (impl_Cut.l0 k2 a1 y365 (t360.length : Int) (wrap64 (x25_2 + 1))) = some (r1, r2, r3, r4, r5) := by first | (rw [hy365]; with_reducible exact H) | (have H2_ := (Option.bind_some _ _).symm.trans H; rw [hy365]; with_reducible exact H2_) | (have H2_ := (Option.bind_some _ _).symm.trans H; with_reducible exact H2_) | with_reducible exact H | (rw [hy365]; exact H) | exact H
          have Ny365 := Gv.a0 hy365
          clear hy365
          have H' := Gv.a0 H
          clear H
          try go_wp2_with (first | ((with_reducible refine gate_callee (f := 77) rfl ?_); refine goesL_ (some 32) rfl rfl Try.func77 (by kernel_rfl) rfl #[.int .i64 (wrap64 (a1 - (wrap64 (8 * x25_2)))), .int .i64 0, .int .i64 8] rfl Gv.lm ?_; (with_reducible refine (impl_Clip.calls (wrap64 (a1 - (wrap64 (8 * x25_2)))) 0 8 t363 _ A27.out).mono ?_); rintro e w' ⟨rfl, ⟨nd, rfl⟩⟩; refine ⟨_, rfl, ?_⟩; (try (rw [drewN_self wr]; generalize hq_ : World.drewN wr _ = wr; have n0_ : Aside0 (Kd.R (Kd.int .u8) 5 wr w.heap.size (fun _ => True) (.slice Ao25 x5_2.length co25) x5_2) := ⟨by rw [← hq_]; exact (Gv.kr HO_5.out)⟩; have n1_ : Aside0 (wr.heap[gb355]? = some (.cells #[.int .i64 a0_0, .int .i64 a0_1, .int .i64 a0_2, .int .i64 a0_3, .int .i64 a0_4] 34 (0, 0))) := ⟨by rw [← hq_]; exact Gv.bk⟩; have n2_ : Aside0 (wr.heap[gb356]? = some (.cells #[.int .i64 0, .int .i64 0, .int .i64 0, .int .i64 0, .int .i64 0] 34 (0, 0))) := ⟨by rw [← hq_]; exact Gv.bk⟩; have n3_ : Aside0 (Below w.heap.size w wr) := ⟨by rw [← hq_]; exact Gv.bw⟩; clear HO_5 BK355 BK356 HB hq_; have HO_5 := n0_; have BK355 := n1_; have BK356 := n2_; have HB := n3_; clear n0_ n1_ n2_ n3_))))
          have n0_ := Gv.a0 (Kd.R_drew HO_5.out)
          have n1_ := Gv.a0 (blk_drew BK355.out)
          have n2_ := Gv.a0 (blk_drew BK356.out)
          have n3_ := Gv.a0 (below_drew1 HB.out)
          clear HO_5
          clear BK355
          clear BK356
          clear HB
          have HO_5 := n0_
          have BK355 := n1_
          have BK356 := n2_
          have HB := n3_
          clear n0_ n1_ n2_ n3_
          have p364 : 0 ≤ (x25_2 : Int) := of_decide_eq_true (by first | (with_reducible assumption) | assumption)
          have q364 : x25_2 < (x5_2.length : Int) := of_decide_eq_true (by first | (with_reducible assumption) | assumption)
          obtain ⟨ad364, e364, hx364_0⟩ := Kd.at_int (Kd.R_reads' HO_5.out).2.2 x25_2 p364 q364
          cases e364
          replace p364 := eq_true p364
          replace q364 := eq_true q364
          have p32 : 0 ≤ (x25_2 : Int) := of_decide_eq_true (by first | (with_reducible assumption) | assumption)
          have q32 : (x25_2 : Int) < ((x5_2.length : Int) : Int) := of_decide_eq_true (by first | (with_reducible assumption) | assumption)
          obtain ⟨go32, co32, eo32, gb32, gl32, cl32, HG32⟩ := Kd.R_form HO_5.out (by omega)
          (first | cases eo32 | (injection eo32 with ea_ en_ ec_; (first | subst ea_ | (injection ea_ with ea_; subst ea_)); subst ec_; clear en_))
          have GB32 := Gv.a0 gb32
          have GG32 := Gv.a0 HG32
          clear gb32 gl32 HG32
          (first | simp only [add_plain] at hx364_0 | skip)
          obtain ⟨hx32_0, hf32_0⟩ := Kd.R_celln 0 HO_5.out (x25_2 : Int) p32 q32
          replace p32 := eq_true p32
          replace q32 := eq_true q32
          have HP34 := Kd.R_putn HO_5.out (x25_2 : Int) (Go.bits .and .u8 (rd x5_2 x25_2) ((ji31) % 256))
          rw [← Ny365.out] at HP34
          have HQ34 := Gv.a0 HP34
          clear HP34
          refine start_ (n := 10) (S := fun w' => w'.cell? ⟨go32, (x25_2).toNat, none⟩ = some (.int .u8 (rd x5_2 x25_2))) (ds := [9]) #[false, false, false, false, false, false, false, false, false, false] (by kernel_rfl) rfl rfl (hx364_0) (fun hHeld => ?_); refine with_tabW impl_Cut.tab8 impl_Cut.bits8 (fun HT_ HW_ => ?_)
          generalize wr.drew = w33 at HO_5 BK355 BK356 HB GG32 HQ34 hf32_0 hx32_0 hx364_0 hHeld ⊢
          refine Gv.pu 0 (some 33) HT_ ?_
          refine Gv.pu 1 (some 34) HT_ ?_
          refine Gv.pu 2 (some 35) HT_ ?_
          refine Gv.pu 4 (some 37) HT_ ?_
          refine Gv.pu 5 (some 38) HT_ ?_
          refine Gv.pu 6 (some 39) HT_ ?_
          refine take_ (i := 3) (N := some 36) (v := ?_) (a' := ?_) #[true, true, true, true, true, true, true, false, false, false] rfl rfl (take_ofW HT_.out HW_.out (by kernel_rfl)) (fun _ _ _ h => h) (Or.inl ⟨by rfl, ?_⟩) hHeld ?_ ?_
          rotate_left
          ·intro w' s0
           go_simp
           with_reducible rfl
          rotate_left
          ·simp only [Act.put, List.setIfInBounds_toArray, List.set_cons_zero, List.set_cons_succ, i64_w, i32_w]
           rfl
          refine Gv.pu 7 (some 40) HT_ ?_
          refine Gv.pu 8 (some 41) HT_ ?_
          refine last_ (i := 9) (N := none) #[true, true, true, true, true, true, true, true, true, true] rfl rfl (one_of HT_.out (by kernel_rfl)) (by decide) (fun K hK => ?_)
          refine skip_ (w1 := ?_) (by rfl) rfl ?_ ?_
          rotate_left
          ·go_simp
           rfl
          refine hK.out _ _ ?_
          clear hK K
          refine done_ (done_of HT_.out (by kernel_rfl)) ?_
          try go_wp2
          (try simp only [← hl5_2])
          go_roundg k2
          case measure => have := HJ2.out; have := HK2.out; omega
          case rel => exact ⟨(y365), (wrap64 (x25_2 + 1)), Gv.rq, H', ⟨by have := HJ2.out; have := HK2.out; omega⟩, ⟨by (try simp only [hl5_2]); (with_reducible repeat (first | apply Kd.R_alloc | apply Kd.R_drewN | apply Kd.R_drew)); exact HQ34.out⟩, ⟨by (try simp only [hl5_2]); (with_reducible repeat (first | refine blk_drewN ?_ _ | refine blk_drew ?_ | refine blk_alloc ?_ _)); refine blk_far ?_ (by have h_ := Kd.R_ne HO_5.out BK355.out (by decide); intro e_; exact h_ (by rw [e_]; rfl)) _; (with_reducible repeat (first | refine blk_drewN ?_ _ | refine blk_drew ?_ | refine blk_alloc ?_ _)); exact BK355.out⟩, ⟨by (try simp only [hl5_2]); (with_reducible repeat (first | refine blk_drewN ?_ _ | refine blk_drew ?_ | refine blk_alloc ?_ _)); refine blk_far ?_ (by have h_ := Kd.R_ne HO_5.out BK356.out (by decide); intro e_; exact h_ (by rw [e_]; rfl)) _; (with_reducible repeat (first | refine blk_drewN ?_ _ | refine blk_drew ?_ | refine blk_alloc ?_ _)); exact BK356.out⟩, ⟨Gv.bw⟩⟩
         ·rw [if_neg c30] at H
          exact absurd H (by simp)
        ·rw [if_neg c29] at H
         exact absurd H (by simp)
       ·rw [if_neg c28] at H
        exact absurd H (by simp)
      ·rw [if_neg c26] at H
       have c26b0 : decide (x25_2 < (t360.length : Int)) = false := decide_eq_false c26
       (try (have c26b9 := c26b0; rw [hl5_2] at c26b9))
       (try (have c26b8 := c26b0; rw [← hl5_2] at c26b8))
       clear c26
       replace H := Option.bind_eq_some_iff.mp H
       obtain ⟨⟨t366, t367, t368, t369, t370, t371⟩, A350, H⟩ := H
       replace H : (some (t366, t367, t368, t369, t370)) = some (r1, r2, r3, r4, r5) := H
       have A35 := Gv.a0 A350
       clear A350
       simp only [Option.some.injEq, Prod.mk.injEq] at H
       obtain ⟨rfl, rfl, rfl, rfl, rfl⟩ := H
       go_wp2_with (first | ((with_reducible refine gate_callee (f := 78) rfl ?_); refine goesL_ (some 45) rfl rfl Try.func78 (by kernel_rfl) rfl #[.slice Ao25 x5_2.length co25] rfl Gv.lm ?_; (with_reducible refine (impl_AddrOf.calls k2 _ _ x5_2 t366 t367 t368 t369 t370 t371 _ ?side1 ?side2 A35.out).mono ?_); (case side1 => repeat (first | exact (Kd.R_reads' HO_5.out).2.2 | (with_reducible refine Kd.C_alloc ?_ _) | (with_reducible refine Kd.C_drewN ?_ _) | (with_reducible refine Kd.C_drew ?_))); (case side2 => exact (Kd.R_reads' HO_5.out).2.1); rintro e w36 ⟨rfl, hb⟩; refine ⟨_, rfl, ?_⟩; have n0_ := Gv.a0 (Kd.R_below (Gv.kr HO_5.out) hb); have n1_ := Gv.a0 (Gv.bb BK355.out hb); have n2_ := Gv.a0 (Gv.bb BK356.out hb); have n3_ := Gv.a0 (below_step Gv.bw hb); clear HO_5; clear BK355; clear BK356; clear HB; have HO_5 := n0_; have BK355 := n1_; have BK356 := n2_; have HB := n3_; clear n0_ n1_ n2_ n3_; (try clear hb); (try clear hb2); (try clear hk); (try clear hi)) | ((with_reducible refine gate_dst (N := 8) rfl ?_); refine box_event ?hg (N := 8) ?hd (cs := #[.int .i64 0, .int .i64 0, .int .i64 0, .int .i64 0, .int .i64 0]) (t := 34) ?hr ?_; (case hd => rfl); (case hg => rfl); (case hr => first | (go_simp; done) | (go_simp; rfl)); intro gb372 hg w37 hbox hb; have n0_ := Gv.a0 (Kd.R_below (Gv.kr HO_5.out) hb); have n1_ := Gv.a0 (Gv.bb BK355.out hb); have n2_ := Gv.a0 (Gv.bb BK356.out hb); have n3_ := Gv.a0 (below_step Gv.bw hb); have n4_ := Gv.a0 (hbox); have n5_ := Gv.a0 ((Gv.ble hg Gv.bw : w.heap.size ≤ gb372)); have n6_ := Gv.a0 ((Gv.ble hg Gv.bw : w.heap.size ≤ gb372)); have n7_ := Gv.a0 ((Gv.nlt hg (Gv.kb BK355.out) : gb355 ≠ gb372)); have n8_ := Gv.a0 ((Gv.ngt hg (Gv.kb BK355.out) : gb372 ≠ gb355)); have n9_ := Gv.a0 ((Gv.nlt hg (Gv.kb BK356.out) : gb356 ≠ gb372)); have n10_ := Gv.a0 ((Gv.ngt hg (Gv.kb BK356.out) : gb372 ≠ gb356)); clear HO_5; clear BK355; clear BK356; clear HB; have HO_5 := n0_; have BK355 := n1_; have BK356 := n2_; have HB := n3_; have BK372 := n4_; have GW372 := n5_; have GE372 := n6_; have NB355_372 := n7_; have NB372_355 := n8_; have NB356_372 := n9_; have NB372_356 := n10_; clear n0_ n1_ n2_ n3_ n4_ n5_ n6_ n7_ n8_ n9_ n10_; clear hb hbox hg; have hnb38 := NB372_355.out; have hnc38 := NB355_372.out; have hnb39 := NB372_356.out; have hnc39 := NB356_372.out; obtain ⟨hcz40_0, hcz40_1, hcz40_2, hcz40_3, hcz40_4⟩ := Gv.c5 BK372.out; obtain ⟨hfz40_0, hfz40_1, hfz40_2, hfz40_3, hfz40_4⟩ := Gv.f5 BK372.out; have hnb41 := NB356_355.out; have hnc41 := NB355_356.out; obtain ⟨hcz42_0, hcz42_1, hcz42_2, hcz42_3, hcz42_4⟩ := Gv.c5 BK356.out; obtain ⟨hfz42_0, hfz42_1, hfz42_2, hfz42_3, hfz42_4⟩ := Gv.f5 BK356.out))
       refine bodyPost_ret (results_cell_row rfl _ _ gb356 34 #[.int .i64 t366, .int .i64 t367, .int .i64 t368, .int .i64 t369, .int .i64 t370] (0, 0) _ rfl (by (with_reducible repeat (first | refine blk_drewN ?_ _ | refine blk_drew ?_ | refine blk_alloc ?_ _)); refine blk_put (cs := #[.int .i64 t366, .int .i64 t367, .int .i64 t368, .int .i64 t369, .int .i64 0]) ?_ 4 _ rfl; (with_reducible repeat (first | refine blk_drewN ?_ _ | refine blk_drew ?_ | refine blk_alloc ?_ _)); refine blk_put (cs := #[.int .i64 t366, .int .i64 t367, .int .i64 t368, .int .i64 0, .int .i64 0]) ?_ 3 _ rfl; (with_reducible repeat (first | refine blk_drewN ?_ _ | refine blk_drew ?_ | refine blk_alloc ?_ _)); refine blk_put (cs := #[.int .i64 t366, .int .i64 t367, .int .i64 0, .int .i64 0, .int .i64 0]) ?_ 2 _ rfl; (with_reducible repeat (first | refine blk_drewN ?_ _ | refine blk_drew ?_ | refine blk_alloc ?_ _)); refine blk_put (cs := #[.int .i64 t366, .int .i64 0, .int .i64 0, .int .i64 0, .int .i64 0]) ?_ 1 _ rfl; (with_reducible repeat (first | refine blk_drewN ?_ _ | refine blk_drew ?_ | refine blk_alloc ?_ _)); refine blk_put (cs := #[.int .i64 0, .int .i64 0, .int .i64 0, .int .i64 0, .int .i64 0]) ?_ 0 _ rfl; (with_reducible repeat (first | refine blk_drewN ?_ _ | refine blk_drew ?_ | refine blk_alloc ?_ _)); refine blk_far ?_ NB356_372.out _; (with_reducible repeat (first | refine blk_drewN ?_ _ | refine blk_drew ?_ | refine blk_alloc ?_ _)); refine blk_far ?_ NB356_372.out _; (with_reducible repeat (first | refine blk_drewN ?_ _ | refine blk_drew ?_ | refine blk_alloc ?_ _)); refine blk_far ?_ NB356_372.out _; (with_reducible repeat (first | refine blk_drewN ?_ _ | refine blk_drew ?_ | refine blk_alloc ?_ _)); refine blk_far ?_ NB356_372.out _; (with_reducible repeat (first | refine blk_drewN ?_ _ | refine blk_drew ?_ | refine blk_alloc ?_ _)); refine blk_far ?_ NB356_372.out _; (with_reducible repeat (first | refine blk_drewN ?_ _ | refine blk_drew ?_ | refine blk_alloc ?_ _)); exact BK356.out) Try.underlying34 rfl (by kernel_rfl)) rfl ?_
       exact ⟨Gv.rt, Gv.bw⟩

/-! ### impl_PrefixOk: function 47 -/
def impl_PrefixOk.f (k : Nat) (a0_0 : Int) (a0_1 : Int) (a0_2 : Int) (a0_3 : Int) (a0_4 : Int) (a0_5 : Int) : Option (Bool) := (impl_isAny.f a0_0 a0_1 a0_2 a0_3 a0_4 a0_5).bind fun t374 => (if t374 = true then (some true) else ((impl_AddrOk.f a0_0 a0_1 a0_2 a0_3 a0_4).bind fun t375 => (if t375 = true then ((impl_bitsOf.f a0_0 a0_1 a0_2 a0_3 a0_4).bind fun t376 => ((impl_within.f a0_5 0 t376).bind fun t377 => (if t377 = true then ((impl_Cut.f k a0_0 a0_1 a0_2 a0_3 a0_4 a0_5).bind fun bt378 => (some (bt378.1 == a0_0 && (bt378.2.1 == a0_1 && (bt378.2.2.1 == a0_2 && (bt378.2.2.2.1 == a0_3 && (bt378.2.2.2.2 == a0_4))))))) else (some false)))) else (some false))))
theorem impl_PrefixOk.mono : ∀ a0 a1 a2 a3 a4 a5 k, LeO (impl_PrefixOk.f k a0 a1 a2 a3 a4 a5) (impl_PrefixOk.f (k + 1) a0 a1 a2 a3 a4 a5) := by
 intro a0 a1 a2 a3 a4 a5 k
 unfold impl_PrefixOk.f
 repeat' first
   | (with_reducible exact impl_Cut.mono _ _ _ _ _ _ _)
   | (with_reducible exact LeO.refl _)
   | (with_reducible exact LeO.none _)
   | (with_reducible refine LeO.ite ?_ ?_)
   | (with_reducible refine LeO.bind ?_ (fun _ => ?_))
   | exact impl_Cut.mono _ _ _ _ _ _ _
   | exact LeO.none _
   | refine LeO.ite ?_ ?_
   | refine LeO.bind ?_ (fun _ => ?_)
def impl_PrefixOk.T1 : Bool × List (List Nat × List Nat) := (true, [([], []), ([0], [0]), ([1, 1], [1]), ([2], [2]), ([3, 2], [2, 3]), ([4, 2, 2], [2, 4]), ([5, 5, 2], [2, 5]), ([6], [6]), ([7, 6], [6, 7]), ([6], [6]), ([9, 6], [6, 9]), ([10, 6, 6], [6, 10]), ([8, 11, 11, 6], [6, 8, 11]), ([6, 12, 2], [2, 6, 12]), ([13, 12, 2], [2, 13]), ([14], [14]), ([15, 14], [14, 15]), ([14], [14]), ([17, 14], [14, 17]), ([16, 18, 14, 14], [14, 16, 18]), ([14], [14]), ([20, 14], [14, 20]), ([19, 21, 14], [14, 19, 21]), ([14, 22, 2], [2, 14, 22]), ([2, 23], [2, 23]), ([24, 19, 0, 1, 2, 3, 4, 5, 6, 7, 8, 9, 10, 11, 12, 13, 14, 15, 16, 17, 18, 19, 20, 21, 22, 23, 24], [24])])
def impl_PrefixOk.B1 : List Nat := [0, 1, 3, 7, 15, 31, 63, 127, 255, 127, 639, 1663, 4095, 8191, 16383, 32767, 65535, 32767, 163839, 524287, 32767, 1081343, 4194303, 8388607, 16777215, 33554431]
theorem impl_PrefixOk.tab1 : rtab .any (opsOf Try.f47 1) = impl_PrefixOk.T1 := by kernel_rfl
theorem impl_PrefixOk.bits1 : waitsOk impl_PrefixOk.T1.2 impl_PrefixOk.B1 = true := by kernel_rfl
set_option maxHeartbeats 8000000 in
set_option maxRecDepth 100000 in
theorem impl_PrefixOk.calls (k : Nat) (a0_0 : Int) (a0_1 : Int) (a0_2 : Int) (a0_3 : Int) (a0_4 : Int) (a0_5 : Int) (r : Bool) (w : World) (h : impl_PrefixOk.f k a0_0 a0_1 a0_2 a0_3 a0_4 a0_5 = some r) :
  Calls Try.prog 47 #[.agg #[.int .i64 a0_0, .int .i64 a0_1, .int .i64 a0_2, .int .i64 a0_3, .int .i64 a0_4, .int .i64 a0_5]] w fun e w' => e = .returned (.bool r) ∧ Below w.heap.size w w' := by
 have hu53 := Try.underlying53
 have hu34 := Try.underlying34
 have HB := Gv.a0 (Below.refl w.heap.size w)
 have H : ((impl_isAny.f a0_0 a0_1 a0_2 a0_3 a0_4 a0_5).bind fun t374 => (if t374 = true then (some true) else ((impl_AddrOk.f a0_0 a0_1 a0_2 a0_3 a0_4).bind fun t375 => (if t375 = true then ((impl_bitsOf.f a0_0 a0_1 a0_2 a0_3 a0_4).bind fun t376 => ((impl_within.f a0_5 0 t376).bind fun t377 => (if t377 = true then ((impl_Cut.f k a0_0 a0_1 a0_2 a0_3 a0_4 a0_5).bind fun bt378 => (some (bt378.1 == a0_0 && (bt378.2.1 == a0_1 && (bt378.2.2.1 == a0_2 && (bt378.2.2.2.1 == a0_3 && (bt378.2.2.2.2 == a0_4))))))) else (some false)))) else (some false))))) = some r := h
 clear h
 replace H := Option.bind_eq_some_iff.mp H
 obtain ⟨t374, A20, H⟩ := H
 replace H : (if t374 = true then (some true) else ((impl_AddrOk.f a0_0 a0_1 a0_2 a0_3 a0_4).bind fun t375 => (if t375 = true then ((impl_bitsOf.f a0_0 a0_1 a0_2 a0_3 a0_4).bind fun t376 => ((impl_within.f a0_5 0 t376).bind fun t377 => (if t377 = true then ((impl_Cut.f k a0_0 a0_1 a0_2 a0_3 a0_4 a0_5).bind fun bt378 => (some (bt378.1 == a0_0 && (bt378.2.1 == a0_1 && (bt378.2.2.1 == a0_2 && (bt378.2.2.2.1 == a0_3 && (bt378.2.2.2.2 == a0_4))))))) else (some false)))) else (some false)))) = some r := H
 have A2 := Gv.a0 A20
 clear A20
 by_cases c3 : t374 = true
 ·subst c3
  have H1 : (some true) = some r := by rw [if_pos rfl] at H; exact H
  clear H
  have H := H1
  clear H1
  obtain rfl := Option.some.inj H
  go_enter Try.func47, Try.ntmps47
  try go_wp2_with (first | ((with_reducible refine gate_dst (N := 1) rfl ?_); refine box_event ?hg (N := 1) ?hd (cs := #[.int .i64 a0_0, .int .i64 a0_1, .int .i64 a0_2, .int .i64 a0_3, .int .i64 a0_4, .int .i64 a0_5]) (t := 53) ?hr ?_; (case hd => rfl); (case hg => rfl); (case hr => first | (go_simp; done) | (go_simp; rfl)); intro gb373 hg w4 hbox hb; have n0_ := Gv.a0 (below_step Gv.bw hb); have n1_ := Gv.a0 (hbox); have n2_ := Gv.a0 ((Gv.ble hg Gv.bw : w.heap.size ≤ gb373)); have n3_ := Gv.a0 ((Gv.ble hg Gv.bw : w.heap.size ≤ gb373)); clear HB; have HB := n0_; have BK373 := n1_; have GW373 := n2_; have GE373 := n3_; clear n0_ n1_ n2_ n3_; clear hb hbox hg))
  have n0_ := Gv.a0 (blk_drew BK373.out)
  have n1_ := Gv.a0 (below_drew1 HB.out)
  clear BK373
  clear HB
  have BK373 := n0_
  have HB := n1_
  clear n0_ n1_
  refine start_ (n := 26) (S := fun w' => w'.cell? ⟨gb373, 0, none⟩ = some (.int .i64 a0_0) ∧ w'.cell? ⟨gb373, 1, none⟩ = some (.int .i64 a0_1) ∧ w'.cell? ⟨gb373, 2, none⟩ = some (.int .i64 a0_2) ∧ w'.cell? ⟨gb373, 3, none⟩ = some (.int .i64 a0_3) ∧ w'.cell? ⟨gb373, 4, none⟩ = some (.int .i64 a0_4) ∧ w'.cell? ⟨gb373, 5, none⟩ = some (.int .i64 a0_5)) (ds := []) #[false, false, false, false, false, false, false, false, false, false, false, false, false, false, false, false, false, false, false, false, false, false, false, false, false, false] (by kernel_rfl) rfl rfl ⟨(blk_cell BK373.out 0).trans rfl, (blk_cell BK373.out 1).trans rfl, (blk_cell BK373.out 2).trans rfl, (blk_cell BK373.out 3).trans rfl, (blk_cell BK373.out 4).trans rfl, (blk_cell BK373.out 5).trans rfl⟩ (fun hHeld => ?_); refine with_tabW impl_PrefixOk.tab1 impl_PrefixOk.bits1 (fun HT_ HW_ => ?_)
  generalize w4.drew = w5 at BK373 HB hHeld ⊢
  refine take_ (i := 0) (N := some 3) (v := ?_) (a' := ?_) #[true, false, false, false, false, false, false, false, false, false, false, false, false, false, false, false, false, false, false, false, false, false, false, false, false, false] rfl rfl (take_ofW HT_.out HW_.out (by kernel_rfl)) (fun _ _ _ h => h) (Or.inl ⟨by rfl, ?_⟩) hHeld ?_ ?_
  rotate_left
  ·rintro w' ⟨s0, s1, s2, s3, s4, s5⟩
   go_simp
   with_reducible rfl
  rotate_left
  ·simp only [Act.put, List.setIfInBounds_toArray, List.set_cons_zero, List.set_cons_succ, i64_w, i32_w]
   rfl
  refine one_ (i := 1) (N := some 4) #[true, true, false, false, false, false, false, false, false, false, false, false, false, false, false, false, false, false, false, false, false, false, false, false, false, false] rfl rfl (one_of HT_.out (by kernel_rfl)) (by decide) (fun K hK => ?_)
  refine goes_ Try.func64 (by kernel_rfl) rfl #[.agg #[.int .i64 a0_0, .int .i64 a0_1, .int .i64 a0_2, .int .i64 a0_3, .int .i64 a0_4, .int .i64 a0_5]] (by rfl) rfl rfl Gv.lm ?_
  with_reducible refine (impl_isAny.calls a0_0 a0_1 a0_2 a0_3 a0_4 a0_5 true _ A2.out).mono ?_
  rintro e w6 ⟨rfl, hb⟩
  refine ⟨_, rfl, ?_⟩
  have n0_ := Gv.a0 (Gv.bb BK373.out hb)
  have n1_ := Gv.a0 (below_step Gv.bw hb)
  clear BK373
  clear HB
  have BK373 := n0_
  have HB := n1_
  clear n0_ n1_
  (try clear hb)
  (try clear hb2)
  (try clear hk)
  (try clear hi)
  refine hK.out _ _ ⟨(blk_cell BK373.out 0).trans rfl, (blk_cell BK373.out 1).trans rfl, (blk_cell BK373.out 2).trans rfl, (blk_cell BK373.out 3).trans rfl, (blk_cell BK373.out 4).trans rfl, (blk_cell BK373.out 5).trans rfl⟩ (fun hHeld => ?_)
  clear hK K
  refine norm_ (a' := ?_) ?_ ?_
  rotate_left
  ·show Act.put _ (some 4) _ = _
   simp only [Act.put, List.setIfInBounds_toArray, List.set_cons_zero, List.set_cons_succ, i64_w, i32_w]
   rfl
  refine Gv.pu 2 (some 5) HT_ ?_
  refine Gv.pn 3 (some 6) HT_ ?_
  refine Gv.pn 4 (some 7) HT_ ?_
  refine Gv.pn 5 (some 8) HT_ ?_
  refine Gv.pn 6 (some 9) HT_ ?_
  refine Gv.pn 7 (some 10) HT_ ?_
  refine Gv.pn 8 (some 11) HT_ ?_
  refine Gv.pn 9 (some 12) HT_ ?_
  refine Gv.pn 10 (some 13) HT_ ?_
  refine Gv.pn 11 (some 14) HT_ ?_
  refine Gv.pn 12 (some 15) HT_ ?_
  refine Gv.pn 13 (some 16) HT_ ?_
  refine Gv.pn 14 (some 17) HT_ ?_
  refine Gv.pn 15 (some 18) HT_ ?_
  refine Gv.pn 16 (some 19) HT_ ?_
  refine Gv.pn 17 (some 20) HT_ ?_
  refine Gv.pn 18 (some 21) HT_ ?_
  refine Gv.pn 19 (some 22) HT_ ?_
  refine Gv.pn 20 (some 23) HT_ ?_
  refine Gv.pn 21 (some 24) HT_ ?_
  refine Gv.pn 22 (some 25) HT_ ?_
  refine Gv.pn 23 (some 26) HT_ ?_
  refine Gv.pu 24 (some 27) HT_ ?_
  refine Gv.pu 25 (some 2) HT_ ?_
  refine done_ (done_of HT_.out (by kernel_rfl)) ?_
  try go_wp2
  go_ret
  exact ⟨Gv.rt, Gv.bw⟩
 ·replace c3 := Bool.eq_false_iff.mpr c3
  subst c3
  have H1 : ((impl_AddrOk.f a0_0 a0_1 a0_2 a0_3 a0_4).bind fun t375 => (if t375 = true then ((impl_bitsOf.f a0_0 a0_1 a0_2 a0_3 a0_4).bind fun t376 => ((impl_within.f a0_5 0 t376).bind fun t377 => (if t377 = true then ((impl_Cut.f k a0_0 a0_1 a0_2 a0_3 a0_4 a0_5).bind fun bt378 => (some (bt378.1 == a0_0 && (bt378.2.1 == a0_1 && (bt378.2.2.1 == a0_2 && (bt378.2.2.2.1 == a0_3 && (bt378.2.2.2.2 == a0_4))))))) else (some false)))) else (some false))) = some r := by rw [if_neg (show ¬ (false = true) by decide)] at H; exact H
  clear H
  have H := H1
  clear H1
  replace H := Option.bind_eq_some_iff.mp H
  obtain ⟨t375, A70, H⟩ := H
  replace H : (if t375 = true then ((impl_bitsOf.f a0_0 a0_1 a0_2 a0_3 a0_4).bind fun t376 => ((impl_within.f a0_5 0 t376).bind fun t377 => (if t377 = true then ((impl_Cut.f k a0_0 a0_1 a0_2 a0_3 a0_4 a0_5).bind fun bt378 => (some (bt378.1 == a0_0 && (bt378.2.1 == a0_1 && (bt378.2.2.1 == a0_2 && (bt378.2.2.2.1 == a0_3 && (bt378.2.2.2.2 == a0_4))))))) else (some false)))) else (some false)) = some r := H
  have A7 := Gv.a0 A70
  clear A70
  by_cases c8 : t375 = true
  ·subst c8
   have H1 : ((impl_bitsOf.f a0_0 a0_1 a0_2 a0_3 a0_4).bind fun t376 => ((impl_within.f a0_5 0 t376).bind fun t377 => (if t377 = true then ((impl_Cut.f k a0_0 a0_1 a0_2 a0_3 a0_4 a0_5).bind fun bt378 => (some (bt378.1 == a0_0 && (bt378.2.1 == a0_1 && (bt378.2.2.1 == a0_2 && (bt378.2.2.2.1 == a0_3 && (bt378.2.2.2.2 == a0_4))))))) else (some false)))) = some r := by rw [if_pos rfl] at H; exact H
   clear H
   have H := H1
   clear H1
   replace H := Option.bind_eq_some_iff.mp H
   obtain ⟨t376, A90, H⟩ := H
   replace H : ((impl_within.f a0_5 0 t376).bind fun t377 => (if t377 = true then ((impl_Cut.f k a0_0 a0_1 a0_2 a0_3 a0_4 a0_5).bind fun bt378 => (some (bt378.1 == a0_0 && (bt378.2.1 == a0_1 && (bt378.2.2.1 == a0_2 && (bt378.2.2.2.1 == a0_3 && (bt378.2.2.2.2 == a0_4))))))) else (some false))) = some r := H
   have A9 := Gv.a0 A90
   clear A90
   replace H := Option.bind_eq_some_iff.mp H
   obtain ⟨t377, A100, H⟩ := H
   replace H : (if t377 = true then ((impl_Cut.f k a0_0 a0_1 a0_2 a0_3 a0_4 a0_5).bind fun bt378 => (some (bt378.1 == a0_0 && (bt378.2.1 == a0_1 && (bt378.2.2.1 == a0_2 && (bt378.2.2.2.1 == a0_3 && (bt378.2.2.2.2 == a0_4))))))) else (some false)) = some r := H
   have A10 := Gv.a0 A100
   clear A100
   by_cases c11 : t377 = true
   ·subst c11
    have H1 : ((impl_Cut.f k a0_0 a0_1 a0_2 a0_3 a0_4 a0_5).bind fun bt378 => (some (bt378.1 == a0_0 && (bt378.2.1 == a0_1 && (bt378.2.2.1 == a0_2 && (bt378.2.2.2.1 == a0_3 && (bt378.2.2.2.2 == a0_4))))))) = some r := by rw [if_pos rfl] at H; exact H
    clear H
    have H := H1
    clear H1
    replace H := Option.bind_eq_some_iff.mp H
    obtain ⟨⟨t378, t379, t380, t381, t382⟩, A120, H⟩ := H
    replace H : (some (t378 == a0_0 && (t379 == a0_1 && (t380 == a0_2 && (t381 == a0_3 && (t382 == a0_4)))))) = some r := H
    have A12 := Gv.a0 A120
    clear A120
    obtain rfl := Option.some.inj H
    go_enter Try.func47, Try.ntmps47
    try go_wp2_with (first | ((with_reducible refine gate_dst (N := 1) rfl ?_); refine box_event ?hg (N := 1) ?hd (cs := #[.int .i64 a0_0, .int .i64 a0_1, .int .i64 a0_2, .int .i64 a0_3, .int .i64 a0_4, .int .i64 a0_5]) (t := 53) ?hr ?_; (case hd => rfl); (case hg => rfl); (case hr => first | (go_simp; done) | (go_simp; rfl)); intro gb373 hg w13 hbox hb; have n0_ := Gv.a0 (below_step Gv.bw hb); have n1_ := Gv.a0 (hbox); have n2_ := Gv.a0 ((Gv.ble hg Gv.bw : w.heap.size ≤ gb373)); have n3_ := Gv.a0 ((Gv.ble hg Gv.bw : w.heap.size ≤ gb373)); clear HB; have HB := n0_; have BK373 := n1_; have GW373 := n2_; have GE373 := n3_; clear n0_ n1_ n2_ n3_; clear hb hbox hg))
    have n0_ := Gv.a0 (blk_drew BK373.out)
    have n1_ := Gv.a0 (below_drew1 HB.out)
    clear BK373
    clear HB
    have BK373 := n0_
    have HB := n1_
    clear n0_ n1_
    refine start_ (n := 26) (S := fun w' => w'.cell? ⟨gb373, 0, none⟩ = some (.int .i64 a0_0) ∧ w'.cell? ⟨gb373, 1, none⟩ = some (.int .i64 a0_1) ∧ w'.cell? ⟨gb373, 2, none⟩ = some (.int .i64 a0_2) ∧ w'.cell? ⟨gb373, 3, none⟩ = some (.int .i64 a0_3) ∧ w'.cell? ⟨gb373, 4, none⟩ = some (.int .i64 a0_4) ∧ w'.cell? ⟨gb373, 5, none⟩ = some (.int .i64 a0_5)) (ds := []) #[false, false, false, false, false, false, false, false, false, false, false, false, false, false, false, false, false, false, false, false, false, false, false, false, false, false] (by kernel_rfl) rfl rfl ⟨(blk_cell BK373.out 0).trans rfl, (blk_cell BK373.out 1).trans rfl, (blk_cell BK373.out 2).trans rfl, (blk_cell BK373.out 3).trans rfl, (blk_cell BK373.out 4).trans rfl, (blk_cell BK373.out 5).trans rfl⟩ (fun hHeld => ?_); refine with_tabW impl_PrefixOk.tab1 impl_PrefixOk.bits1 (fun HT_ HW_ => ?_)
    generalize w13.drew = w14 at BK373 HB hHeld ⊢
    refine take_ (i := 0) (N := some 3) (v := ?_) (a' := ?_) #[true, false, false, false, false, false, false, false, false, false, false, false, false, false, false, false, false, false, false, false, false, false, false, false, false, false] rfl rfl (take_ofW HT_.out HW_.out (by kernel_rfl)) (fun _ _ _ h => h) (Or.inl ⟨by rfl, ?_⟩) hHeld ?_ ?_
    rotate_left
    ·rintro w' ⟨s0, s1, s2, s3, s4, s5⟩
     go_simp
     with_reducible rfl
    rotate_left
    ·simp only [Act.put, List.setIfInBounds_toArray, List.set_cons_zero, List.set_cons_succ, i64_w, i32_w]
     rfl
    refine one_ (i := 1) (N := some 4) #[true, true, false, false, false, false, false, false, false, false, false, false, false, false, false, false, false, false, false, false, false, false, false, false, false, false] rfl rfl (one_of HT_.out (by kernel_rfl)) (by decide) (fun K hK => ?_)
    refine goes_ Try.func64 (by kernel_rfl) rfl #[.agg #[.int .i64 a0_0, .int .i64 a0_1, .int .i64 a0_2, .int .i64 a0_3, .int .i64 a0_4, .int .i64 a0_5]] (by rfl) rfl rfl Gv.lm ?_
    with_reducible refine (impl_isAny.calls a0_0 a0_1 a0_2 a0_3 a0_4 a0_5 false _ A2.out).mono ?_
    rintro e w15 ⟨rfl, hb⟩
    refine ⟨_, rfl, ?_⟩
    have n0_ := Gv.a0 (Gv.bb BK373.out hb)
    have n1_ := Gv.a0 (below_step Gv.bw hb)
    clear BK373
    clear HB
    have BK373 := n0_
    have HB := n1_
    clear n0_ n1_
    (try clear hb)
    (try clear hb2)
    (try clear hk)
    (try clear hi)
    refine hK.out _ _ ⟨(blk_cell BK373.out 0).trans rfl, (blk_cell BK373.out 1).trans rfl, (blk_cell BK373.out 2).trans rfl, (blk_cell BK373.out 3).trans rfl, (blk_cell BK373.out 4).trans rfl, (blk_cell BK373.out 5).trans rfl⟩ (fun hHeld => ?_)
    clear hK K
    refine norm_ (a' := ?_) ?_ ?_
    rotate_left
    ·show Act.put _ (some 4) _ = _
     simp only [Act.put, List.setIfInBounds_toArray, List.set_cons_zero, List.set_cons_succ, i64_w, i32_w]
     rfl
    refine Gv.pu 2 (some 5) HT_ ?_
    refine Gv.pu 3 (some 6) HT_ ?_
    refine take_ (i := 4) (N := some 7) (v := ?_) (a' := ?_) #[true, true, true, true, true, false, false, false, false, false, false, false, false, false, false, false, false, false, false, false, false, false, false, false, false, false] rfl rfl (take_ofW HT_.out HW_.out (by kernel_rfl)) (fun _ _ _ h => h) (Or.inl ⟨by rfl, ?_⟩) hHeld ?_ ?_
    rotate_left
    ·rintro w' ⟨s0, s1, s2, s3, s4, s5⟩
     go_simp
     with_reducible rfl
    rotate_left
    ·simp only [Act.put, List.setIfInBounds_toArray, List.set_cons_zero, List.set_cons_succ, i64_w, i32_w]
     rfl
    refine one_ (i := 5) (N := some 8) #[true, true, true, true, true, true, false, false, false, false, false, false, false, false, false, false, false, false, false, false, false, false, false, false, false, false] rfl rfl (one_of HT_.out (by kernel_rfl)) (by decide) (fun K hK => ?_)
    refine goes_ Try.func65 (by kernel_rfl) rfl #[.agg #[.int .i64 a0_0, .int .i64 a0_1, .int .i64 a0_2, .int .i64 a0_3, .int .i64 a0_4]] (by rfl) rfl rfl Gv.lm ?_
    with_reducible refine (impl_AddrOk.calls a0_0 a0_1 a0_2 a0_3 a0_4 true _ A7.out).mono ?_
    rintro e w16 ⟨rfl, hb⟩
    refine ⟨_, rfl, ?_⟩
    have n0_ := Gv.a0 (Gv.bb BK373.out hb)
    have n1_ := Gv.a0 (below_step Gv.bw hb)
    clear BK373
    clear HB
    have BK373 := n0_
    have HB := n1_
    clear n0_ n1_
    (try clear hb)
    (try clear hb2)
    (try clear hk)
    (try clear hi)
    refine hK.out _ _ ⟨(blk_cell BK373.out 0).trans rfl, (blk_cell BK373.out 1).trans rfl, (blk_cell BK373.out 2).trans rfl, (blk_cell BK373.out 3).trans rfl, (blk_cell BK373.out 4).trans rfl, (blk_cell BK373.out 5).trans rfl⟩ (fun hHeld => ?_)
    clear hK K
    refine norm_ (a' := ?_) ?_ ?_
    rotate_left
    ·show Act.put _ (some 8) _ = _
     simp only [Act.put, List.setIfInBounds_toArray, List.set_cons_zero, List.set_cons_succ, i64_w, i32_w]
     rfl
    refine Gv.pu 6 (some 9) HT_ ?_
    refine Gv.pu 7 (some 10) HT_ ?_
    refine Gv.pu 9 (some 12) HT_ ?_
    refine take_ (i := 8) (N := some 11) (v := ?_) (a' := ?_) #[true, true, true, true, true, true, true, true, true, true, false, false, false, false, false, false, false, false, false, false, false, false, false, false, false, false] rfl rfl (take_ofW HT_.out HW_.out (by kernel_rfl)) (fun _ _ _ h => h) (Or.inl ⟨by rfl, ?_⟩) hHeld ?_ ?_
    rotate_left
    ·rintro w' ⟨s0, s1, s2, s3, s4, s5⟩
     go_simp
     with_reducible rfl
    rotate_left
    ·simp only [Act.put, List.setIfInBounds_toArray, List.set_cons_zero, List.set_cons_succ, i64_w, i32_w]
     rfl
    refine take_ (i := 10) (N := some 13) (v := ?_) (a' := ?_) #[true, true, true, true, true, true, true, true, true, true, true, false, false, false, false, false, false, false, false, false, false, false, false, false, false, false] rfl rfl (take_ofW HT_.out HW_.out (by kernel_rfl)) (fun _ _ _ h => h) (Or.inl ⟨by rfl, ?_⟩) hHeld ?_ ?_
    rotate_left
    ·rintro w' ⟨s0, s1, s2, s3, s4, s5⟩
     go_simp
     with_reducible rfl
    rotate_left
    ·simp only [Act.put, List.setIfInBounds_toArray, List.set_cons_zero, List.set_cons_succ, i64_w, i32_w]
     rfl
    refine one_ (i := 11) (N := some 14) #[true, true, true, true, true, true, true, true, true, true, true, true, false, false, false, false, false, false, false, false, false, false, false, false, false, false] rfl rfl (one_of HT_.out (by kernel_rfl)) (by decide) (fun K hK => ?_)
    refine goes_ Try.func66 (by kernel_rfl) rfl #[.agg #[.int .i64 a0_0, .int .i64 a0_1, .int .i64 a0_2, .int .i64 a0_3, .int .i64 a0_4]] (by rfl) rfl rfl Gv.lm ?_
    with_reducible refine (impl_bitsOf.calls a0_0 a0_1 a0_2 a0_3 a0_4 t376 _ A9.out).mono ?_
    rintro e w17 ⟨rfl, hb⟩
    refine ⟨_, rfl, ?_⟩
    have n0_ := Gv.a0 (Gv.bb BK373.out hb)
    have n1_ := Gv.a0 (below_step Gv.bw hb)
    clear BK373
    clear HB
    have BK373 := n0_
    have HB := n1_
    clear n0_ n1_
    (try clear hb)
    (try clear hb2)
    (try clear hk)
    (try clear hi)
    refine hK.out _ _ ⟨(blk_cell BK373.out 0).trans rfl, (blk_cell BK373.out 1).trans rfl, (blk_cell BK373.out 2).trans rfl, (blk_cell BK373.out 3).trans rfl, (blk_cell BK373.out 4).trans rfl, (blk_cell BK373.out 5).trans rfl⟩ (fun hHeld => ?_)
    clear hK K
    refine norm_ (a' := ?_) ?_ ?_
    rotate_left
    ·show Act.put _ (some 14) _ = _
     simp only [Act.put, List.setIfInBounds_toArray, List.set_cons_zero, List.set_cons_succ, i64_w, i32_w]
     rfl
    refine one_ (i := 12) (N := some 15) #[true, true, true, true, true, true, true, true, true, true, true, true, true, false, false, false, false, false, false, false, false, false, false, false, false, false] rfl rfl (one_of HT_.out (by kernel_rfl)) (by decide) (fun K hK => ?_)
    refine goes_ Try.func46 (by kernel_rfl) rfl #[.int .i64 a0_5, .int .i64 0, .int .i64 t376] (by rfl) rfl rfl Gv.lm ?_
    with_reducible refine (impl_within.calls a0_5 0 t376 true _ A10.out).mono ?_
    rintro e w' ⟨rfl, ⟨nd, rfl⟩⟩
    refine ⟨_, rfl, ?_⟩
    refine hK.out _ _ ⟨(blk_cell BK373.out 0).trans rfl, (blk_cell BK373.out 1).trans rfl, (blk_cell BK373.out 2).trans rfl, (blk_cell BK373.out 3).trans rfl, (blk_cell BK373.out 4).trans rfl, (blk_cell BK373.out 5).trans rfl⟩ (fun hHeld => ?_)
    clear hK K
    refine norm_ (a' := ?_) ?_ ?_
    rotate_left
    ·show Act.put _ (some 15) _ = _
     simp only [Act.put, List.setIfInBounds_toArray, List.set_cons_zero, List.set_cons_succ, i64_w, i32_w]
     rfl
    refine Gv.pu 13 (some 16) HT_ ?_
    refine Gv.pu 14 (some 17) HT_ ?_
    refine Gv.pu 15 (some 18) HT_ ?_
    refine Gv.pu 17 (some 20) HT_ ?_
    refine Gv.pu 20 (some 23) HT_ ?_
    refine take_ (i := 16) (N := some 19) (v := ?_) (a' := ?_) #[true, true, true, true, true, true, true, true, true, true, true, true, true, true, true, true, true, true, false, false, true, false, false, false, false, false] rfl rfl (take_ofW HT_.out HW_.out (by kernel_rfl)) (fun _ _ _ h => h) (Or.inl ⟨by rfl, ?_⟩) hHeld ?_ ?_
    rotate_left
    ·rintro w' ⟨s0, s1, s2, s3, s4, s5⟩
     go_simp
     with_reducible rfl
    rotate_left
    ·simp only [Act.put, List.setIfInBounds_toArray, List.set_cons_zero, List.set_cons_succ, i64_w, i32_w]
     rfl
    refine take_ (i := 18) (N := some 21) (v := ?_) (a' := ?_) #[true, true, true, true, true, true, true, true, true, true, true, true, true, true, true, true, true, true, true, false, true, false, false, false, false, false] rfl rfl (take_ofW HT_.out HW_.out (by kernel_rfl)) (fun _ _ _ h => h) (Or.inl ⟨by rfl, ?_⟩) hHeld ?_ ?_
    rotate_left
    ·rintro w' ⟨s0, s1, s2, s3, s4, s5⟩
     go_simp
     with_reducible rfl
    rotate_left
    ·simp only [Act.put, List.setIfInBounds_toArray, List.set_cons_zero, List.set_cons_succ, i64_w, i32_w]
     rfl
    refine take_ (i := 21) (N := some 24) (v := ?_) (a' := ?_) #[true, true, true, true, true, true, true, true, true, true, true, true, true, true, true, true, true, true, true, false, true, true, false, false, false, false] rfl rfl (take_ofW HT_.out HW_.out (by kernel_rfl)) (fun _ _ _ h => h) (Or.inl ⟨by rfl, ?_⟩) hHeld ?_ ?_
    rotate_left
    ·rintro w' ⟨s0, s1, s2, s3, s4, s5⟩
     go_simp
     with_reducible rfl
    rotate_left
    ·simp only [Act.put, List.setIfInBounds_toArray, List.set_cons_zero, List.set_cons_succ, i64_w, i32_w]
     rfl
    refine one_ (i := 19) (N := some 22) #[true, true, true, true, true, true, true, true, true, true, true, true, true, true, true, true, true, true, true, true, true, true, false, false, false, false] rfl rfl (one_of HT_.out (by kernel_rfl)) (by decide) (fun K hK => ?_)
    refine goes_ Try.func67 (by kernel_rfl) rfl #[.agg #[.int .i64 a0_0, .int .i64 a0_1, .int .i64 a0_2, .int .i64 a0_3, .int .i64 a0_4], .int .i64 a0_5] (by rfl) rfl rfl Gv.lm ?_
    with_reducible refine (impl_Cut.calls k a0_0 a0_1 a0_2 a0_3 a0_4 a0_5 t378 t379 t380 t381 t382 _ A12.out).mono ?_
    rintro e w18 ⟨rfl, hb⟩
    refine ⟨_, rfl, ?_⟩
    have n0_ := Gv.a0 (Gv.bb BK373.out hb)
    have n1_ := Gv.a0 (below_step Gv.bw hb)
    clear BK373
    clear HB
    have BK373 := n0_
    have HB := n1_
    clear n0_ n1_
    (try clear hb)
    (try clear hb2)
    (try clear hk)
    (try clear hi)
    refine hK.out _ _ ⟨(blk_cell BK373.out 0).trans rfl, (blk_cell BK373.out 1).trans rfl, (blk_cell BK373.out 2).trans rfl, (blk_cell BK373.out 3).trans rfl, (blk_cell BK373.out 4).trans rfl, (blk_cell BK373.out 5).trans rfl⟩ (fun hHeld => ?_)
    clear hK K
    refine norm_ (a' := ?_) ?_ ?_
    rotate_left
    ·show Act.put _ (some 22) _ = _
     simp only [Act.put, List.setIfInBounds_toArray, List.set_cons_zero, List.set_cons_succ, i64_w, i32_w]
     rfl
    refine Gv.pu 22 (some 25) HT_ ?_
    refine Gv.pu 23 (some 26) HT_ ?_
    refine Gv.pu 24 (some 27) HT_ ?_
    refine Gv.pu 25 (some 2) HT_ ?_
    refine done_ (done_of HT_.out (by kernel_rfl)) ?_
    try go_wp2
    go_ret
    exact ⟨Gv.rt, Gv.bw⟩
   ·replace c11 := Bool.eq_false_iff.mpr c11
    subst c11
    have H1 : (some false) = some r := by rw [if_neg (show ¬ (false = true) by decide)] at H; exact H
    clear H
    have H := H1
    clear H1
    obtain rfl := Option.some.inj H
    go_enter Try.func47, Try.ntmps47
    try go_wp2_with (first | ((with_reducible refine gate_dst (N := 1) rfl ?_); refine box_event ?hg (N := 1) ?hd (cs := #[.int .i64 a0_0, .int .i64 a0_1, .int .i64 a0_2, .int .i64 a0_3, .int .i64 a0_4, .int .i64 a0_5]) (t := 53) ?hr ?_; (case hd => rfl); (case hg => rfl); (case hr => first | (go_simp; done) | (go_simp; rfl)); intro gb373 hg w19 hbox hb; have n0_ := Gv.a0 (below_step Gv.bw hb); have n1_ := Gv.a0 (hbox); have n2_ := Gv.a0 ((Gv.ble hg Gv.bw : w.heap.size ≤ gb373)); have n3_ := Gv.a0 ((Gv.ble hg Gv.bw : w.heap.size ≤ gb373)); clear HB; have HB := n0_; have BK373 := n1_; have GW373 := n2_; have GE373 := n3_; clear n0_ n1_ n2_ n3_; clear hb hbox hg))
    have n0_ := Gv.a0 (blk_drew BK373.out)
    have n1_ := Gv.a0 (below_drew1 HB.out)
    clear BK373
    clear HB
    have BK373 := n0_
    have HB := n1_
    clear n0_ n1_
    refine start_ (n := 26) (S := fun w' => w'.cell? ⟨gb373, 0, none⟩ = some (.int .i64 a0_0) ∧ w'.cell? ⟨gb373, 1, none⟩ = some (.int .i64 a0_1) ∧ w'.cell? ⟨gb373, 2, none⟩ = some (.int .i64 a0_2) ∧ w'.cell? ⟨gb373, 3, none⟩ = some (.int .i64 a0_3) ∧ w'.cell? ⟨gb373, 4, none⟩ = some (.int .i64 a0_4) ∧ w'.cell? ⟨gb373, 5, none⟩ = some (.int .i64 a0_5)) (ds := []) #[false, false, false, false, false, false, false, false, false, false, false, false, false, false, false, false, false, false, false, false, false, false, false, false, false, false] (by kernel_rfl) rfl rfl ⟨(blk_cell BK373.out 0).trans rfl, (blk_cell BK373.out 1).trans rfl, (blk_cell BK373.out 2).trans rfl, (blk_cell BK373.out 3).trans rfl, (blk_cell BK373.out 4).trans rfl, (blk_cell BK373.out 5).trans rfl⟩ (fun hHeld => ?_); refine with_tabW impl_PrefixOk.tab1 impl_PrefixOk.bits1 (fun HT_ HW_ => ?_)
    generalize w19.drew = w20 at BK373 HB hHeld ⊢
    refine take_ (i := 0) (N := some 3) (v := ?_) (a' := ?_) #[true, false, false, false, false, false, false, false, false, false, false, false, false, false, false, false, false, false, false, false, false, false, false, false, false, false] rfl rfl (take_ofW HT_.out HW_.out (by kernel_rfl)) (fun _ _ _ h => h) (Or.inl ⟨by rfl, ?_⟩) hHeld ?_ ?_
    rotate_left
    ·rintro w' ⟨s0, s1, s2, s3, s4, s5⟩
     go_simp
     with_reducible rfl
    rotate_left
    ·simp only [Act.put, List.setIfInBounds_toArray, List.set_cons_zero, List.set_cons_succ, i64_w, i32_w]
     rfl
    refine one_ (i := 1) (N := some 4) #[true, true, false, false, false, false, false, false, false, false, false, false, false, false, false, false, false, false, false, false, false, false, false, false, false, false] rfl rfl (one_of HT_.out (by kernel_rfl)) (by decide) (fun K hK => ?_)
    refine goes_ Try.func64 (by kernel_rfl) rfl #[.agg #[.int .i64 a0_0, .int .i64 a0_1, .int .i64 a0_2, .int .i64 a0_3, .int .i64 a0_4, .int .i64 a0_5]] (by rfl) rfl rfl Gv.lm ?_
    with_reducible refine (impl_isAny.calls a0_0 a0_1 a0_2 a0_3 a0_4 a0_5 false _ A2.out).mono ?_
    rintro e w21 ⟨rfl, hb⟩
    refine ⟨_, rfl, ?_⟩
    have n0_ := Gv.a0 (Gv.bb BK373.out hb)
    have n1_ := Gv.a0 (below_step Gv.bw hb)
    clear BK373
    clear HB
    have BK373 := n0_
    have HB := n1_
    clear n0_ n1_
    (try clear hb)
    (try clear hb2)
    (try clear hk)
    (try clear hi)
    refine hK.out _ _ ⟨(blk_cell BK373.out 0).trans rfl, (blk_cell BK373.out 1).trans rfl, (blk_cell BK373.out 2).trans rfl, (blk_cell BK373.out 3).trans rfl, (blk_cell BK373.out 4).trans rfl, (blk_cell BK373.out 5).trans rfl⟩ (fun hHeld => ?_)
    clear hK K
    refine norm_ (a' := ?_) ?_ ?_
    rotate_left
    ·show Act.put _ (some 4) _ = _
     simp only [Act.put, List.setIfInBounds_toArray, List.set_cons_zero, List.set_cons_succ, i64_w, i32_w]
     rfl
    refine Gv.pu 2 (some 5) HT_ ?_
    refine Gv.pu 3 (some 6) HT_ ?_
    refine take_ (i := 4) (N := some 7) (v := ?_) (a' := ?_) #[true, true, true, true, true, false, false, false, false, false, false, false, false, false, false, false, false, false, false, false, false, false, false, false, false, false] rfl rfl (take_ofW HT_.out HW_.out (by kernel_rfl)) (fun _ _ _ h => h) (Or.inl ⟨by rfl, ?_⟩) hHeld ?_ ?_
    rotate_left
    ·rintro w' ⟨s0, s1, s2, s3, s4, s5⟩
     go_simp
     with_reducible rfl
    rotate_left
    ·simp only [Act.put, List.setIfInBounds_toArray, List.set_cons_zero, List.set_cons_succ, i64_w, i32_w]
     rfl
    refine one_ (i := 5) (N := some 8) #[true, true, true, true, true, true, false, false, false, false, false, false, false, false, false, false, false, false, false, false, false, false, false, false, false, false] rfl rfl (one_of HT_.out (by kernel_rfl)) (by decide) (fun K hK => ?_)
    refine goes_ Try.func65 (by kernel_rfl) rfl #[.agg #[.int .i64 a0_0, .int .i64 a0_1, .int .i64 a0_2, .int .i64 a0_3, .int .i64 a0_4]] (by rfl) rfl rfl Gv.lm ?_
    with_reducible refine (impl_AddrOk.calls a0_0 a0_1 a0_2 a0_3 a0_4 true _ A7.out).mono ?_
    rintro e w22 ⟨rfl, hb⟩
    refine ⟨_, rfl, ?_⟩
    have n0_ := Gv.a0 (Gv.bb BK373.out hb)
    have n1_ := Gv.a0 (below_step Gv.bw hb)
    clear BK373
    clear HB
    have BK373 := n0_
    have HB := n1_
    clear n0_ n1_
    (try clear hb)
    (try clear hb2)
    (try clear hk)
    (try clear hi)
    refine hK.out _ _ ⟨(blk_cell BK373.out 0).trans rfl, (blk_cell BK373.out 1).trans rfl, (blk_cell BK373.out 2).trans rfl, (blk_cell BK373.out 3).trans rfl, (blk_cell BK373.out 4).trans rfl, (blk_cell BK373.out 5).trans rfl⟩ (fun hHeld => ?_)
    clear hK K
    refine norm_ (a' := ?_) ?_ ?_
    rotate_left
    ·show Act.put _ (some 8) _ = _
     simp only [Act.put, List.setIfInBounds_toArray, List.set_cons_zero, List.set_cons_succ, i64_w, i32_w]
     rfl
    refine Gv.pu 6 (some 9) HT_ ?_
    refine Gv.pu 7 (some 10) HT_ ?_
    refine Gv.pu 9 (some 12) HT_ ?_
    refine take_ (i := 8) (N := some 11) (v := ?_) (a' := ?_) #[true, true, true, true, true, true, true, true, true, true, false, false, false, false, false, false, false, false, false, false, false, false, false, false, false, false] rfl rfl (take_ofW HT_.out HW_.out (by kernel_rfl)) (fun _ _ _ h => h) (Or.inl ⟨by rfl, ?_⟩) hHeld ?_ ?_
    rotate_left
    ·rintro w' ⟨s0, s1, s2, s3, s4, s5⟩
     go_simp
     with_reducible rfl
    rotate_left
    ·simp only [Act.put, List.setIfInBounds_toArray, List.set_cons_zero, List.set_cons_succ, i64_w, i32_w]
     rfl
    refine take_ (i := 10) (N := some 13) (v := ?_) (a' := ?_) #[true, true, true, true, true, true, true, true, true, true, true, false, false, false, false, false, false, false, false, false, false, false, false, false, false, false] rfl rfl (take_ofW HT_.out HW_.out (by kernel_rfl)) (fun _ _ _ h => h) (Or.inl ⟨by rfl, ?_⟩) hHeld ?_ ?_
    rotate_left
    ·rintro w' ⟨s0, s1, s2, s3, s4, s5⟩
     go_simp
     with_reducible rfl
    rotate_left
    ·simp only [Act.put, List.setIfInBounds_toArray, List.set_cons_zero, List.set_cons_succ, i64_w, i32_w]
     rfl
    refine one_ (i := 11) (N := some 14) #[true, true, true, true, true, true, true, true, true, true, true, true, false, false, false, false, false, false, false, false, false, false, false, false, false, false] rfl rfl (one_of HT_.out (by kernel_rfl)) (by decide) (fun K hK => ?_)
    refine goes_ Try.func66 (by kernel_rfl) rfl #[.agg #[.int .i64 a0_0, .int .i64 a0_1, .int .i64 a0_2, .int .i64 a0_3, .int .i64 a0_4]] (by rfl) rfl rfl Gv.lm ?_
    with_reducible refine (impl_bitsOf.calls a0_0 a0_1 a0_2 a0_3 a0_4 t376 _ A9.out).mono ?_
    rintro e w23 ⟨rfl, hb⟩
    refine ⟨_, rfl, ?_⟩
    have n0_ := Gv.a0 (Gv.bb BK373.out hb)
    have n1_ := Gv.a0 (below_step Gv.bw hb)
    clear BK373
    clear HB
    have BK373 := n0_
    have HB := n1_
    clear n0_ n1_
    (try clear hb)
    (try clear hb2)
    (try clear hk)
    (try clear hi)
    refine hK.out _ _ ⟨(blk_cell BK373.out 0).trans rfl, (blk_cell BK373.out 1).trans rfl, (blk_cell BK373.out 2).trans rfl, (blk_cell BK373.out 3).trans rfl, (blk_cell BK373.out 4).trans rfl, (blk_cell BK373.out 5).trans rfl⟩ (fun hHeld => ?_)
    clear hK K
    refine norm_ (a' := ?_) ?_ ?_
    rotate_left
    ·show Act.put _ (some 14) _ = _
     simp only [Act.put, List.setIfInBounds_toArray, List.set_cons_zero, List.set_cons_succ, i64_w, i32_w]
     rfl
    refine one_ (i := 12) (N := some 15) #[true, true, true, true, true, true, true, true, true, true, true, true, true, false, false, false, false, false, false, false, false, false, false, false, false, false] rfl rfl (one_of HT_.out (by kernel_rfl)) (by decide) (fun K hK => ?_)
    refine goes_ Try.func46 (by kernel_rfl) rfl #[.int .i64 a0_5, .int .i64 0, .int .i64 t376] (by rfl) rfl rfl Gv.lm ?_
    with_reducible refine (impl_within.calls a0_5 0 t376 false _ A10.out).mono ?_
    rintro e w' ⟨rfl, ⟨nd, rfl⟩⟩
    refine ⟨_, rfl, ?_⟩
    refine hK.out _ _ ⟨(blk_cell BK373.out 0).trans rfl, (blk_cell BK373.out 1).trans rfl, (blk_cell BK373.out 2).trans rfl, (blk_cell BK373.out 3).trans rfl, (blk_cell BK373.out 4).trans rfl, (blk_cell BK373.out 5).trans rfl⟩ (fun hHeld => ?_)
    clear hK K
    refine norm_ (a' := ?_) ?_ ?_
    rotate_left
    ·show Act.put _ (some 15) _ = _
     simp only [Act.put, List.setIfInBounds_toArray, List.set_cons_zero, List.set_cons_succ, i64_w, i32_w]
     rfl
    refine Gv.pu 13 (some 16) HT_ ?_
    refine Gv.pu 14 (some 17) HT_ ?_
    refine Gv.pn 15 (some 18) HT_ ?_
    refine Gv.pn 16 (some 19) HT_ ?_
    refine Gv.pn 17 (some 20) HT_ ?_
    refine Gv.pn 18 (some 21) HT_ ?_
    refine Gv.pn 19 (some 22) HT_ ?_
    refine Gv.pn 20 (some 23) HT_ ?_
    refine Gv.pn 21 (some 24) HT_ ?_
    refine Gv.pn 22 (some 25) HT_ ?_
    refine Gv.pu 23 (some 26) HT_ ?_
    refine Gv.pu 24 (some 27) HT_ ?_
    refine Gv.pu 25 (some 2) HT_ ?_
    refine done_ (done_of HT_.out (by kernel_rfl)) ?_
    try go_wp2
    go_ret
    exact ⟨Gv.rt, Gv.bw⟩
  ·replace c8 := Bool.eq_false_iff.mpr c8
   subst c8
   have H1 : (some false) = some r := by rw [if_neg (show ¬ (false = true) by decide)] at H; exact H
   clear H
   have H := H1
   clear H1
   obtain rfl := Option.some.inj H
   go_enter Try.func47, Try.ntmps47
   try go_wp2_with (first | ((with_reducible refine gate_dst (N := 1) rfl ?_); refine box_event ?hg (N := 1) ?hd (cs := #[.int .i64 a0_0, .int .i64 a0_1, .int .i64 a0_2, .int .i64 a0_3, .int .i64 a0_4, .int .i64 a0_5]) (t := 53) ?hr ?_; (case hd => rfl); (case hg => rfl); (case hr => first | (go_simp; done) | (go_simp; rfl)); intro gb373 hg w24 hbox hb; have n0_ := Gv.a0 (below_step Gv.bw hb); have n1_ := Gv.a0 (hbox); have n2_ := Gv.a0 ((Gv.ble hg Gv.bw : w.heap.size ≤ gb373)); have n3_ := Gv.a0 ((Gv.ble hg Gv.bw : w.heap.size ≤ gb373)); clear HB; have HB := n0_; have BK373 := n1_; have GW373 := n2_; have GE373 := n3_; clear n0_ n1_ n2_ n3_; clear hb hbox hg))
   have n0_ := Gv.a0 (blk_drew BK373.out)
   have n1_ := Gv.a0 (below_drew1 HB.out)
   clear BK373
   clear HB
   have BK373 := n0_
   have HB := n1_
   clear n0_ n1_
   refine start_ (n := 26) (S := fun w' => w'.cell? ⟨gb373, 0, none⟩ = some (.int .i64 a0_0) ∧ w'.cell? ⟨gb373, 1, none⟩ = some (.int .i64 a0_1) ∧ w'.cell? ⟨gb373, 2, none⟩ = some (.int .i64 a0_2) ∧ w'.cell? ⟨gb373, 3, none⟩ = some (.int .i64 a0_3) ∧ w'.cell? ⟨gb373, 4, none⟩ = some (.int .i64 a0_4) ∧ w'.cell? ⟨gb373, 5, none⟩ = some (.int .i64 a0_5)) (ds := []) #[false, false, false, false, false, false, false, false, false, false, false, false, false, false, false, false, false, false, false, false, false, false, false, false, false, false] (by kernel_rfl) rfl rfl ⟨(blk_cell BK373.out 0).trans rfl, (blk_cell BK373.out 1).trans rfl, (blk_cell BK373.out 2).trans rfl, (blk_cell BK373.out 3).trans rfl, (blk_cell BK373.out 4).trans rfl, (blk_cell BK373.out 5).trans rfl⟩ (fun hHeld => ?_); refine with_tabW impl_PrefixOk.tab1 impl_PrefixOk.bits1 (fun HT_ HW_ => ?_)
   generalize w24.drew = w25 at BK373 HB hHeld ⊢
   refine take_ (i := 0) (N := some 3) (v := ?_) (a' := ?_) #[true, false, false, false, false, false, false, false, false, false, false, false, false, false, false, false, false, false, false, false, false, false, false, false, false, false] rfl rfl (take_ofW HT_.out HW_.out (by kernel_rfl)) (fun _ _ _ h => h) (Or.inl ⟨by rfl, ?_⟩) hHeld ?_ ?_
   rotate_left
   ·rintro w' ⟨s0, s1, s2, s3, s4, s5⟩
    go_simp
    with_reducible rfl
   rotate_left
   ·simp only [Act.put, List.setIfInBounds_toArray, List.set_cons_zero, List.set_cons_succ, i64_w, i32_w]
    rfl
   refine one_ (i := 1) (N := some 4) #[true, true, false, false, false, false, false, false, false, false, false, false, false, false, false, false, false, false, false, false, false, false, false, false, false, false] rfl rfl (one_of HT_.out (by kernel_rfl)) (by decide) (fun K hK => ?_)
   refine goes_ Try.func64 (by kernel_rfl) rfl #[.agg #[.int .i64 a0_0, .int .i64 a0_1, .int .i64 a0_2, .int .i64 a0_3, .int .i64 a0_4, .int .i64 a0_5]] (by rfl) rfl rfl Gv.lm ?_
   with_reducible refine (impl_isAny.calls a0_0 a0_1 a0_2 a0_3 a0_4 a0_5 false _ A2.out).mono ?_
   rintro e w26 ⟨rfl, hb⟩
   refine ⟨_, rfl, ?_⟩
   have n0_ := Gv.a0 (Gv.bb BK373.out hb)
   have n1_ := Gv.a0 (below_step Gv.bw hb)
   clear BK373
   clear HB
   have BK373 := n0_
   have HB := n1_
   clear n0_ n1_
   (try clear hb)
   (try clear hb2)
   (try clear hk)
   (try clear hi)
   refine hK.out _ _ ⟨(blk_cell BK373.out 0).trans rfl, (blk_cell BK373.out 1).trans rfl, (blk_cell BK373.out 2).trans rfl, (blk_cell BK373.out 3).trans rfl, (blk_cell BK373.out 4).trans rfl, (blk_cell BK373.out 5).trans rfl⟩ (fun hHeld => ?_)
   clear hK K
   refine norm_ (a' := ?_) ?_ ?_
   rotate_left
   ·show Act.put _ (some 4) _ = _
    simp only [Act.put, List.setIfInBounds_toArray, List.set_cons_zero, List.set_cons_succ, i64_w, i32_w]
    rfl
   refine Gv.pu 2 (some 5) HT_ ?_
   refine Gv.pu 3 (some 6) HT_ ?_
   refine take_ (i := 4) (N := some 7) (v := ?_) (a' := ?_) #[true, true, true, true, true, false, false, false, false, false, false, false, false, false, false, false, false, false, false, false, false, false, false, false, false, false] rfl rfl (take_ofW HT_.out HW_.out (by kernel_rfl)) (fun _ _ _ h => h) (Or.inl ⟨by rfl, ?_⟩) hHeld ?_ ?_
   rotate_left
   ·rintro w' ⟨s0, s1, s2, s3, s4, s5⟩
    go_simp
    with_reducible rfl
   rotate_left
   ·simp only [Act.put, List.setIfInBounds_toArray, List.set_cons_zero, List.set_cons_succ, i64_w, i32_w]
    rfl
   refine one_ (i := 5) (N := some 8) #[true, true, true, true, true, true, false, false, false, false, false, false, false, false, false, false, false, false, false, false, false, false, false, false, false, false] rfl rfl (one_of HT_.out (by kernel_rfl)) (by decide) (fun K hK => ?_)
   refine goes_ Try.func65 (by kernel_rfl) rfl #[.agg #[.int .i64 a0_0, .int .i64 a0_1, .int .i64 a0_2, .int .i64 a0_3, .int .i64 a0_4]] (by rfl) rfl rfl Gv.lm ?_
   with_reducible refine (impl_AddrOk.calls a0_0 a0_1 a0_2 a0_3 a0_4 false _ A7.out).mono ?_
   rintro e w27 ⟨rfl, hb⟩
   refine ⟨_, rfl, ?_⟩
   have n0_ := Gv.a0 (Gv.bb BK373.out hb)
   have n1_ := Gv.a0 (below_step Gv.bw hb)
   clear BK373
   clear HB
   have BK373 := n0_
   have HB := n1_
   clear n0_ n1_
   (try clear hb)
   (try clear hb2)
   (try clear hk)
   (try clear hi)
   refine hK.out _ _ ⟨(blk_cell BK373.out 0).trans rfl, (blk_cell BK373.out 1).trans rfl, (blk_cell BK373.out 2).trans rfl, (blk_cell BK373.out 3).trans rfl, (blk_cell BK373.out 4).trans rfl, (blk_cell BK373.out 5).trans rfl⟩ (fun hHeld => ?_)
   clear hK K
   refine norm_ (a' := ?_) ?_ ?_
   rotate_left
   ·show Act.put _ (some 8) _ = _
    simp only [Act.put, List.setIfInBounds_toArray, List.set_cons_zero, List.set_cons_succ, i64_w, i32_w]
    rfl
   refine Gv.pu 6 (some 9) HT_ ?_
   refine Gv.pn 7 (some 10) HT_ ?_
   refine Gv.pn 8 (some 11) HT_ ?_
   refine Gv.pn 9 (some 12) HT_ ?_
   refine Gv.pn 10 (some 13) HT_ ?_
   refine Gv.pn 11 (some 14) HT_ ?_
   refine Gv.pn 12 (some 15) HT_ ?_
   refine Gv.pu 13 (some 16) HT_ ?_
   refine Gv.pu 14 (some 17) HT_ ?_
   refine Gv.pn 15 (some 18) HT_ ?_
   refine Gv.pn 16 (some 19) HT_ ?_
   refine Gv.pn 17 (some 20) HT_ ?_
   refine Gv.pn 18 (some 21) HT_ ?_
   refine Gv.pn 19 (some 22) HT_ ?_
   refine Gv.pn 20 (some 23) HT_ ?_
   refine Gv.pn 21 (some 24) HT_ ?_
   refine Gv.pn 22 (some 25) HT_ ?_
   refine Gv.pu 23 (some 26) HT_ ?_
   refine Gv.pu 24 (some 27) HT_ ?_
   refine Gv.pu 25 (some 2) HT_ ?_
   refine done_ (done_of HT_.out (by kernel_rfl)) ?_
   try go_wp2
   go_ret
   exact ⟨Gv.rt, Gv.bw⟩

/-! ### impl_isRange: function 48 -/
def impl_isRange.f (a0 : Int) (a1 : Int) : Option (Bool) := if a0 ≥ 0 then (if a0 ≤ a1 then (some (decide (a1 ≤ 65535))) else (some false)) else (some false)
set_option maxHeartbeats 8000000 in
set_option maxRecDepth 100000 in
theorem impl_isRange.calls (a0 : Int) (a1 : Int) (r : Bool) (w : World) (h : impl_isRange.f a0 a1 = some r) :
  Calls Try.prog 48 #[.int .i64 a0, .int .i64 a1] w fun e w' => e = .returned (.bool r) ∧ Drawn0 w w' := by
 have H : (if a0 ≥ 0 then (if a0 ≤ a1 then (some (decide (a1 ≤ 65535))) else (some false)) else (some false)) = some r := h
 clear h
 by_cases c3 : a0 ≥ 0
 ·rw [if_pos c3] at H
  have c3b0 : decide (0 ≤ a0) = true := decide_eq_true c3
  clear c3
  by_cases c4 : a0 ≤ a1
  ·rw [if_pos c4] at H
   have c4b0 : decide (a0 ≤ a1) = true := decide_eq_true c4
   clear c4
   obtain rfl := Option.some.inj H
   go_enter Try.func48, Try.ntmps48
   go_wp2
   go_ret
   exact ⟨by first | rfl | (simp; done) | (simp [Int.tdiv_eq_ediv_of_nonneg]; done) | (simp [*]; done), by repeat (first | exact Drawn0.refl _ | apply Drawn0.step)⟩
  ·rw [if_neg c4] at H
   have c4b0 : decide (a0 ≤ a1) = false := decide_eq_false c4
   clear c4
   obtain rfl := Option.some.inj H
   go_enter Try.func48, Try.ntmps48
   go_wp2
   go_ret
   exact ⟨by first | rfl | (simp; done) | (simp [Int.tdiv_eq_ediv_of_nonneg]; done) | (simp [*]; done), by repeat (first | exact Drawn0.refl _ | apply Drawn0.step)⟩
 ·rw [if_neg c3] at H
  have c3b0 : decide (0 ≤ a0) = false := decide_eq_false c3
  clear c3
  obtain rfl := Option.some.inj H
  go_enter Try.func48, Try.ntmps48
  go_wp2
  go_ret
  exact ⟨by first | rfl | (simp; done) | (simp [Int.tdiv_eq_ediv_of_nonneg]; done) | (simp [*]; done), by repeat (first | exact Drawn0.refl _ | apply Drawn0.step)⟩

/-! ### impl_RuleOk: function 29 -/
def impl_RuleOk.j0 : Nat → Bool → Int → Int → Int → Int → Int → Int → Int → Int → Int → Int → Int → Int → Int → Int → Int → Int → Int → Int → Int → Int → Int → Option (Bool)
 | 0, _, _, _, _, _, _, _, _, _, _, _, _, _, _, _, _, _, _, _, _, _, _ => none
 | k + 1, x40, x384000, x384001, x384002, x384003, x384004, x384005, x384006, x384007, x384008, x384009, x384010, x384011, x384012, x384013, x384014, x384015, x384016, x384017, x384018, x384019, x384020 => if x40 = true then (some false) else ((impl_within.f x384018 1 8).bind fun t390 => (if t390 = true then ((impl_within.f x384019 1 10).bind fun t391 => (if t391 = true then ((impl_within.f x384020 1 8).bind fun t392 => (some t392)) else (some false))) else (some false)))
def impl_RuleOk.f (k : Nat) (a0_0 : Int) (a0_1 : Int) (a0_2 : Int) (a0_3 : Int) (a0_4 : Int) (a0_5 : Int) (a0_6 : Int) (a0_7 : Int) (a0_8 : Int) (a0_9 : Int) (a0_10 : Int) (a0_11 : Int) (a0_12 : Int) (a0_13 : Int) (a0_14 : Int) (a0_15 : Int) (a0_16 : Int) (a0_17 : Int) (a0_18 : Int) (a0_19 : Int) (a0_20 : Int) : Option (Bool) := (impl_within.f a0_0 1 9999).bind fun t384 => (if t384 = true then ((impl_PrefixOk.f k a0_1 a0_2 a0_3 a0_4 a0_5 a0_6).bind fun t385 => (if t385 = true then ((impl_PrefixOk.f k a0_7 a0_8 a0_9 a0_10 a0_11 a0_12).bind fun t386 => (if t386 = true then ((impl_within.f a0_13 (-1) 255).bind fun t387 => (if t387 = true then ((impl_isRange.f a0_14 a0_15).bind fun t388 => (if t388 = true then ((impl_isRange.f a0_16 a0_17).bind fun t389 => (impl_RuleOk.j0 k (!t389) a0_0 a0_1 a0_2 a0_3 a0_4 a0_5 a0_6 a0_7 a0_8 a0_9 a0_10 a0_11 a0_12 a0_13 a0_14 a0_15 a0_16 a0_17 a0_18 a0_19 a0_20)) else (impl_RuleOk.j0 k true a0_0 a0_1 a0_2 a0_3 a0_4 a0_5 a0_6 a0_7 a0_8 a0_9 a0_10 a0_11 a0_12 a0_13 a0_14 a0_15 a0_16 a0_17 a0_18 a0_19 a0_20))) else (impl_RuleOk.j0 k true a0_0 a0_1 a0_2 a0_3 a0_4 a0_5 a0_6 a0_7 a0_8 a0_9 a0_10 a0_11 a0_12 a0_13 a0_14 a0_15 a0_16 a0_17 a0_18 a0_19 a0_20))) else (impl_RuleOk.j0 k true a0_0 a0_1 a0_2 a0_3 a0_4 a0_5 a0_6 a0_7 a0_8 a0_9 a0_10 a0_11 a0_12 a0_13 a0_14 a0_15 a0_16 a0_17 a0_18 a0_19 a0_20))) else (impl_RuleOk.j0 k true a0_0 a0_1 a0_2 a0_3 a0_4 a0_5 a0_6 a0_7 a0_8 a0_9 a0_10 a0_11 a0_12 a0_13 a0_14 a0_15 a0_16 a0_17 a0_18 a0_19 a0_20))) else (impl_RuleOk.j0 k true a0_0 a0_1 a0_2 a0_3 a0_4 a0_5 a0_6 a0_7 a0_8 a0_9 a0_10 a0_11 a0_12 a0_13 a0_14 a0_15 a0_16 a0_17 a0_18 a0_19 a0_20))
theorem impl_RuleOk.mono_l : ∀ k, (∀ y0 y1 y2 y3 y4 y5 y6 y7 y8 y9 y10 y11 y12 y13 y14 y15 y16 y17 y18 y19 y20 y21, LeO (impl_RuleOk.j0 k y0 y1 y2 y3 y4 y5 y6 y7 y8 y9 y10 y11 y12 y13 y14 y15 y16 y17 y18 y19 y20 y21) (impl_RuleOk.j0 (k + 1) y0 y1 y2 y3 y4 y5 y6 y7 y8 y9 y10 y11 y12 y13 y14 y15 y16 y17 y18 y19 y20 y21))
 | 0 => fun _ _ _ _ _ _ _ _ _ _ _ _ _ _ _ _ _ _ _ _ _ _ r h => by simp [impl_RuleOk.j0] at h
 | k + 1 => by
  have ih0 := impl_RuleOk.mono_l k
  ·intro y0 y1 y2 y3 y4 y5 y6 y7 y8 y9 y10 y11 y12 y13 y14 y15 y16 y17 y18 y19 y20 y21
   unfold impl_RuleOk.j0
   repeat' first
   | (with_reducible exact ih0 _ _ _ _ _ _ _ _ _ _ _ _ _ _ _ _ _ _ _ _ _ _)
   | (with_reducible exact impl_PrefixOk.mono _ _ _ _ _ _ _)
   | (with_reducible exact LeO.refl _)
   | (with_reducible exact LeO.none _)
   | (with_reducible refine LeO.ite ?_ ?_)
   | (with_reducible refine LeO.bind ?_ (fun _ => ?_))
   | exact ih0 _ _ _ _ _ _ _ _ _ _ _ _ _ _ _ _ _ _ _ _ _ _
   | exact impl_PrefixOk.mono _ _ _ _ _ _ _
   | exact LeO.none _
   | refine LeO.ite ?_ ?_
   | refine LeO.bind ?_ (fun _ => ?_)
theorem impl_RuleOk.mono : ∀ a0 a1 a2 a3 a4 a5 a6 a7 a8 a9 a10 a11 a12 a13 a14 a15 a16 a17 a18 a19 a20 k, LeO (impl_RuleOk.f k a0 a1 a2 a3 a4 a5 a6 a7 a8 a9 a10 a11 a12 a13 a14 a15 a16 a17 a18 a19 a20) (impl_RuleOk.f (k + 1) a0 a1 a2 a3 a4 a5 a6 a7 a8 a9 a10 a11 a12 a13 a14 a15 a16 a17 a18 a19 a20) := by
 intro a0 a1 a2 a3 a4 a5 a6 a7 a8 a9 a10 a11 a12 a13 a14 a15 a16 a17 a18 a19 a20 k
 have ih0 := impl_RuleOk.mono_l k
 unfold impl_RuleOk.f
 repeat' first
   | (with_reducible exact ih0 _ _ _ _ _ _ _ _ _ _ _ _ _ _ _ _ _ _ _ _ _ _)
   | (with_reducible exact impl_PrefixOk.mono _ _ _ _ _ _ _)
   | (with_reducible exact LeO.refl _)
   | (with_reducible exact LeO.none _)
   | (with_reducible refine LeO.ite ?_ ?_)
   | (with_reducible refine LeO.bind ?_ (fun _ => ?_))
   | exact ih0 _ _ _ _ _ _ _ _ _ _ _ _ _ _ _ _ _ _ _ _ _ _
   | exact impl_PrefixOk.mono _ _ _ _ _ _ _
   | exact LeO.none _
   | refine LeO.ite ?_ ?_
   | refine LeO.bind ?_ (fun _ => ?_)
set_option maxHeartbeats 8000000 in
set_option maxRecDepth 100000 in
theorem impl_RuleOk.calls (k : Nat) (a0_0 : Int) (a0_1 : Int) (a0_2 : Int) (a0_3 : Int) (a0_4 : Int) (a0_5 : Int) (a0_6 : Int) (a0_7 : Int) (a0_8 : Int) (a0_9 : Int) (a0_10 : Int) (a0_11 : Int) (a0_12 : Int) (a0_13 : Int) (a0_14 : Int) (a0_15 : Int) (a0_16 : Int) (a0_17 : Int) (a0_18 : Int) (a0_19 : Int) (a0_20 : Int) (r : Bool) (w : World) (h : impl_RuleOk.f k a0_0 a0_1 a0_2 a0_3 a0_4 a0_5 a0_6 a0_7 a0_8 a0_9 a0_10 a0_11 a0_12 a0_13 a0_14 a0_15 a0_16 a0_17 a0_18 a0_19 a0_20 = some r) :
  Calls Try.prog 29 #[.agg #[.int .i64 a0_0, .int .i64 a0_1, .int .i64 a0_2, .int .i64 a0_3, .int .i64 a0_4, .int .i64 a0_5, .int .i64 a0_6, .int .i64 a0_7, .int .i64 a0_8, .int .i64 a0_9, .int .i64 a0_10, .int .i64 a0_11, .int .i64 a0_12, .int .i64 a0_13, .int .i64 a0_14, .int .i64 a0_15, .int .i64 a0_16, .int .i64 a0_17, .int .i64 a0_18, .int .i64 a0_19, .int .i64 a0_20]] w fun e w' => e = .returned (.bool r) ∧ Below w.heap.size w w' := by
 have hu55 := Try.underlying55
 have hu53 := Try.underlying53
 have HB := Gv.a0 (Below.refl w.heap.size w)
 have H : ((impl_within.f a0_0 1 9999).bind fun t384 => (if t384 = true then ((impl_PrefixOk.f k a0_1 a0_2 a0_3 a0_4 a0_5 a0_6).bind fun t385 => (if t385 = true then ((impl_PrefixOk.f k a0_7 a0_8 a0_9 a0_10 a0_11 a0_12).bind fun t386 => (if t386 = true then ((impl_within.f a0_13 (-1) 255).bind fun t387 => (if t387 = true then ((impl_isRange.f a0_14 a0_15).bind fun t388 => (if t388 = true then ((impl_isRange.f a0_16 a0_17).bind fun t389 => (impl_RuleOk.j0 k (!t389) a0_0 a0_1 a0_2 a0_3 a0_4 a0_5 a0_6 a0_7 a0_8 a0_9 a0_10 a0_11 a0_12 a0_13 a0_14 a0_15 a0_16 a0_17 a0_18 a0_19 a0_20)) else (impl_RuleOk.j0 k true a0_0 a0_1 a0_2 a0_3 a0_4 a0_5 a0_6 a0_7 a0_8 a0_9 a0_10 a0_11 a0_12 a0_13 a0_14 a0_15 a0_16 a0_17 a0_18 a0_19 a0_20))) else (impl_RuleOk.j0 k true a0_0 a0_1 a0_2 a0_3 a0_4 a0_5 a0_6 a0_7 a0_8 a0_9 a0_10 a0_11 a0_12 a0_13 a0_14 a0_15 a0_16 a0_17 a0_18 a0_19 a0_20))) else (impl_RuleOk.j0 k true a0_0 a0_1 a0_2 a0_3 a0_4 a0_5 a0_6 a0_7 a0_8 a0_9 a0_10 a0_11 a0_12 a0_13 a0_14 a0_15 a0_16 a0_17 a0_18 a0_19 a0_20))) else (impl_RuleOk.j0 k true a0_0 a0_1 a0_2 a0_3 a0_4 a0_5 a0_6 a0_7 a0_8 a0_9 a0_10 a0_11 a0_12 a0_13 a0_14 a0_15 a0_16 a0_17 a0_18 a0_19 a0_20))) else (impl_RuleOk.j0 k true a0_0 a0_1 a0_2 a0_3 a0_4 a0_5 a0_6 a0_7 a0_8 a0_9 a0_10 a0_11 a0_12 a0_13 a0_14 a0_15 a0_16 a0_17 a0_18 a0_19 a0_20))) = some r := h
 clear h
 have HC2 := Gv.a0 H
 clear H
 go_enter Try.func29, Try.ntmps29
 go_upto_region 1 with (first | ((with_reducible refine gate_dst (N := 1) rfl ?_); refine box_event ?hg (N := 1) ?hd (cs := #[.int .i64 a0_0, .int .i64 a0_1, .int .i64 a0_2, .int .i64 a0_3, .int .i64 a0_4, .int .i64 a0_5, .int .i64 a0_6, .int .i64 a0_7, .int .i64 a0_8, .int .i64 a0_9, .int .i64 a0_10, .int .i64 a0_11, .int .i64 a0_12, .int .i64 a0_13, .int .i64 a0_14, .int .i64 a0_15, .int .i64 a0_16, .int .i64 a0_17, .int .i64 a0_18, .int .i64 a0_19, .int .i64 a0_20]) (t := 55) ?hr ?_; (case hd => rfl); (case hg => rfl); (case hr => first | (go_simp; done) | (go_simp; rfl)); intro gb383 hg w3 hbox hb; have n0_ := Gv.a0 (below_step Gv.bw hb); have n1_ := Gv.a0 (hbox); have n2_ := Gv.a0 ((Gv.ble hg Gv.bw : w.heap.size ≤ gb383)); have n3_ := Gv.a0 ((Gv.ble hg Gv.bw : w.heap.size ≤ gb383)); clear HB; have HB := n0_; have BK383 := n1_; have GW383 := n2_; have GE383 := n3_; clear n0_ n1_ n2_ n3_; clear hb hbox hg) | ((with_reducible refine gate_store (t := 55) (p := 1) rfl ?_); refine Gv.store_event rfl rfl rfl rfl rfl (Gv.kb BK383.out) (by kernel_rfl) rfl (by simp; and_intros <;> rfl) ?_; intro w3s hbox hoth hbel; have n0_ := Gv.a0 (hbox); have n1_ := Gv.a0 (hbel w Gv.bw GE383.out); clear BK383 HB; have BK383 := n0_; have HB := n1_; clear n0_ n1_ hbox hoth hbel) | ((with_reducible refine Gv.gate_load (t := 55) rfl ?_); (try (refine gate_guard (by rfl) ?_; dsimp only)); refine wpList_load_row rfl 55 _ rfl gb383 rfl 55 _ _ _ (by first | exact Gv.kb0 BK383.out | exact Gv.kb1 (Gv.kb0 BK383.out)) Try.underlying55 rfl (by kernel_rfl) ?_))
 (try simp only [Act.put, List.setIfInBounds_toArray, List.set_cons_zero, List.set_cons_succ])
 go_cut [40] (fun v40 wc => ∃ (kq : Nat) (x40_1 : Bool), v40 = .bool x40_1 ∧ Aside0 (impl_RuleOk.j0 kq x40_1 a0_0 a0_1 a0_2 a0_3 a0_4 a0_5 a0_6 a0_7 a0_8 a0_9 a0_10 a0_11 a0_12 a0_13 a0_14 a0_15 a0_16 a0_17 a0_18 a0_19 a0_20 = some r) ∧ Aside0 (kq ≤ k) ∧ Aside0 (wc.heap[gb383]? = some (.cells #[.int .i64 a0_0, .int .i64 a0_1, .int .i64 a0_2, .int .i64 a0_3, .int .i64 a0_4, .int .i64 a0_5, .int .i64 a0_6, .int .i64 a0_7, .int .i64 a0_8, .int .i64 a0_9, .int .i64 a0_10, .int .i64 a0_11, .int .i64 a0_12, .int .i64 a0_13, .int .i64 a0_14, .int .i64 a0_15, .int .i64 a0_16, .int .i64 a0_17, .int .i64 a0_18, .int .i64 a0_19, .int .i64 a0_20] 55 (0, 0))) ∧ Aside0 (Below w.heap.size w wc))
 case first =>
  have H := HC2.out
  clear HC2
  replace H := Option.bind_eq_some_iff.mp H
  obtain ⟨t384, A40, H⟩ := H
  replace H : (if t384 = true then ((impl_PrefixOk.f k a0_1 a0_2 a0_3 a0_4 a0_5 a0_6).bind fun t385 => (if t385 = true then ((impl_PrefixOk.f k a0_7 a0_8 a0_9 a0_10 a0_11 a0_12).bind fun t386 => (if t386 = true then ((impl_within.f a0_13 (-1) 255).bind fun t387 => (if t387 = true then ((impl_isRange.f a0_14 a0_15).bind fun t388 => (if t388 = true then ((impl_isRange.f a0_16 a0_17).bind fun t389 => (impl_RuleOk.j0 k (!t389) a0_0 a0_1 a0_2 a0_3 a0_4 a0_5 a0_6 a0_7 a0_8 a0_9 a0_10 a0_11 a0_12 a0_13 a0_14 a0_15 a0_16 a0_17 a0_18 a0_19 a0_20)) else (impl_RuleOk.j0 k true a0_0 a0_1 a0_2 a0_3 a0_4 a0_5 a0_6 a0_7 a0_8 a0_9 a0_10 a0_11 a0_12 a0_13 a0_14 a0_15 a0_16 a0_17 a0_18 a0_19 a0_20))) else (impl_RuleOk.j0 k true a0_0 a0_1 a0_2 a0_3 a0_4 a0_5 a0_6 a0_7 a0_8 a0_9 a0_10 a0_11 a0_12 a0_13 a0_14 a0_15 a0_16 a0_17 a0_18 a0_19 a0_20))) else (impl_RuleOk.j0 k true a0_0 a0_1 a0_2 a0_3 a0_4 a0_5 a0_6 a0_7 a0_8 a0_9 a0_10 a0_11 a0_12 a0_13 a0_14 a0_15 a0_16 a0_17 a0_18 a0_19 a0_20))) else (impl_RuleOk.j0 k true a0_0 a0_1 a0_2 a0_3 a0_4 a0_5 a0_6 a0_7 a0_8 a0_9 a0_10 a0_11 a0_12 a0_13 a0_14 a0_15 a0_16 a0_17 a0_18 a0_19 a0_20))) else (impl_RuleOk.j0 k true a0_0 a0_1 a0_2 a0_3 a0_4 a0_5 a0_6 a0_7 a0_8 a0_9 a0_10 a0_11 a0_12 a0_13 a0_14 a0_15 a0_16 a0_17 a0_18 a0_19 a0_20)) = some r := H
  have A4 := Gv.a0 A40
  clear A40
  by_cases c5 : t384 = true
  ·subst c5
   have H1 : ((impl_PrefixOk.f k a0_1 a0_2 a0_3 a0_4 a0_5 a0_6).bind fun t385 => (if t385 = true then ((impl_PrefixOk.f k a0_7 a0_8 a0_9 a0_10 a0_11 a0_12).bind fun t386 => (if t386 = true then ((impl_within.f a0_13 (-1) 255).bind fun t387 => (if t387 = true then ((impl_isRange.f a0_14 a0_15).bind fun t388 => (if t388 = true then ((impl_isRange.f a0_16 a0_17).bind fun t389 => (impl_RuleOk.j0 k (!t389) a0_0 a0_1 a0_2 a0_3 a0_4 a0_5 a0_6 a0_7 a0_8 a0_9 a0_10 a0_11 a0_12 a0_13 a0_14 a0_15 a0_16 a0_17 a0_18 a0_19 a0_20)) else (impl_RuleOk.j0 k true a0_0 a0_1 a0_2 a0_3 a0_4 a0_5 a0_6 a0_7 a0_8 a0_9 a0_10 a0_11 a0_12 a0_13 a0_14 a0_15 a0_16 a0_17 a0_18 a0_19 a0_20))) else (impl_RuleOk.j0 k true a0_0 a0_1 a0_2 a0_3 a0_4 a0_5 a0_6 a0_7 a0_8 a0_9 a0_10 a0_11 a0_12 a0_13 a0_14 a0_15 a0_16 a0_17 a0_18 a0_19 a0_20))) else (impl_RuleOk.j0 k true a0_0 a0_1 a0_2 a0_3 a0_4 a0_5 a0_6 a0_7 a0_8 a0_9 a0_10 a0_11 a0_12 a0_13 a0_14 a0_15 a0_16 a0_17 a0_18 a0_19 a0_20))) else (impl_RuleOk.j0 k true a0_0 a0_1 a0_2 a0_3 a0_4 a0_5 a0_6 a0_7 a0_8 a0_9 a0_10 a0_11 a0_12 a0_13 a0_14 a0_15 a0_16 a0_17 a0_18 a0_19 a0_20))) = some r := by rw [if_pos rfl] at H; exact H
   clear H
   have H := H1
   clear H1
   replace H := Option.bind_eq_some_iff.mp H
   obtain ⟨t385, A60, H⟩ := H
   replace H : (if t385 = true then ((impl_PrefixOk.f k a0_7 a0_8 a0_9 a0_10 a0_11 a0_12).bind fun t386 => (if t386 = true then ((impl_within.f a0_13 (-1) 255).bind fun t387 => (if t387 = true then ((impl_isRange.f a0_14 a0_15).bind fun t388 => (if t388 = true then ((impl_isRange.f a0_16 a0_17).bind fun t389 => (impl_RuleOk.j0 k (!t389) a0_0 a0_1 a0_2 a0_3 a0_4 a0_5 a0_6 a0_7 a0_8 a0_9 a0_10 a0_11 a0_12 a0_13 a0_14 a0_15 a0_16 a0_17 a0_18 a0_19 a0_20)) else (impl_RuleOk.j0 k true a0_0 a0_1 a0_2 a0_3 a0_4 a0_5 a0_6 a0_7 a0_8 a0_9 a0_10 a0_11 a0_12 a0_13 a0_14 a0_15 a0_16 a0_17 a0_18 a0_19 a0_20))) else (impl_RuleOk.j0 k true a0_0 a0_1 a0_2 a0_3 a0_4 a0_5 a0_6 a0_7 a0_8 a0_9 a0_10 a0_11 a0_12 a0_13 a0_14 a0_15 a0_16 a0_17 a0_18 a0_19 a0_20))) else (impl_RuleOk.j0 k true a0_0 a0_1 a0_2 a0_3 a0_4 a0_5 a0_6 a0_7 a0_8 a0_9 a0_10 a0_11 a0_12 a0_13 a0_14 a0_15 a0_16 a0_17 a0_18 a0_19 a0_20))) else (impl_RuleOk.j0 k true a0_0 a0_1 a0_2 a0_3 a0_4 a0_5 a0_6 a0_7 a0_8 a0_9 a0_10 a0_11 a0_12 a0_13 a0_14 a0_15 a0_16 a0_17 a0_18 a0_19 a0_20)) = some r := H
   have A6 := Gv.a0 A60
   clear A60
   by_cases c7 : t385 = true
   ·subst c7
    have H1 : ((impl_PrefixOk.f k a0_7 a0_8 a0_9 a0_10 a0_11 a0_12).bind fun t386 => (if t386 = true then ((impl_within.f a0_13 (-1) 255).bind fun t387 => (if t387 = true then ((impl_isRange.f a0_14 a0_15).bind fun t388 => (if t388 = true then ((impl_isRange.f a0_16 a0_17).bind fun t389 => (impl_RuleOk.j0 k (!t389) a0_0 a0_1 a0_2 a0_3 a0_4 a0_5 a0_6 a0_7 a0_8 a0_9 a0_10 a0_11 a0_12 a0_13 a0_14 a0_15 a0_16 a0_17 a0_18 a0_19 a0_20)) else (impl_RuleOk.j0 k true a0_0 a0_1 a0_2 a0_3 a0_4 a0_5 a0_6 a0_7 a0_8 a0_9 a0_10 a0_11 a0_12 a0_13 a0_14 a0_15 a0_16 a0_17 a0_18 a0_19 a0_20))) else (impl_RuleOk.j0 k true a0_0 a0_1 a0_2 a0_3 a0_4 a0_5 a0_6 a0_7 a0_8 a0_9 a0_10 a0_11 a0_12 a0_13 a0_14 a0_15 a0_16 a0_17 a0_18 a0_19 a0_20))) else (impl_RuleOk.j0 k true a0_0 a0_1 a0_2 a0_3 a0_4 a0_5 a0_6 a0_7 a0_8 a0_9 a0_10 a0_11 a0_12 a0_13 a0_14 a0_15 a0_16 a0_17 a0_18 a0_19 a0_20))) = some r := by rw [if_pos rfl] at H; exact H
    clear H
    have H := H1
    clear H1
    replace H := Option.bind_eq_some_iff.mp H
    obtain ⟨t386, A80, H⟩ := H
    replace H : (if t386 = true then ((impl_within.f a0_13 (-1) 255).bind fun t387 => (if t387 = true then ((impl_isRange.f a0_14 a0_15).bind fun t388 => (if t388 = true then ((impl_isRange.f a0_16 a0_17).bind fun t389 => (impl_RuleOk.j0 k (!t389) a0_0 a0_1 a0_2 a0_3 a0_4 a0_5 a0_6 a0_7 a0_8 a0_9 a0_10 a0_11 a0_12 a0_13 a0_14 a0_15 a0_16 a0_17 a0_18 a0_19 a0_20)) else (impl_RuleOk.j0 k true a0_0 a0_1 a0_2 a0_3 a0_4 a0_5 a0_6 a0_7 a0_8 a0_9 a0_10 a0_11 a0_12 a0_13 a0_14 a0_15 a0_16 a0_17 a0_18 a0_19 a0_20))) else (impl_RuleOk.j0 k true a0_0 a0_1 a0_2 a0_3 a0_4 a0_5 a0_6 a0_7 a0_8 a0_9 a0_10 a0_11 a0_12 a0_13 a0_14 a0_15 a0_16 a0_17 a0_18 a0_19 a0_20))) else (impl_RuleOk.j0 k true a0_0 a0_1 a0_2 a0_3 a0_4 a0_5 a0_6 a0_7 a0_8 a0_9 a0_10 a0_11 a0_12 a0_13 a0_14 a0_15 a0_16 a0_17 a0_18 a0_19 a0_20)) = some r := H
    have A8 := Gv.a0 A80
    clear A80
    by_cases c9 : t386 = true
    ·subst c9
     have H1 : ((impl_within.f a0_13 (-1) 255).bind fun t387 => (if t387 = true then ((impl_isRange.f a0_14 a0_15).bind fun t388 => (if t388 = true then ((impl_isRange.f a0_16 a0_17).bind fun t389 => (impl_RuleOk.j0 k (!t389) a0_0 a0_1 a0_2 a0_3 a0_4 a0_5 a0_6 a0_7 a0_8 a0_9 a0_10 a0_11 a0_12 a0_13 a0_14 a0_15 a0_16 a0_17 a0_18 a0_19 a0_20)) else (impl_RuleOk.j0 k true a0_0 a0_1 a0_2 a0_3 a0_4 a0_5 a0_6 a0_7 a0_8 a0_9 a0_10 a0_11 a0_12 a0_13 a0_14 a0_15 a0_16 a0_17 a0_18 a0_19 a0_20))) else (impl_RuleOk.j0 k true a0_0 a0_1 a0_2 a0_3 a0_4 a0_5 a0_6 a0_7 a0_8 a0_9 a0_10 a0_11 a0_12 a0_13 a0_14 a0_15 a0_16 a0_17 a0_18 a0_19 a0_20))) = some r := by rw [if_pos rfl] at H; exact H
     clear H
     have H := H1
     clear H1
     replace H := Option.bind_eq_some_iff.mp H
     obtain ⟨t387, A100, H⟩ := H
     replace H : (if t387 = true then ((impl_isRange.f a0_14 a0_15).bind fun t388 => (if t388 = true then ((impl_isRange.f a0_16 a0_17).bind fun t389 => (impl_RuleOk.j0 k (!t389) a0_0 a0_1 a0_2 a0_3 a0_4 a0_5 a0_6 a0_7 a0_8 a0_9 a0_10 a0_11 a0_12 a0_13 a0_14 a0_15 a0_16 a0_17 a0_18 a0_19 a0_20)) else (impl_RuleOk.j0 k true a0_0 a0_1 a0_2 a0_3 a0_4 a0_5 a0_6 a0_7 a0_8 a0_9 a0_10 a0_11 a0_12 a0_13 a0_14 a0_15 a0_16 a0_17 a0_18 a0_19 a0_20))) else (impl_RuleOk.j0 k true a0_0 a0_1 a0_2 a0_3 a0_4 a0_5 a0_6 a0_7 a0_8 a0_9 a0_10 a0_11 a0_12 a0_13 a0_14 a0_15 a0_16 a0_17 a0_18 a0_19 a0_20)) = some r := H
     have A10 := Gv.a0 A100
     clear A100
     by_cases c11 : t387 = true
     ·subst c11
      have H1 : ((impl_isRange.f a0_14 a0_15).bind fun t388 => (if t388 = true then ((impl_isRange.f a0_16 a0_17).bind fun t389 => (impl_RuleOk.j0 k (!t389) a0_0 a0_1 a0_2 a0_3 a0_4 a0_5 a0_6 a0_7 a0_8 a0_9 a0_10 a0_11 a0_12 a0_13 a0_14 a0_15 a0_16 a0_17 a0_18 a0_19 a0_20)) else (impl_RuleOk.j0 k true a0_0 a0_1 a0_2 a0_3 a0_4 a0_5 a0_6 a0_7 a0_8 a0_9 a0_10 a0_11 a0_12 a0_13 a0_14 a0_15 a0_16 a0_17 a0_18 a0_19 a0_20))) = some r := by rw [if_pos rfl] at H; exact H
      clear H
      have H := H1
      clear H1
      replace H := Option.bind_eq_some_iff.mp H
      obtain ⟨t388, A120, H⟩ := H
      replace H : (if t388 = true then ((impl_isRange.f a0_16 a0_17).bind fun t389 => (impl_RuleOk.j0 k (!t389) a0_0 a0_1 a0_2 a0_3 a0_4 a0_5 a0_6 a0_7 a0_8 a0_9 a0_10 a0_11 a0_12 a0_13 a0_14 a0_15 a0_16 a0_17 a0_18 a0_19 a0_20)) else (impl_RuleOk.j0 k true a0_0 a0_1 a0_2 a0_3 a0_4 a0_5 a0_6 a0_7 a0_8 a0_9 a0_10 a0_11 a0_12 a0_13 a0_14 a0_15 a0_16 a0_17 a0_18 a0_19 a0_20)) = some r := H
      have A12 := Gv.a0 A120
      clear A120
      by_cases c13 : t388 = true
      ·subst c13
       have H1 : ((impl_isRange.f a0_16 a0_17).bind fun t389 => (impl_RuleOk.j0 k (!t389) a0_0 a0_1 a0_2 a0_3 a0_4 a0_5 a0_6 a0_7 a0_8 a0_9 a0_10 a0_11 a0_12 a0_13 a0_14 a0_15 a0_16 a0_17 a0_18 a0_19 a0_20)) = some r := by rw [if_pos rfl] at H; exact H
       clear H
       have H := H1
       clear H1
       replace H := Option.bind_eq_some_iff.mp H
       obtain ⟨t389, A140, H⟩ := H
       replace H : (impl_RuleOk.j0 k (!t389) a0_0 a0_1 a0_2 a0_3 a0_4 a0_5 a0_6 a0_7 a0_8 a0_9 a0_10 a0_11 a0_12 a0_13 a0_14 a0_15 a0_16 a0_17 a0_18 a0_19 a0_20) = some r := H
       have A14 := Gv.a0 A140
       clear A140
       have H' := Gv.a0 H
       clear H
       obtain ⟨hcz15_0, hcz15_1, hcz15_2, hcz15_3, hcz15_4, hcz15_5, hcz15_6, hcz15_7, hcz15_8, hcz15_9, hcz15_10, hcz15_11, hcz15_12, hcz15_13, hcz15_14, hcz15_15, hcz15_16, hcz15_17, hcz15_18, hcz15_19, hcz15_20⟩ := Gv.c21 BK383.out
       go_wp2_with (first | ((with_reducible refine gate_callee (f := 46) rfl ?_); refine goesL_ (some 5) rfl rfl Try.func46 (by kernel_rfl) rfl #[.int .i64 a0_0, .int .i64 1, .int .i64 9999] rfl Gv.lm ?_; (with_reducible refine (impl_within.calls a0_0 1 9999 true _ A4.out).mono ?_); rintro e w' ⟨rfl, ⟨nd, rfl⟩⟩; refine ⟨_, rfl, ?_⟩) | (go_at_call 47; (with_reducible refine (impl_PrefixOk.calls k a0_1 a0_2 a0_3 a0_4 a0_5 a0_6 true _ A6.out).mono ?_); rintro e w16 ⟨rfl, hb⟩; have n0_ := Gv.a0 (Gv.bb BK383.out hb); have n1_ := Gv.a0 (below_step Gv.bw hb); clear BK383; clear HB; have BK383 := n0_; have HB := n1_; clear n0_ n1_; (try clear hb); (try clear hb2); (try clear hk); (try clear hi); obtain ⟨hcz17_0, hcz17_1, hcz17_2, hcz17_3, hcz17_4, hcz17_5, hcz17_6, hcz17_7, hcz17_8, hcz17_9, hcz17_10, hcz17_11, hcz17_12, hcz17_13, hcz17_14, hcz17_15, hcz17_16, hcz17_17, hcz17_18, hcz17_19, hcz17_20⟩ := Gv.c21 BK383.out) | (go_at_call 47; (with_reducible refine (impl_PrefixOk.calls k a0_7 a0_8 a0_9 a0_10 a0_11 a0_12 true _ A8.out).mono ?_); rintro e w18 ⟨rfl, hb⟩; have n0_ := Gv.a0 (Gv.bb BK383.out hb); have n1_ := Gv.a0 (below_step Gv.bw hb); clear BK383; clear HB; have BK383 := n0_; have HB := n1_; clear n0_ n1_; (try clear hb); (try clear hb2); (try clear hk); (try clear hi); obtain ⟨hcz19_0, hcz19_1, hcz19_2, hcz19_3, hcz19_4, hcz19_5, hcz19_6, hcz19_7, hcz19_8, hcz19_9, hcz19_10, hcz19_11, hcz19_12, hcz19_13, hcz19_14, hcz19_15, hcz19_16, hcz19_17, hcz19_18, hcz19_19, hcz19_20⟩ := Gv.c21 BK383.out) | (go_at_call 46; (with_reducible refine (impl_within.calls a0_13 (-1) 255 true _ A10.out).mono ?_); rintro e w' ⟨rfl, ⟨nd, rfl⟩⟩) | (go_at_call 48; (with_reducible refine (impl_isRange.calls a0_14 a0_15 true _ A12.out).mono ?_); rintro e w' ⟨rfl, ⟨nd, rfl⟩⟩) | (go_at_call 48; (with_reducible refine (impl_isRange.calls a0_16 a0_17 t389 _ A14.out).mono ?_); rintro e w' ⟨rfl, ⟨nd, rfl⟩⟩) | ((with_reducible refine Gv.gate_load (t := 55) rfl ?_); (try (refine gate_guard (by rfl) ?_; dsimp only)); refine wpList_load_row rfl 55 _ rfl gb383 rfl 55 _ _ _ (by first | exact Gv.kb0 BK383.out | exact Gv.kb1 (Gv.kb0 BK383.out)) Try.underlying55 rfl (by kernel_rfl) ?_))
       go_meet
       case rel => exact ⟨_, (!t389), Gv.rq, H', ⟨by first | omega | exact Nat.le_refl _⟩, ⟨by (with_reducible repeat (first | refine blk_drewN ?_ _ | refine blk_drew ?_ | refine blk_alloc ?_ _)); exact BK383.out⟩, ⟨Gv.bw⟩⟩
      ·replace c13 := Bool.eq_false_iff.mpr c13
       subst c13
       have H1 : (impl_RuleOk.j0 k true a0_0 a0_1 a0_2 a0_3 a0_4 a0_5 a0_6 a0_7 a0_8 a0_9 a0_10 a0_11 a0_12 a0_13 a0_14 a0_15 a0_16 a0_17 a0_18 a0_19 a0_20) = some r := by rw [if_neg (show ¬ (false = true) by decide)] at H; exact H
       clear H
       have H := H1
       clear H1
       have H' := Gv.a0 H
       clear H
       obtain ⟨hcz20_0, hcz20_1, hcz20_2, hcz20_3, hcz20_4, hcz20_5, hcz20_6, hcz20_7, hcz20_8, hcz20_9, hcz20_10, hcz20_11, hcz20_12, hcz20_13, hcz20_14, hcz20_15, hcz20_16, hcz20_17, hcz20_18, hcz20_19, hcz20_20⟩ := Gv.c21 BK383.out
       go_wp2_with (first | ((with_reducible refine gate_callee (f := 46) rfl ?_); refine goesL_ (some 5) rfl rfl Try.func46 (by kernel_rfl) rfl #[.int .i64 a0_0, .int .i64 1, .int .i64 9999] rfl Gv.lm ?_; (with_reducible refine (impl_within.calls a0_0 1 9999 true _ A4.out).mono ?_); rintro e w' ⟨rfl, ⟨nd, rfl⟩⟩; refine ⟨_, rfl, ?_⟩) | (go_at_call 47; (with_reducible refine (impl_PrefixOk.calls k a0_1 a0_2 a0_3 a0_4 a0_5 a0_6 true _ A6.out).mono ?_); rintro e w21 ⟨rfl, hb⟩; have n0_ := Gv.a0 (Gv.bb BK383.out hb); have n1_ := Gv.a0 (below_step Gv.bw hb); clear BK383; clear HB; have BK383 := n0_; have HB := n1_; clear n0_ n1_; (try clear hb); (try clear hb2); (try clear hk); (try clear hi); obtain ⟨hcz22_0, hcz22_1, hcz22_2, hcz22_3, hcz22_4, hcz22_5, hcz22_6, hcz22_7, hcz22_8, hcz22_9, hcz22_10, hcz22_11, hcz22_12, hcz22_13, hcz22_14, hcz22_15, hcz22_16, hcz22_17, hcz22_18, hcz22_19, hcz22_20⟩ := Gv.c21 BK383.out) | (go_at_call 47; (with_reducible refine (impl_PrefixOk.calls k a0_7 a0_8 a0_9 a0_10 a0_11 a0_12 true _ A8.out).mono ?_); rintro e w23 ⟨rfl, hb⟩; have n0_ := Gv.a0 (Gv.bb BK383.out hb); have n1_ := Gv.a0 (below_step Gv.bw hb); clear BK383; clear HB; have BK383 := n0_; have HB := n1_; clear n0_ n1_; (try clear hb); (try clear hb2); (try clear hk); (try clear hi); obtain ⟨hcz24_0, hcz24_1, hcz24_2, hcz24_3, hcz24_4, hcz24_5, hcz24_6, hcz24_7, hcz24_8, hcz24_9, hcz24_10, hcz24_11, hcz24_12, hcz24_13, hcz24_14, hcz24_15, hcz24_16, hcz24_17, hcz24_18, hcz24_19, hcz24_20⟩ := Gv.c21 BK383.out) | (go_at_call 46; (with_reducible refine (impl_within.calls a0_13 (-1) 255 true _ A10.out).mono ?_); rintro e w' ⟨rfl, ⟨nd, rfl⟩⟩) | (go_at_call 48; (with_reducible refine (impl_isRange.calls a0_14 a0_15 false _ A12.out).mono ?_); rintro e w' ⟨rfl, ⟨nd, rfl⟩⟩) | ((with_reducible refine Gv.gate_load (t := 55) rfl ?_); (try (refine gate_guard (by rfl) ?_; dsimp only)); refine wpList_load_row rfl 55 _ rfl gb383 rfl 55 _ _ _ (by first | exact Gv.kb0 BK383.out | exact Gv.kb1 (Gv.kb0 BK383.out)) Try.underlying55 rfl (by kernel_rfl) ?_))
       go_meet
       case rel => exact ⟨_, (true), Gv.rq, H', ⟨by first | omega | exact Nat.le_refl _⟩, ⟨by (with_reducible repeat (first | refine blk_drewN ?_ _ | refine blk_drew ?_ | refine blk_alloc ?_ _)); exact BK383.out⟩, ⟨Gv.bw⟩⟩
     ·replace c11 := Bool.eq_false_iff.mpr c11
      subst c11
      have H1 : (impl_RuleOk.j0 k true a0_0 a0_1 a0_2 a0_3 a0_4 a0_5 a0_6 a0_7 a0_8 a0_9 a0_10 a0_11 a0_12 a0_13 a0_14 a0_15 a0_16 a0_17 a0_18 a0_19 a0_20) = some r := by rw [if_neg (show ¬ (false = true) by decide)] at H; exact H
      clear H
      have H := H1
      clear H1
      have H' := Gv.a0 H
      clear H
      obtain ⟨hcz25_0, hcz25_1, hcz25_2, hcz25_3, hcz25_4, hcz25_5, hcz25_6, hcz25_7, hcz25_8, hcz25_9, hcz25_10, hcz25_11, hcz25_12, hcz25_13, hcz25_14, hcz25_15, hcz25_16, hcz25_17, hcz25_18, hcz25_19, hcz25_20⟩ := Gv.c21 BK383.out
      go_wp2_with (first | ((with_reducible refine gate_callee (f := 46) rfl ?_); refine goesL_ (some 5) rfl rfl Try.func46 (by kernel_rfl) rfl #[.int .i64 a0_0, .int .i64 1, .int .i64 9999] rfl Gv.lm ?_; (with_reducible refine (impl_within.calls a0_0 1 9999 true _ A4.out).mono ?_); rintro e w' ⟨rfl, ⟨nd, rfl⟩⟩; refine ⟨_, rfl, ?_⟩) | (go_at_call 47; (with_reducible refine (impl_PrefixOk.calls k a0_1 a0_2 a0_3 a0_4 a0_5 a0_6 true _ A6.out).mono ?_); rintro e w26 ⟨rfl, hb⟩; have n0_ := Gv.a0 (Gv.bb BK383.out hb); have n1_ := Gv.a0 (below_step Gv.bw hb); clear BK383; clear HB; have BK383 := n0_; have HB := n1_; clear n0_ n1_; (try clear hb); (try clear hb2); (try clear hk); (try clear hi); obtain ⟨hcz27_0, hcz27_1, hcz27_2, hcz27_3, hcz27_4, hcz27_5, hcz27_6, hcz27_7, hcz27_8, hcz27_9, hcz27_10, hcz27_11, hcz27_12, hcz27_13, hcz27_14, hcz27_15, hcz27_16, hcz27_17, hcz27_18, hcz27_19, hcz27_20⟩ := Gv.c21 BK383.out) | (go_at_call 47; (with_reducible refine (impl_PrefixOk.calls k a0_7 a0_8 a0_9 a0_10 a0_11 a0_12 true _ A8.out).mono ?_); rintro e w28 ⟨rfl, hb⟩; have n0_ := Gv.a0 (Gv.bb BK383.out hb); have n1_ := Gv.a0 (below_step Gv.bw hb); clear BK383; clear HB; have BK383 := n0_; have HB := n1_; clear n0_ n1_; (try clear hb); (try clear hb2); (try clear hk); (try clear hi); obtain ⟨hcz29_0, hcz29_1, hcz29_2, hcz29_3, hcz29_4, hcz29_5, hcz29_6, hcz29_7, hcz29_8, hcz29_9, hcz29_10, hcz29_11, hcz29_12, hcz29_13, hcz29_14, hcz29_15, hcz29_16, hcz29_17, hcz29_18, hcz29_19, hcz29_20⟩ := Gv.c21 BK383.out) | (go_at_call 46; (with_reducible refine (impl_within.calls a0_13 (-1) 255 false _ A10.out).mono ?_); rintro e w' ⟨rfl, ⟨nd, rfl⟩⟩) | ((with_reducible refine Gv.gate_load (t := 55) rfl ?_); (try (refine gate_guard (by rfl) ?_; dsimp only)); refine wpList_load_row rfl 55 _ rfl gb383 rfl 55 _ _ _ (by first | exact Gv.kb0 BK383.out | exact Gv.kb1 (Gv.kb0 BK383.out)) Try.underlying55 rfl (by kernel_rfl) ?_))
      go_meet
      case rel => exact ⟨_, (true), Gv.rq, H', ⟨by first | omega | exact Nat.le_refl _⟩, ⟨by (with_reducible repeat (first | refine blk_drewN ?_ _ | refine blk_drew ?_ | refine blk_alloc ?_ _)); exact BK383.out⟩, ⟨Gv.bw⟩⟩
    ·replace c9 := Bool.eq_false_iff.mpr c9
     subst c9
     have H1 : (impl_RuleOk.j0 k true a0_0 a0_1 a0_2 a0_3 a0_4 a0_5 a0_6 a0_7 a0_8 a0_9 a0_10 a0_11 a0_12 a0_13 a0_14 a0_15 a0_16 a0_17 a0_18 a0_19 a0_20) = some r := by rw [if_neg (show ¬ (false = true) by decide)] at H; exact H
     clear H
     have H := H1
     clear H1
     have H' := Gv.a0 H
     clear H
     obtain ⟨hcz30_0, hcz30_1, hcz30_2, hcz30_3, hcz30_4, hcz30_5, hcz30_6, hcz30_7, hcz30_8, hcz30_9, hcz30_10, hcz30_11, hcz30_12, hcz30_13, hcz30_14, hcz30_15, hcz30_16, hcz30_17, hcz30_18, hcz30_19, hcz30_20⟩ := Gv.c21 BK383.out
     go_wp2_with (first | ((with_reducible refine gate_callee (f := 46) rfl ?_); refine goesL_ (some 5) rfl rfl Try.func46 (by kernel_rfl) rfl #[.int .i64 a0_0, .int .i64 1, .int .i64 9999] rfl Gv.lm ?_; (with_reducible refine (impl_within.calls a0_0 1 9999 true _ A4.out).mono ?_); rintro e w' ⟨rfl, ⟨nd, rfl⟩⟩; refine ⟨_, rfl, ?_⟩) | (go_at_call 47; (with_reducible refine (impl_PrefixOk.calls k a0_1 a0_2 a0_3 a0_4 a0_5 a0_6 true _ A6.out).mono ?_); rintro e w31 ⟨rfl, hb⟩; have n0_ := Gv.a0 (Gv.bb BK383.out hb); have n1_ := Gv.a0 (below_step Gv.bw hb); clear BK383; clear HB; have BK383 := n0_; have HB := n1_; clear n0_ n1_; (try clear hb); (try clear hb2); (try clear hk); (try clear hi); obtain ⟨hcz32_0, hcz32_1, hcz32_2, hcz32_3, hcz32_4, hcz32_5, hcz32_6, hcz32_7, hcz32_8, hcz32_9, hcz32_10, hcz32_11, hcz32_12, hcz32_13, hcz32_14, hcz32_15, hcz32_16, hcz32_17, hcz32_18, hcz32_19, hcz32_20⟩ := Gv.c21 BK383.out) | (go_at_call 47; (with_reducible refine (impl_PrefixOk.calls k a0_7 a0_8 a0_9 a0_10 a0_11 a0_12 false _ A8.out).mono ?_); rintro e w33 ⟨rfl, hb⟩; have n0_ := Gv.a0 (Gv.bb BK383.out hb); have n1_ := Gv.a0 (below_step Gv.bw hb); clear BK383; clear HB; have BK383 := n0_; have HB := n1_; clear n0_ n1_; (try clear hb); (try clear hb2); (try clear hk); (try clear hi)) | ((with_reducible refine Gv.gate_load (t := 55) rfl ?_); (try (refine gate_guard (by rfl) ?_; dsimp only)); refine wpList_load_row rfl 55 _ rfl gb383 rfl 55 _ _ _ (by first | exact Gv.kb0 BK383.out | exact Gv.kb1 (Gv.kb0 BK383.out)) Try.underlying55 rfl (by kernel_rfl) ?_))
     go_meet
     case rel => exact ⟨_, (true), Gv.rq, H', ⟨by first | omega | exact Nat.le_refl _⟩, ⟨by (with_reducible repeat (first | refine blk_drewN ?_ _ | refine blk_drew ?_ | refine blk_alloc ?_ _)); exact BK383.out⟩, ⟨Gv.bw⟩⟩
   ·replace c7 := Bool.eq_false_iff.mpr c7
    subst c7
    have H1 : (impl_RuleOk.j0 k true a0_0 a0_1 a0_2 a0_3 a0_4 a0_5 a0_6 a0_7 a0_8 a0_9 a0_10 a0_11 a0_12 a0_13 a0_14 a0_15 a0_16 a0_17 a0_18 a0_19 a0_20) = some r := by rw [if_neg (show ¬ (false = true) by decide)] at H; exact H
    clear H
    have H := H1
    clear H1
    have H' := Gv.a0 H
    clear H
    obtain ⟨hcz34_0, hcz34_1, hcz34_2, hcz34_3, hcz34_4, hcz34_5, hcz34_6, hcz34_7, hcz34_8, hcz34_9, hcz34_10, hcz34_11, hcz34_12, hcz34_13, hcz34_14, hcz34_15, hcz34_16, hcz34_17, hcz34_18, hcz34_19, hcz34_20⟩ := Gv.c21 BK383.out
    go_wp2_with (first | ((with_reducible refine gate_callee (f := 46) rfl ?_); refine goesL_ (some 5) rfl rfl Try.func46 (by kernel_rfl) rfl #[.int .i64 a0_0, .int .i64 1, .int .i64 9999] rfl Gv.lm ?_; (with_reducible refine (impl_within.calls a0_0 1 9999 true _ A4.out).mono ?_); rintro e w' ⟨rfl, ⟨nd, rfl⟩⟩; refine ⟨_, rfl, ?_⟩) | (go_at_call 47; (with_reducible refine (impl_PrefixOk.calls k a0_1 a0_2 a0_3 a0_4 a0_5 a0_6 false _ A6.out).mono ?_); rintro e w35 ⟨rfl, hb⟩; have n0_ := Gv.a0 (Gv.bb BK383.out hb); have n1_ := Gv.a0 (below_step Gv.bw hb); clear BK383; clear HB; have BK383 := n0_; have HB := n1_; clear n0_ n1_; (try clear hb); (try clear hb2); (try clear hk); (try clear hi)) | ((with_reducible refine Gv.gate_load (t := 55) rfl ?_); (try (refine gate_guard (by rfl) ?_; dsimp only)); refine wpList_load_row rfl 55 _ rfl gb383 rfl 55 _ _ _ (by first | exact Gv.kb0 BK383.out | exact Gv.kb1 (Gv.kb0 BK383.out)) Try.underlying55 rfl (by kernel_rfl) ?_))
    go_meet
    case rel => exact ⟨_, (true), Gv.rq, H', ⟨by first | omega | exact Nat.le_refl _⟩, ⟨by (with_reducible repeat (first | refine blk_drewN ?_ _ | refine blk_drew ?_ | refine blk_alloc ?_ _)); exact BK383.out⟩, ⟨Gv.bw⟩⟩
  ·replace c5 := Bool.eq_false_iff.mpr c5
   subst c5
   have H1 : (impl_RuleOk.j0 k true a0_0 a0_1 a0_2 a0_3 a0_4 a0_5 a0_6 a0_7 a0_8 a0_9 a0_10 a0_11 a0_12 a0_13 a0_14 a0_15 a0_16 a0_17 a0_18 a0_19 a0_20) = some r := by rw [if_neg (show ¬ (false = true) by decide)] at H; exact H
   clear H
   have H := H1
   clear H1
   have H' := Gv.a0 H
   clear H
   obtain ⟨hcz36_0, hcz36_1, hcz36_2, hcz36_3, hcz36_4, hcz36_5, hcz36_6, hcz36_7, hcz36_8, hcz36_9, hcz36_10, hcz36_11, hcz36_12, hcz36_13, hcz36_14, hcz36_15, hcz36_16, hcz36_17, hcz36_18, hcz36_19, hcz36_20⟩ := Gv.c21 BK383.out
   go_wp2_with (first | ((with_reducible refine gate_callee (f := 46) rfl ?_); refine goesL_ (some 5) rfl rfl Try.func46 (by kernel_rfl) rfl #[.int .i64 a0_0, .int .i64 1, .int .i64 9999] rfl Gv.lm ?_; (with_reducible refine (impl_within.calls a0_0 1 9999 false _ A4.out).mono ?_); rintro e w' ⟨rfl, ⟨nd, rfl⟩⟩; refine ⟨_, rfl, ?_⟩) | ((with_reducible refine Gv.gate_load (t := 55) rfl ?_); (try (refine gate_guard (by rfl) ?_; dsimp only)); refine wpList_load_row rfl 55 _ rfl gb383 rfl 55 _ _ _ (by first | exact Gv.kb0 BK383.out | exact Gv.kb1 (Gv.kb0 BK383.out)) Try.underlying55 rfl (by kernel_rfl) ?_))
   go_meet
   case rel => exact ⟨_, (true), Gv.rq, H', ⟨by first | omega | exact Nat.le_refl _⟩, ⟨by (with_reducible repeat (first | refine blk_drewN ?_ _ | refine blk_drew ?_ | refine blk_alloc ?_ _)); exact BK383.out⟩, ⟨Gv.bw⟩⟩
 case rest =>
  clear HC2
  try clear c1
  try clear c2
  try clear p2
  try clear c4
  try clear c5
  try clear c7
  try clear c9
  try clear c11
  try clear c13
  try clear c29
  try clear hcz15_0 hcz15_1
  try clear hcz15_10 hcz15_11 hcz15_12 hcz15_13 hcz15_14 hcz15_15 hcz15_16 hcz15_17 hcz15_18 hcz15_19
  try clear hcz15_2
  try clear hcz15_20
  try clear hcz15_3 hcz15_4 hcz15_5 hcz15_6 hcz15_7 hcz15_8 hcz15_9
  try clear hcz17_0 hcz17_1
  try clear hcz17_10 hcz17_11 hcz17_12 hcz17_13 hcz17_14 hcz17_15 hcz17_16 hcz17_17 hcz17_18 hcz17_19
  try clear hcz17_2
  try clear hcz17_20
  try clear hcz17_3 hcz17_4 hcz17_5 hcz17_6 hcz17_7 hcz17_8 hcz17_9
  try clear hcz19_0 hcz19_1
  try clear hcz19_10 hcz19_11 hcz19_12 hcz19_13 hcz19_14 hcz19_15 hcz19_16 hcz19_17 hcz19_18 hcz19_19
  try clear hcz19_2
  try clear hcz19_20
  try clear hcz19_3 hcz19_4 hcz19_5 hcz19_6 hcz19_7 hcz19_8 hcz19_9
  try clear hcz20_0 hcz20_1
  try clear hcz20_10 hcz20_11 hcz20_12 hcz20_13 hcz20_14 hcz20_15 hcz20_16 hcz20_17 hcz20_18 hcz20_19
  try clear hcz20_2
  try clear hcz20_20
  try clear hcz20_3 hcz20_4 hcz20_5 hcz20_6 hcz20_7 hcz20_8 hcz20_9
  try clear hcz22_0 hcz22_1
  try clear hcz22_10 hcz22_11 hcz22_12 hcz22_13 hcz22_14 hcz22_15 hcz22_16 hcz22_17 hcz22_18 hcz22_19
  try clear hcz22_2
  try clear hcz22_20
  try clear hcz22_3 hcz22_4 hcz22_5 hcz22_6 hcz22_7 hcz22_8 hcz22_9
  try clear hcz24_0 hcz24_1
  try clear hcz24_10 hcz24_11 hcz24_12 hcz24_13 hcz24_14 hcz24_15 hcz24_16 hcz24_17 hcz24_18 hcz24_19
  try clear hcz24_2
  try clear hcz24_20
  try clear hcz24_3 hcz24_4 hcz24_5 hcz24_6 hcz24_7 hcz24_8 hcz24_9
  try clear hcz25_0 hcz25_1
  try clear hcz25_10 hcz25_11 hcz25_12 hcz25_13 hcz25_14 hcz25_15 hcz25_16 hcz25_17 hcz25_18 hcz25_19
  try clear hcz25_2
  try clear hcz25_20
  try clear hcz25_3 hcz25_4 hcz25_5 hcz25_6 hcz25_7 hcz25_8 hcz25_9
  try clear hcz27_0 hcz27_1
  try clear hcz27_10 hcz27_11 hcz27_12 hcz27_13 hcz27_14 hcz27_15 hcz27_16 hcz27_17 hcz27_18 hcz27_19
  try clear hcz27_2
  try clear hcz27_20
  try clear hcz27_3 hcz27_4 hcz27_5 hcz27_6 hcz27_7 hcz27_8 hcz27_9
  try clear hcz29_0 hcz29_1
  try clear hcz29_10 hcz29_11 hcz29_12 hcz29_13 hcz29_14 hcz29_15 hcz29_16 hcz29_17 hcz29_18 hcz29_19
  try clear hcz29_2
  try clear hcz29_20
  try clear hcz29_3 hcz29_4 hcz29_5 hcz29_6 hcz29_7 hcz29_8 hcz29_9
  try clear hcz30_0 hcz30_1
  try clear hcz30_10 hcz30_11 hcz30_12 hcz30_13 hcz30_14 hcz30_15 hcz30_16 hcz30_17 hcz30_18 hcz30_19
  try clear hcz30_2
  try clear hcz30_20
  try clear hcz30_3 hcz30_4 hcz30_5 hcz30_6 hcz30_7 hcz30_8 hcz30_9
  try clear hcz32_0 hcz32_1
  try clear hcz32_10 hcz32_11 hcz32_12 hcz32_13 hcz32_14 hcz32_15 hcz32_16 hcz32_17 hcz32_18 hcz32_19
  try clear hcz32_2
  try clear hcz32_20
  try clear hcz32_3 hcz32_4 hcz32_5 hcz32_6 hcz32_7 hcz32_8 hcz32_9
  try clear hcz34_0 hcz34_1
  try clear hcz34_10 hcz34_11 hcz34_12 hcz34_13 hcz34_14 hcz34_15 hcz34_16 hcz34_17 hcz34_18 hcz34_19
  try clear hcz34_2
  try clear hcz34_20
  try clear hcz34_3 hcz34_4 hcz34_5 hcz34_6 hcz34_7 hcz34_8 hcz34_9
  try clear hcz36_0 hcz36_1
  try clear hcz36_10 hcz36_11 hcz36_12 hcz36_13 hcz36_14 hcz36_15 hcz36_16 hcz36_17 hcz36_18 hcz36_19
  try clear hcz36_2
  try clear hcz36_20
  try clear hcz36_3 hcz36_4 hcz36_5 hcz36_6 hcz36_7 hcz36_8 hcz36_9
  obtain ⟨kq, x40_1, rfl, HA, HJ1, BK383, HB⟩ := hcut
  cases kq with
  | zero => exact absurd HA.out (by simp [impl_RuleOk.j0])
  | succ kj1 =>
   have H := HA.out
   clear HA
   simp only [impl_RuleOk.j0] at H
   by_cases c37 : x40_1 = true
   ·subst c37
    have H1 : (some false) = some r := by rw [if_pos rfl] at H; exact H
    clear H
    have H := H1
    clear H1
    obtain rfl := Option.some.inj H
    go_wp2_with (first | ((with_reducible refine Gv.gate_load (t := 55) rfl ?_); (try (refine gate_guard (by rfl) ?_; dsimp only)); refine wpList_load_row rfl 55 _ rfl gb383 rfl 55 _ _ _ (by first | exact Gv.kb0 BK383.out | exact Gv.kb1 (Gv.kb0 BK383.out)) Try.underlying55 rfl (by kernel_rfl) ?_))
    go_ret
    exact ⟨Gv.rt, Gv.bw⟩
   ·replace c37 := Bool.eq_false_iff.mpr c37
    subst c37
    have H1 : ((impl_within.f a0_18 1 8).bind fun t390 => (if t390 = true then ((impl_within.f a0_19 1 10).bind fun t391 => (if t391 = true then ((impl_within.f a0_20 1 8).bind fun t392 => (some t392)) else (some false))) else (some false))) = some r := by rw [if_neg (show ¬ (false = true) by decide)] at H; exact H
    clear H
    have H := H1
    clear H1
    replace H := Option.bind_eq_some_iff.mp H
    obtain ⟨t390, A380, H⟩ := H
    replace H : (if t390 = true then ((impl_within.f a0_19 1 10).bind fun t391 => (if t391 = true then ((impl_within.f a0_20 1 8).bind fun t392 => (some t392)) else (some false))) else (some false)) = some r := H
    have A38 := Gv.a0 A380
    clear A380
    by_cases c39 : t390 = true
    ·subst c39
     have H1 : ((impl_within.f a0_19 1 10).bind fun t391 => (if t391 = true then ((impl_within.f a0_20 1 8).bind fun t392 => (some t392)) else (some false))) = some r := by rw [if_pos rfl] at H; exact H
     clear H
     have H := H1
     clear H1
     replace H := Option.bind_eq_some_iff.mp H
     obtain ⟨t391, A400, H⟩ := H
     replace H : (if t391 = true then ((impl_within.f a0_20 1 8).bind fun t392 => (some t392)) else (some false)) = some r := H
     have A40 := Gv.a0 A400
     clear A400
     by_cases c41 : t391 = true
     ·subst c41
      have H1 : ((impl_within.f a0_20 1 8).bind fun t392 => (some t392)) = some r := by rw [if_pos rfl] at H; exact H
      clear H
      have H := H1
      clear H1
      replace H := Option.bind_eq_some_iff.mp H
      obtain ⟨t392, A420, H⟩ := H
      replace H : (some t392) = some r := H
      have A42 := Gv.a0 A420
      clear A420
      obtain rfl := Option.some.inj H
      obtain ⟨hcz43_0, hcz43_1, hcz43_2, hcz43_3, hcz43_4, hcz43_5, hcz43_6, hcz43_7, hcz43_8, hcz43_9, hcz43_10, hcz43_11, hcz43_12, hcz43_13, hcz43_14, hcz43_15, hcz43_16, hcz43_17, hcz43_18, hcz43_19, hcz43_20⟩ := Gv.c21 BK383.out
      go_wp2_with (first | ((with_reducible refine gate_callee (f := 46) rfl ?_); refine goesL_ (some 43) rfl rfl Try.func46 (by kernel_rfl) rfl #[.int .i64 a0_18, .int .i64 1, .int .i64 8] rfl Gv.lm ?_; (with_reducible refine (impl_within.calls a0_18 1 8 true _ A38.out).mono ?_); rintro e w' ⟨rfl, ⟨nd, rfl⟩⟩; refine ⟨_, rfl, ?_⟩) | (go_at_call 46; (with_reducible refine (impl_within.calls a0_19 1 10 true _ A40.out).mono ?_); rintro e w' ⟨rfl, ⟨nd, rfl⟩⟩) | (go_at_call 46; (with_reducible refine (impl_within.calls a0_20 1 8 t392 _ A42.out).mono ?_); rintro e w' ⟨rfl, ⟨nd, rfl⟩⟩) | ((with_reducible refine Gv.gate_load (t := 55) rfl ?_); (try (refine gate_guard (by rfl) ?_; dsimp only)); refine wpList_load_row rfl 55 _ rfl gb383 rfl 55 _ _ _ (by first | exact Gv.kb0 BK383.out | exact Gv.kb1 (Gv.kb0 BK383.out)) Try.underlying55 rfl (by kernel_rfl) ?_))
      go_ret
      exact ⟨Gv.rt, Gv.bw⟩
     ·replace c41 := Bool.eq_false_iff.mpr c41
      subst c41
      have H1 : (some false) = some r := by rw [if_neg (show ¬ (false = true) by decide)] at H; exact H
      clear H
      have H := H1
      clear H1
      obtain rfl := Option.some.inj H
      obtain ⟨hcz44_0, hcz44_1, hcz44_2, hcz44_3, hcz44_4, hcz44_5, hcz44_6, hcz44_7, hcz44_8, hcz44_9, hcz44_10, hcz44_11, hcz44_12, hcz44_13, hcz44_14, hcz44_15, hcz44_16, hcz44_17, hcz44_18, hcz44_19, hcz44_20⟩ := Gv.c21 BK383.out
      go_wp2_with (first | ((with_reducible refine gate_callee (f := 46) rfl ?_); refine goesL_ (some 43) rfl rfl Try.func46 (by kernel_rfl) rfl #[.int .i64 a0_18, .int .i64 1, .int .i64 8] rfl Gv.lm ?_; (with_reducible refine (impl_within.calls a0_18 1 8 true _ A38.out).mono ?_); rintro e w' ⟨rfl, ⟨nd, rfl⟩⟩; refine ⟨_, rfl, ?_⟩) | (go_at_call 46; (with_reducible refine (impl_within.calls a0_19 1 10 false _ A40.out).mono ?_); rintro e w' ⟨rfl, ⟨nd, rfl⟩⟩) | ((with_reducible refine Gv.gate_load (t := 55) rfl ?_); (try (refine gate_guard (by rfl) ?_; dsimp only)); refine wpList_load_row rfl 55 _ rfl gb383 rfl 55 _ _ _ (by first | exact Gv.kb0 BK383.out | exact Gv.kb1 (Gv.kb0 BK383.out)) Try.underlying55 rfl (by kernel_rfl) ?_))
      go_ret
      exact ⟨Gv.rt, Gv.bw⟩
    ·replace c39 := Bool.eq_false_iff.mpr c39
     subst c39
     have H1 : (some false) = some r := by rw [if_neg (show ¬ (false = true) by decide)] at H; exact H
     clear H
     have H := H1
     clear H1
     obtain rfl := Option.some.inj H
     obtain ⟨hcz45_0, hcz45_1, hcz45_2, hcz45_3, hcz45_4, hcz45_5, hcz45_6, hcz45_7, hcz45_8, hcz45_9, hcz45_10, hcz45_11, hcz45_12, hcz45_13, hcz45_14, hcz45_15, hcz45_16, hcz45_17, hcz45_18, hcz45_19, hcz45_20⟩ := Gv.c21 BK383.out
     go_wp2_with (first | ((with_reducible refine gate_callee (f := 46) rfl ?_); refine goesL_ (some 43) rfl rfl Try.func46 (by kernel_rfl) rfl #[.int .i64 a0_18, .int .i64 1, .int .i64 8] rfl Gv.lm ?_; (with_reducible refine (impl_within.calls a0_18 1 8 false _ A38.out).mono ?_); rintro e w' ⟨rfl, ⟨nd, rfl⟩⟩; refine ⟨_, rfl, ?_⟩) | ((with_reducible refine Gv.gate_load (t := 55) rfl ?_); (try (refine gate_guard (by rfl) ?_; dsimp only)); refine wpList_load_row rfl 55 _ rfl gb383 rfl 55 _ _ _ (by first | exact Gv.kb0 BK383.out | exact Gv.kb1 (Gv.kb0 BK383.out)) Try.underlying55 rfl (by kernel_rfl) ?_))
     go_ret
     exact ⟨Gv.rt, Gv.bw⟩

/-! ### impl_RulesOk: function 11 -/
def impl_RulesOk.l0 : Nat → List (S55) → List (S55) → Int → Int → Option (Bool)
 | 0, _, _, _, _ => none
 | k + 1, x0, x5, x6, x7 => if x7 < x6 then (if 0 ≤ x7 then (if x7 < (x5.length : Int) then ((impl_RuleOk.f k ((rd_T55 x5 x7).f0) ((rd_T55 x5 x7).f1.f0.f0) ((rd_T55 x5 x7).f1.f0.f1) ((rd_T55 x5 x7).f1.f0.f2) ((rd_T55 x5 x7).f1.f0.f3) ((rd_T55 x5 x7).f1.f0.f4) ((rd_T55 x5 x7).f1.f1) ((rd_T55 x5 x7).f2.f0.f0) ((rd_T55 x5 x7).f2.f0.f1) ((rd_T55 x5 x7).f2.f0.f2) ((rd_T55 x5 x7).f2.f0.f3) ((rd_T55 x5 x7).f2.f0.f4) ((rd_T55 x5 x7).f2.f1) ((rd_T55 x5 x7).f3) ((rd_T55 x5 x7).f4) ((rd_T55 x5 x7).f5) ((rd_T55 x5 x7).f6) ((rd_T55 x5 x7).f7) ((rd_T55 x5 x7).f8) ((rd_T55 x5 x7).f9) ((rd_T55 x5 x7).f10)).bind fun t395 => (if t395 = true then (if x7 > 0 then (if 0 ≤ (wrap64 (x7 - 1)) then (if (wrap64 (x7 - 1)) < (x0.length : Int) then (if ((rd_T55 x0 (wrap64 (x7 - 1))).f0) ≥ ((rd_T55 x5 x7).f0) then (some false) else (impl_RulesOk.l0 k x0 x5 x6 (wrap64 (x7 + 1)))) else (none)) else (none)) else (impl_RulesOk.l0 k x0 x5 x6 (wrap64 (x7 + 1)))) else (some false))) else (none)) else (none)) else (some (decide ((x0.length : Int) ≤ 32)))
def impl_RulesOk.f (k : Nat) (l0 : List (S55)) : Option (Bool) := impl_RulesOk.l0 k l0 l0 (l0.length : Int) 0
theorem impl_RulesOk.mono_l : ∀ k, (∀ y0 y1 y2 y3, LeO (impl_RulesOk.l0 k y0 y1 y2 y3) (impl_RulesOk.l0 (k + 1) y0 y1 y2 y3))
 | 0 => fun _ _ _ _ r h => by simp [impl_RulesOk.l0] at h
 | k + 1 => by
  have ih0 := impl_RulesOk.mono_l k
  ·intro y0 y1 y2 y3
   unfold impl_RulesOk.l0
   repeat' first
   | (with_reducible exact ih0 _ _ _ _)
   | (with_reducible exact impl_RuleOk.mono _ _ _ _ _ _ _ _ _ _ _ _ _ _ _ _ _ _ _ _ _ _)
   | (with_reducible exact LeO.refl _)
   | (with_reducible exact LeO.none _)
   | (with_reducible refine LeO.ite ?_ ?_)
   | (with_reducible refine LeO.bind ?_ (fun _ => ?_))
   | exact ih0 _ _ _ _
   | exact impl_RuleOk.mono _ _ _ _ _ _ _ _ _ _ _ _ _ _ _ _ _ _ _ _ _ _
   | exact LeO.none _
   | refine LeO.ite ?_ ?_
   | refine LeO.bind ?_ (fun _ => ?_)
theorem impl_RulesOk.mono : ∀ a0 k, LeO (impl_RulesOk.f k a0) (impl_RulesOk.f (k + 1) a0) := by
 intro a0 k
 have ih0 := impl_RulesOk.mono_l k
 unfold impl_RulesOk.f
 repeat' first
   | (with_reducible exact ih0 _ _ _ _)
   | (with_reducible exact impl_RuleOk.mono _ _ _ _ _ _ _ _ _ _ _ _ _ _ _ _ _ _ _ _ _ _)
   | (with_reducible exact LeO.refl _)
   | (with_reducible exact LeO.none _)
   | (with_reducible refine LeO.ite ?_ ?_)
   | (with_reducible refine LeO.bind ?_ (fun _ => ?_))
   | exact ih0 _ _ _ _
   | exact impl_RuleOk.mono _ _ _ _ _ _ _ _ _ _ _ _ _ _ _ _ _ _ _ _ _ _
   | exact LeO.none _
   | refine LeO.ite ?_ ?_
   | refine LeO.bind ?_ (fun _ => ?_)
def impl_RulesOk.T4 : Bool × List (List Nat × List Nat) := (true, [([], []), ([0], [0]), ([1], [1]), ([2, 1], [2]), ([3], [3]), ([4, 3], [3, 4]), ([5, 3, 3], [3, 5]), ([6], [6]), ([6], [6]), ([8, 6], [6, 8]), ([7, 9, 6], [6, 7, 9]), ([10, 6], [6, 10]), ([11, 6], [6, 11]), ([6], [6]), ([13, 6], [6, 13]), ([12, 14, 6], [6, 12, 14]), ([6, 15, 3], [3, 6, 15]), ([3, 16], [3, 16])])
def impl_RulesOk.B4 : List Nat := [0, 1, 3, 7, 15, 31, 63, 127, 127, 383, 1023, 2047, 4095, 127, 8319, 32767, 65535, 131071]
theorem impl_RulesOk.tab4 : rtab .any (opsOf Try.f11 4) = impl_RulesOk.T4 := by kernel_rfl
theorem impl_RulesOk.bits4 : waitsOk impl_RulesOk.T4.2 impl_RulesOk.B4 = true := by kernel_rfl
set_option maxHeartbeats 8000000 in
set_option maxRecDepth 100000 in
theorem impl_RulesOk.calls (k : Nat) (A0 : Option Addr) (c0 : Nat) (l0 : List (S55)) (r : Bool) (w : World) (hr0 : Kd.C k55 w A0 l0.length l0) (hc0 : l0.length ≤ c0) (h : impl_RulesOk.f k l0 = some r) :
  Calls Try.prog 11 #[.slice A0 l0.length c0] w fun e w' => e = .returned (.bool r) ∧ Below w.heap.size w w' := by
 have hu55 := Try.underlying55
 have HR0 := Gv.a0 hr0
 have HC0 := Gv.a0 hc0
 clear hr0 hc0
 have HB := Gv.a0 (Below.refl w.heap.size w)
 have H : (impl_RulesOk.l0 k l0 l0 (l0.length : Int) 0) = some r := h
 clear h
 have H' := Gv.a0 H
 clear H
 go_enter Try.func11, Try.ntmps11
 go_wp2_with (first | ((with_reducible refine Gv.gate_load (t := 55) rfl ?_); (try (refine gate_guard (by rfl) ?_; dsimp only)); refine wpList_load_row rfl 55 _ rfl gb394 rfl 55 _ _ _ (by first | exact Gv.kb0 BK394.out | exact Gv.kb1 (Gv.kb0 BK394.out)) Try.underlying55 rfl (by kernel_rfl) ?_))
 go_loopg [7] k (fun kq v7 w' => ∃ (x7_1 : Int), v7 = .int .i64 x7_1 ∧ Aside0 (impl_RulesOk.l0 kq l0 l0 (l0.length : Int) x7_1 = some r) ∧ Aside0 (kq ≤ k) ∧ Aside0 (Below w.heap.size w w'))
 case atStart => exact ⟨(0), Gv.rq, H', ⟨Nat.le_refl _⟩, ⟨Gv.bw⟩⟩
 case round =>
  clear H'
  try clear c1
  obtain ⟨x7_1, rfl, HA, HK1, HB⟩ := hrel
  cases gk with
  | zero => exact absurd HA.out (by simp [impl_RulesOk.l0])
  | succ k1 =>
   have H := HA.out
   clear HA
   simp only [impl_RulesOk.l0] at H
   by_cases c2 : x7_1 < (l0.length : Int)
   ·rw [if_pos c2] at H
    have c2b0 : decide (x7_1 < (l0.length : Int)) = true := decide_eq_true c2
    clear c2
    by_cases c3 : 0 ≤ x7_1
    ·rw [if_pos c3] at H
     have c3b0 : decide (0 ≤ x7_1) = true := decide_eq_true c3
     clear c3
     by_cases c4 : x7_1 < (l0.length : Int)
     ·rw [if_pos c4] at H
      have c4b0 : decide (x7_1 < (l0.length : Int)) = true := decide_eq_true c4
      clear c4
      replace H := Option.bind_eq_some_iff.mp H
      obtain ⟨t395, A50, H⟩ := H
      replace H : (if t395 = true then (if x7_1 > 0 then (if 0 ≤ (wrap64 (x7_1 - 1)) then (if (wrap64 (x7_1 - 1)) < (l0.length : Int) then (if ((rd_T55 l0 (wrap64 (x7_1 - 1))).f0) ≥ ((rd_T55 l0 x7_1).f0) then (some false) else (impl_RulesOk.l0 k1 l0 l0 (l0.length : Int) (wrap64 (x7_1 + 1)))) else (none)) else (none)) else (impl_RulesOk.l0 k1 l0 l0 (l0.length : Int) (wrap64 (x7_1 + 1)))) else (some false)) = some r := H
      have A5 := Gv.a0 A50
      clear A50
      by_cases c6 : t395 = true
      ·subst c6
       have H1 : (if x7_1 > 0 then (if 0 ≤ (wrap64 (x7_1 - 1)) then (if (wrap64 (x7_1 - 1)) < (l0.length : Int) then (if ((rd_T55 l0 (wrap64 (x7_1 - 1))).f0) ≥ ((rd_T55 l0 x7_1).f0) then (some false) else (impl_RulesOk.l0 k1 l0 l0 (l0.length : Int) (wrap64 (x7_1 + 1)))) else (none)) else (none)) else (impl_RulesOk.l0 k1 l0 l0 (l0.length : Int) (wrap64 (x7_1 + 1)))) = some r := by rw [if_pos rfl] at H; exact H
       clear H
       have H := H1
       clear H1
       by_cases c7 : x7_1 > 0
       ·rw [if_pos c7] at H
        have c7b0 : decide (0 < x7_1) = true := decide_eq_true c7
        clear c7
        obtain ⟨ji8, hji8⟩ : ∃ j_ : Int, (wrap64 (x7_1 - 1)) = j_ := ⟨_, rfl⟩
        replace H : (if 0 ≤ (ji8) then (if (ji8) < (l0.length : Int) then (if ((rd_T55 l0 (ji8)).f0) ≥ ((rd_T55 l0 x7_1).f0) then (some false) else (impl_RulesOk.l0 k1 l0 l0 (l0.length : Int) (wrap64 (x7_1 + 1)))) else (none)) else (none)) = some r := by first | (rw [hji8] at H; exact H) | (simp only [hji8] at H ⊢; exact H)
        (try rw [hji8] at A5)
        have hji8w : (IntKind.i64.wrap (x7_1 - 1)) = ji8 := (i64_w _).trans hji8
        by_cases c9 : 0 ≤ (ji8)
        ·rw [if_pos c9] at H
         have c9b0 : decide (0 ≤ (ji8)) = true := decide_eq_true c9
         clear c9
         by_cases c10 : (ji8) < (l0.length : Int)
         ·rw [if_pos c10] at H
          have c10b0 : decide ((ji8) < (l0.length : Int)) = true := decide_eq_true c10
          clear c10
          by_cases c11 : ((rd_T55 l0 (ji8)).f0) ≥ ((rd_T55 l0 x7_1).f0)
          ·rw [if_pos c11] at H
           have c11b0 : decide (((rd_T55 l0 x7_1).f0) ≤ ((rd_T55 l0 (ji8)).f0)) = true := decide_eq_true c11
           clear c11
           obtain rfl := Option.some.inj H
           have p393 : 0 ≤ (x7_1 : Int) := of_decide_eq_true (by first | (with_reducible assumption) | assumption)
           have q393 : x7_1 < (l0.length : Int) := of_decide_eq_true (by first | (with_reducible assumption) | assumption)
           obtain ⟨ad393, e393, hx393_0, hx393_1, hx393_2, hx393_3, hx393_4, hx393_5, hx393_6, hx393_7, hx393_8, hx393_9, hx393_10, hx393_11, hx393_12, hx393_13, hx393_14, hx393_15, hx393_16, hx393_17, hx393_18, hx393_19, hx393_20⟩ := at_T55 HR0.out x7_1 p393 q393
           cases e393
           replace hx393_0 := Gv.bx HB.out hx393_0
           replace hx393_1 := Gv.bx HB.out hx393_1
           replace hx393_2 := Gv.bx HB.out hx393_2
           replace hx393_3 := Gv.bx HB.out hx393_3
           replace hx393_4 := Gv.bx HB.out hx393_4
           replace hx393_5 := Gv.bx HB.out hx393_5
           replace hx393_6 := Gv.bx HB.out hx393_6
           replace hx393_7 := Gv.bx HB.out hx393_7
           replace hx393_8 := Gv.bx HB.out hx393_8
           replace hx393_9 := Gv.bx HB.out hx393_9
           replace hx393_10 := Gv.bx HB.out hx393_10
           replace hx393_11 := Gv.bx HB.out hx393_11
           replace hx393_12 := Gv.bx HB.out hx393_12
           replace hx393_13 := Gv.bx HB.out hx393_13
           replace hx393_14 := Gv.bx HB.out hx393_14
           replace hx393_15 := Gv.bx HB.out hx393_15
           replace hx393_16 := Gv.bx HB.out hx393_16
           replace hx393_17 := Gv.bx HB.out hx393_17
           replace hx393_18 := Gv.bx HB.out hx393_18
           replace hx393_19 := Gv.bx HB.out hx393_19
           replace hx393_20 := Gv.bx HB.out hx393_20
           replace p393 := eq_true p393
           replace q393 := eq_true q393
           try go_wp2_with (first | ((with_reducible refine gate_dst (N := 4) rfl ?_); refine box_event ?hg (N := 4) ?hd (cs := #[.int .i64 0, .int .i64 0, .int .i64 0, .int .i64 0, .int .i64 0, .int .i64 0, .int .i64 0, .int .i64 0, .int .i64 0, .int .i64 0, .int .i64 0, .int .i64 0, .int .i64 0, .int .i64 0, .int .i64 0, .int .i64 0, .int .i64 0, .int .i64 0, .int .i64 0, .int .i64 0, .int .i64 0]) (t := 55) ?hr ?_; (case hd => rfl); (case hg => rfl); (case hr => first | (go_simp; done) | (go_simp; rfl)); intro gb394 hg w12 hbox hb; have n0_ := Gv.a0 (below_step Gv.bw hb); have n1_ := Gv.a0 (hbox); have n2_ := Gv.a0 ((Gv.ble hg Gv.bw : w.heap.size ≤ gb394)); have n3_ := Gv.a0 ((Gv.ble hg Gv.bw : w.heap.size ≤ gb394)); clear HB; have HB := n0_; have BK394 := n1_; have GW394 := n2_; have GE394 := n3_; clear n0_ n1_ n2_ n3_; clear hb hbox hg; obtain ⟨hcz13_0, hcz13_1, hcz13_2, hcz13_3, hcz13_4, hcz13_5, hcz13_6, hcz13_7, hcz13_8, hcz13_9, hcz13_10, hcz13_11, hcz13_12, hcz13_13, hcz13_14, hcz13_15, hcz13_16, hcz13_17, hcz13_18, hcz13_19, hcz13_20⟩ := Gv.c21 BK394.out) | ((with_reducible refine gate_store (t := 55) (p := 4) rfl ?_); refine Gv.store_event rfl rfl rfl rfl rfl (Gv.kb BK394.out) (by kernel_rfl) rfl (by simp; and_intros <;> rfl) ?_; intro w12s hbox hoth hbel; have n0_ := Gv.a0 (hbox); have n1_ := Gv.a0 (hbel w Gv.bw GE394.out); clear BK394 HB; have BK394 := n0_; have HB := n1_; clear n0_ n1_ hbox hoth hbel; (try clear hcz13_0 hcz13_1 hcz13_2 hcz13_3 hcz13_4 hcz13_5 hcz13_6 hcz13_7 hcz13_8 hcz13_9 hcz13_10 hcz13_11 hcz13_12 hcz13_13 hcz13_14 hcz13_15 hcz13_16 hcz13_17 hcz13_18 hcz13_19 hcz13_20); obtain ⟨hcz13_0, hcz13_1, hcz13_2, hcz13_3, hcz13_4, hcz13_5, hcz13_6, hcz13_7, hcz13_8, hcz13_9, hcz13_10, hcz13_11, hcz13_12, hcz13_13, hcz13_14, hcz13_15, hcz13_16, hcz13_17, hcz13_18, hcz13_19, hcz13_20⟩ := Gv.c21 BK394.out) | ((with_reducible refine Gv.gate_load (t := 55) rfl ?_); (try (refine gate_guard (by rfl) ?_; dsimp only)); refine wpList_load_row rfl 55 _ rfl gb394 rfl 55 _ _ _ (by first | exact Gv.kb0 BK394.out | exact Gv.kb1 (Gv.kb0 BK394.out)) Try.underlying55 rfl (by kernel_rfl) ?_) | ((with_reducible refine Gv.gate_load (t := 55) rfl ?_); refine Gv.load_event (cs := [_, _, _, _, _, _, _, _, _, _, _, _, _, _, _, _, _, _, _, _, _]) rfl rfl rfl ⟨hx393_0, hx393_1, hx393_2, hx393_3, hx393_4, hx393_5, hx393_6, hx393_7, hx393_8, hx393_9, hx393_10, hx393_11, hx393_12, hx393_13, hx393_14, hx393_15, hx393_16, hx393_17, hx393_18, hx393_19, hx393_20, trivial⟩ Try.underlying55 rfl (by kernel_rfl) ?_))
           have n0_ := Gv.a0 (blk_drew BK394.out)
           have n1_ := Gv.a0 (below_drew1 HB.out)
           clear BK394
           clear HB
           have BK394 := n0_
           have HB := n1_
           clear n0_ n1_
           have p396 : 0 ≤ ((ji8) : Int) := of_decide_eq_true (by first | (with_reducible assumption) | assumption)
           have q396 : (ji8) < (l0.length : Int) := of_decide_eq_true (by first | (with_reducible assumption) | assumption)
           obtain ⟨ad396, e396, hx396_0, _, _, _, _, _, _, _, _, _, _, _, _, _, _, _, _, _, _, _, _⟩ := at_T55 HR0.out (ji8) p396 q396
           have hw396_0 := hx396_0
           obtain rfl : ad393 = ad396 := (by injection e396)
           replace hx396_0 := Gv.bx HB.out hx396_0
           replace p396 := eq_true p396
           replace q396 := eq_true q396
           refine start_ (n := 18) (S := fun w' => w'.cell? ⟨gb394, 0, none⟩ = some (.int .i64 ((rd_T55 l0 x7_1).f0)) ∧ w'.cell? ⟨gb394, 1, none⟩ = some (.int .i64 ((rd_T55 l0 x7_1).f1.f0.f0)) ∧ w'.cell? ⟨gb394, 2, none⟩ = some (.int .i64 ((rd_T55 l0 x7_1).f1.f0.f1)) ∧ w'.cell? ⟨gb394, 3, none⟩ = some (.int .i64 ((rd_T55 l0 x7_1).f1.f0.f2)) ∧ w'.cell? ⟨gb394, 4, none⟩ = some (.int .i64 ((rd_T55 l0 x7_1).f1.f0.f3)) ∧ w'.cell? ⟨gb394, 5, none⟩ = some (.int .i64 ((rd_T55 l0 x7_1).f1.f0.f4)) ∧ w'.cell? ⟨gb394, 6, none⟩ = some (.int .i64 ((rd_T55 l0 x7_1).f1.f1)) ∧ w'.cell? ⟨gb394, 7, none⟩ = some (.int .i64 ((rd_T55 l0 x7_1).f2.f0.f0)) ∧ w'.cell? ⟨gb394, 8, none⟩ = some (.int .i64 ((rd_T55 l0 x7_1).f2.f0.f1)) ∧ w'.cell? ⟨gb394, 9, none⟩ = some (.int .i64 ((rd_T55 l0 x7_1).f2.f0.f2)) ∧ w'.cell? ⟨gb394, 10, none⟩ = some (.int .i64 ((rd_T55 l0 x7_1).f2.f0.f3)) ∧ w'.cell? ⟨gb394, 11, none⟩ = some (.int .i64 ((rd_T55 l0 x7_1).f2.f0.f4)) ∧ w'.cell? ⟨gb394, 12, none⟩ = some (.int .i64 ((rd_T55 l0 x7_1).f2.f1)) ∧ w'.cell? ⟨gb394, 13, none⟩ = some (.int .i64 ((rd_T55 l0 x7_1).f3)) ∧ w'.cell? ⟨gb394, 14, none⟩ = some (.int .i64 ((rd_T55 l0 x7_1).f4)) ∧ w'.cell? ⟨gb394, 15, none⟩ = some (.int .i64 ((rd_T55 l0 x7_1).f5)) ∧ w'.cell? ⟨gb394, 16, none⟩ = some (.int .i64 ((rd_T55 l0 x7_1).f6)) ∧ w'.cell? ⟨gb394, 17, none⟩ = some (.int .i64 ((rd_T55 l0 x7_1).f7)) ∧ w'.cell? ⟨gb394, 18, none⟩ = some (.int .i64 ((rd_T55 l0 x7_1).f8)) ∧ w'.cell? ⟨gb394, 19, none⟩ = some (.int .i64 ((rd_T55 l0 x7_1).f9)) ∧ w'.cell? ⟨gb394, 20, none⟩ = some (.int .i64 ((rd_T55 l0 x7_1).f10)) ∧ w'.cell? (ad393.add (((ji8)).toNat * 21)) = some (.int .i64 ((rd_T55 l0 (ji8)).f0))) (ds := []) #[false, false, false, false, false, false, false, false, false, false, false, false, false, false, false, false, false, false] (by kernel_rfl) rfl rfl ⟨(blk_cell BK394.out 0).trans rfl, (blk_cell BK394.out 1).trans rfl, (blk_cell BK394.out 2).trans rfl, (blk_cell BK394.out 3).trans rfl, (blk_cell BK394.out 4).trans rfl, (blk_cell BK394.out 5).trans rfl, (blk_cell BK394.out 6).trans rfl, (blk_cell BK394.out 7).trans rfl, (blk_cell BK394.out 8).trans rfl, (blk_cell BK394.out 9).trans rfl, (blk_cell BK394.out 10).trans rfl, (blk_cell BK394.out 11).trans rfl, (blk_cell BK394.out 12).trans rfl, (blk_cell BK394.out 13).trans rfl, (blk_cell BK394.out 14).trans rfl, (blk_cell BK394.out 15).trans rfl, (blk_cell BK394.out 16).trans rfl, (blk_cell BK394.out 17).trans rfl, (blk_cell BK394.out 18).trans rfl, (blk_cell BK394.out 19).trans rfl, (blk_cell BK394.out 20).trans rfl, (Gv.bx HB.out hw396_0)⟩ (fun hHeld => ?_); refine with_tabW impl_RulesOk.tab4 impl_RulesOk.bits4 (fun HT_ HW_ => ?_)
           generalize w12s.drew = w15 at BK394 HB hx396_0 hHeld ⊢
           refine take_ (i := 0) (N := some 12) (v := ?_) (a' := ?_) #[true, false, false, false, false, false, false, false, false, false, false, false, false, false, false, false, false, false] rfl rfl (take_ofW HT_.out HW_.out (by kernel_rfl)) (fun _ _ _ h => h) (Or.inl ⟨by rfl, ?_⟩) hHeld ?_ ?_
           rotate_left
           ·rintro w' ⟨s0, s1, s2, s3, s4, s5, s6, s7, s8, s9, s10, s11, s12, s13, s14, s15, s16, s17, s18, s19, s20, s21⟩
            first | ((refine Gv.load_run (t := 55) (A := ⟨gb394, 0, none⟩) (cs := [_, _, _, _, _, _, _, _, _, _, _, _, _, _, _, _, _, _, _, _, _]) (x := ?xx29_) ?ho29_ ?hx29_ ⟨s0, s1, s2, s3, s4, s5, s6, s7, s8, s9, s10, s11, s12, s13, s14, s15, s16, s17, s18, s19, s20, trivial⟩ Try.underlying55 rfl (by kernel_rfl)); (case ho29_ => rfl); (case hx29_ => rfl)) | (go_simp; with_reducible rfl)
           rotate_left
           ·simp only [Act.put, List.setIfInBounds_toArray, List.set_cons_zero, List.set_cons_succ, i64_w, i32_w]
            rfl
           refine one_ (i := 1) (N := some 13) #[true, true, false, false, false, false, false, false, false, false, false, false, false, false, false, false, false, false] rfl rfl (one_of HT_.out (by kernel_rfl)) (by decide) (fun K hK => ?_)
           refine goes_ Try.func29 (by kernel_rfl) rfl #[.agg #[.int .i64 ((rd_T55 l0 x7_1).f0), .int .i64 ((rd_T55 l0 x7_1).f1.f0.f0), .int .i64 ((rd_T55 l0 x7_1).f1.f0.f1), .int .i64 ((rd_T55 l0 x7_1).f1.f0.f2), .int .i64 ((rd_T55 l0 x7_1).f1.f0.f3), .int .i64 ((rd_T55 l0 x7_1).f1.f0.f4), .int .i64 ((rd_T55 l0 x7_1).f1.f1), .int .i64 ((rd_T55 l0 x7_1).f2.f0.f0), .int .i64 ((rd_T55 l0 x7_1).f2.f0.f1), .int .i64 ((rd_T55 l0 x7_1).f2.f0.f2), .int .i64 ((rd_T55 l0 x7_1).f2.f0.f3), .int .i64 ((rd_T55 l0 x7_1).f2.f0.f4), .int .i64 ((rd_T55 l0 x7_1).f2.f1), .int .i64 ((rd_T55 l0 x7_1).f3), .int .i64 ((rd_T55 l0 x7_1).f4), .int .i64 ((rd_T55 l0 x7_1).f5), .int .i64 ((rd_T55 l0 x7_1).f6), .int .i64 ((rd_T55 l0 x7_1).f7), .int .i64 ((rd_T55 l0 x7_1).f8), .int .i64 ((rd_T55 l0 x7_1).f9), .int .i64 ((rd_T55 l0 x7_1).f10)]] (by rfl) rfl rfl Gv.lm ?_
           with_reducible refine (impl_RuleOk.calls k1 ((rd_T55 l0 x7_1).f0) ((rd_T55 l0 x7_1).f1.f0.f0) ((rd_T55 l0 x7_1).f1.f0.f1) ((rd_T55 l0 x7_1).f1.f0.f2) ((rd_T55 l0 x7_1).f1.f0.f3) ((rd_T55 l0 x7_1).f1.f0.f4) ((rd_T55 l0 x7_1).f1.f1) ((rd_T55 l0 x7_1).f2.f0.f0) ((rd_T55 l0 x7_1).f2.f0.f1) ((rd_T55 l0 x7_1).f2.f0.f2) ((rd_T55 l0 x7_1).f2.f0.f3) ((rd_T55 l0 x7_1).f2.f0.f4) ((rd_T55 l0 x7_1).f2.f1) ((rd_T55 l0 x7_1).f3) ((rd_T55 l0 x7_1).f4) ((rd_T55 l0 x7_1).f5) ((rd_T55 l0 x7_1).f6) ((rd_T55 l0 x7_1).f7) ((rd_T55 l0 x7_1).f8) ((rd_T55 l0 x7_1).f9) ((rd_T55 l0 x7_1).f10) true _ A5.out).mono ?_
           rintro e w16 ⟨rfl, hb⟩
           refine ⟨_, rfl, ?_⟩
           have n0_ := Gv.a0 (Gv.bb BK394.out hb)
           have n1_ := Gv.a0 (below_step Gv.bw hb)
           clear BK394
           clear HB
           have BK394 := n0_
           have HB := n1_
           clear n0_ n1_
           (try clear hb)
           (try clear hb2)
           (try clear hk)
           (try clear hi)
           refine hK.out _ _ ⟨(blk_cell BK394.out 0).trans rfl, (blk_cell BK394.out 1).trans rfl, (blk_cell BK394.out 2).trans rfl, (blk_cell BK394.out 3).trans rfl, (blk_cell BK394.out 4).trans rfl, (blk_cell BK394.out 5).trans rfl, (blk_cell BK394.out 6).trans rfl, (blk_cell BK394.out 7).trans rfl, (blk_cell BK394.out 8).trans rfl, (blk_cell BK394.out 9).trans rfl, (blk_cell BK394.out 10).trans rfl, (blk_cell BK394.out 11).trans rfl, (blk_cell BK394.out 12).trans rfl, (blk_cell BK394.out 13).trans rfl, (blk_cell BK394.out 14).trans rfl, (blk_cell BK394.out 15).trans rfl, (blk_cell BK394.out 16).trans rfl, (blk_cell BK394.out 17).trans rfl, (blk_cell BK394.out 18).trans rfl, (blk_cell BK394.out 19).trans rfl, (blk_cell BK394.out 20).trans rfl, (Gv.bx HB.out hw396_0)⟩ (fun hHeld => ?_)
           clear hK K
           refine norm_ (a' := ?_) ?_ ?_
           rotate_left
           ·show Act.put _ (some 13) _ = _
            simp only [Act.put, List.setIfInBounds_toArray, List.set_cons_zero, List.set_cons_succ, i64_w, i32_w]
            rfl
           refine Gv.pu 2 (some 14) HT_ ?_
           refine Gv.pu 3 (some 15) HT_ ?_
           refine Gv.pu 4 (some 16) HT_ ?_
           refine Gv.pu 5 (some 17) HT_ ?_
           refine Gv.pu 6 (some 18) HT_ ?_
           refine Gv.pu 7 (some 19) HT_ ?_
           refine Gv.pu 8 (some 20) HT_ ?_
           refine Gv.pu 9 (some 21) HT_ ?_
           refine Gv.pu 10 (some 22) HT_ ?_
           refine Gv.pu 11 (some 23) HT_ ?_
           refine Gv.pu 13 (some 25) HT_ ?_
           refine take_ (i := 12) (N := some 24) (v := ?_) (a' := ?_) #[true, true, true, true, true, true, true, true, true, true, true, true, true, true, false, false, false, false] rfl rfl (take_ofW HT_.out HW_.out (by kernel_rfl)) (fun _ _ _ h => h) (Or.inl ⟨by rfl, ?_⟩) hHeld ?_ ?_
           rotate_left
           ·rintro w' ⟨s0, s1, s2, s3, s4, s5, s6, s7, s8, s9, s10, s11, s12, s13, s14, s15, s16, s17, s18, s19, s20, s21⟩
            first | ((refine Gv.load_run (t := 55) (A := ⟨gb394, 0, none⟩) (cs := [_, _, _, _, _, _, _, _, _, _, _, _, _, _, _, _, _, _, _, _, _]) (x := ?xx31_) ?ho31_ ?hx31_ ⟨s0, s1, s2, s3, s4, s5, s6, s7, s8, s9, s10, s11, s12, s13, s14, s15, s16, s17, s18, s19, s20, trivial⟩ Try.underlying55 rfl (by kernel_rfl)); (case ho31_ => rfl); (case hx31_ => rfl)) | (go_simp; with_reducible rfl)
           rotate_left
           ·simp only [Act.put, List.setIfInBounds_toArray, List.set_cons_zero, List.set_cons_succ, i64_w, i32_w]
            rfl
           refine take_ (i := 14) (N := some 26) (v := ?_) (a' := ?_) #[true, true, true, true, true, true, true, true, true, true, true, true, true, true, true, false, false, false] rfl rfl (take_ofW HT_.out HW_.out (by kernel_rfl)) (fun _ _ _ h => h) (Or.inl ⟨by rfl, ?_⟩) hHeld ?_ ?_
           rotate_left
           ·rintro w' ⟨s0, s1, s2, s3, s4, s5, s6, s7, s8, s9, s10, s11, s12, s13, s14, s15, s16, s17, s18, s19, s20, s21⟩
            first | ((refine Gv.load_run (t := 55) (A := ⟨gb394, 0, none⟩) (cs := [_, _, _, _, _, _, _, _, _, _, _, _, _, _, _, _, _, _, _, _, _]) (x := ?xx33_) ?ho33_ ?hx33_ ⟨s0, s1, s2, s3, s4, s5, s6, s7, s8, s9, s10, s11, s12, s13, s14, s15, s16, s17, s18, s19, s20, trivial⟩ Try.underlying55 rfl (by kernel_rfl)); (case ho33_ => rfl); (case hx33_ => rfl)) | (go_simp; with_reducible rfl)
           rotate_left
           ·simp only [Act.put, List.setIfInBounds_toArray, List.set_cons_zero, List.set_cons_succ, i64_w, i32_w]
            rfl
           refine Gv.pu 15 (some 27) HT_ ?_
           refine Gv.pu 16 (some 28) HT_ ?_
           refine Gv.pu 17 (some 29) HT_ ?_
           refine done_ (done_of HT_.out (by kernel_rfl)) ?_
           try go_wp2
           go_ret
           exact ⟨by first | rfl | (simp [errW_none, errW_some] <;> rfl) | (simp only [← hji8]; first | rfl | (simp [errW_none, errW_some] <;> rfl)) | (simp [*, errW_none, errW_some] <;> rfl), Gv.bw⟩
          ·rw [if_neg c11] at H
           have c11b0 : decide (((rd_T55 l0 x7_1).f0) ≤ ((rd_T55 l0 (ji8)).f0)) = false := decide_eq_false c11
           clear c11
           have H' := Gv.a0 H
           clear H
           have p393 : 0 ≤ (x7_1 : Int) := of_decide_eq_true (by first | (with_reducible assumption) | assumption)
           have q393 : x7_1 < (l0.length : Int) := of_decide_eq_true (by first | (with_reducible assumption) | assumption)
           obtain ⟨ad393, e393, hx393_0, hx393_1, hx393_2, hx393_3, hx393_4, hx393_5, hx393_6, hx393_7, hx393_8, hx393_9, hx393_10, hx393_11, hx393_12, hx393_13, hx393_14, hx393_15, hx393_16, hx393_17, hx393_18, hx393_19, hx393_20⟩ := at_T55 HR0.out x7_1 p393 q393
           cases e393
           replace hx393_0 := Gv.bx HB.out hx393_0
           replace hx393_1 := Gv.bx HB.out hx393_1
           replace hx393_2 := Gv.bx HB.out hx393_2
           replace hx393_3 := Gv.bx HB.out hx393_3
           replace hx393_4 := Gv.bx HB.out hx393_4
           replace hx393_5 := Gv.bx HB.out hx393_5
           replace hx393_6 := Gv.bx HB.out hx393_6
           replace hx393_7 := Gv.bx HB.out hx393_7
           replace hx393_8 := Gv.bx HB.out hx393_8
           replace hx393_9 := Gv.bx HB.out hx393_9
           replace hx393_10 := Gv.bx HB.out hx393_10
           replace hx393_11 := Gv.bx HB.out hx393_11
           replace hx393_12 := Gv.bx HB.out hx393_12
           replace hx393_13 := Gv.bx HB.out hx393_13
           replace hx393_14 := Gv.bx HB.out hx393_14
           replace hx393_15 := Gv.bx HB.out hx393_15
           replace hx393_16 := Gv.bx HB.out hx393_16
           replace hx393_17 := Gv.bx HB.out hx393_17
           replace hx393_18 := Gv.bx HB.out hx393_18
           replace hx393_19 := Gv.bx HB.out hx393_19
           replace hx393_20 := Gv.bx HB.out hx393_20
           replace p393 := eq_true p393
           replace q393 := eq_true q393
           try go_wp2_with (first | ((with_reducible refine gate_dst (N := 4) rfl ?_); refine box_event ?hg (N := 4) ?hd (cs := #[.int .i64 0, .int .i64 0, .int .i64 0, .int .i64 0, .int .i64 0, .int .i64 0, .int .i64 0, .int .i64 0, .int .i64 0, .int .i64 0, .int .i64 0, .int .i64 0, .int .i64 0, .int .i64 0, .int .i64 0, .int .i64 0, .int .i64 0, .int .i64 0, .int .i64 0, .int .i64 0, .int .i64 0]) (t := 55) ?hr ?_; (case hd => rfl); (case hg => rfl); (case hr => first | (go_simp; done) | (go_simp; rfl)); intro gb394 hg w17 hbox hb; have n0_ := Gv.a0 (below_step Gv.bw hb); have n1_ := Gv.a0 (hbox); have n2_ := Gv.a0 ((Gv.ble hg Gv.bw : w.heap.size ≤ gb394)); have n3_ := Gv.a0 ((Gv.ble hg Gv.bw : w.heap.size ≤ gb394)); clear HB; have HB := n0_; have BK394 := n1_; have GW394 := n2_; have GE394 := n3_; clear n0_ n1_ n2_ n3_; clear hb hbox hg; obtain ⟨hcz18_0, hcz18_1, hcz18_2, hcz18_3, hcz18_4, hcz18_5, hcz18_6, hcz18_7, hcz18_8, hcz18_9, hcz18_10, hcz18_11, hcz18_12, hcz18_13, hcz18_14, hcz18_15, hcz18_16, hcz18_17, hcz18_18, hcz18_19, hcz18_20⟩ := Gv.c21 BK394.out) | ((with_reducible refine gate_store (t := 55) (p := 4) rfl ?_); refine Gv.store_event rfl rfl rfl rfl rfl (Gv.kb BK394.out) (by kernel_rfl) rfl (by simp; and_intros <;> rfl) ?_; intro w17s hbox hoth hbel; have n0_ := Gv.a0 (hbox); have n1_ := Gv.a0 (hbel w Gv.bw GE394.out); clear BK394 HB; have BK394 := n0_; have HB := n1_; clear n0_ n1_ hbox hoth hbel; (try clear hcz18_0 hcz18_1 hcz18_2 hcz18_3 hcz18_4 hcz18_5 hcz18_6 hcz18_7 hcz18_8 hcz18_9 hcz18_10 hcz18_11 hcz18_12 hcz18_13 hcz18_14 hcz18_15 hcz18_16 hcz18_17 hcz18_18 hcz18_19 hcz18_20); obtain ⟨hcz18_0, hcz18_1, hcz18_2, hcz18_3, hcz18_4, hcz18_5, hcz18_6, hcz18_7, hcz18_8, hcz18_9, hcz18_10, hcz18_11, hcz18_12, hcz18_13, hcz18_14, hcz18_15, hcz18_16, hcz18_17, hcz18_18, hcz18_19, hcz18_20⟩ := Gv.c21 BK394.out) | ((with_reducible refine Gv.gate_load (t := 55) rfl ?_); (try (refine gate_guard (by rfl) ?_; dsimp only)); refine wpList_load_row rfl 55 _ rfl gb394 rfl 55 _ _ _ (by first | exact Gv.kb0 BK394.out | exact Gv.kb1 (Gv.kb0 BK394.out)) Try.underlying55 rfl (by kernel_rfl) ?_) | ((with_reducible refine Gv.gate_load (t := 55) rfl ?_); refine Gv.load_event (cs := [_, _, _, _, _, _, _, _, _, _, _, _, _, _, _, _, _, _, _, _, _]) rfl rfl rfl ⟨hx393_0, hx393_1, hx393_2, hx393_3, hx393_4, hx393_5, hx393_6, hx393_7, hx393_8, hx393_9, hx393_10, hx393_11, hx393_12, hx393_13, hx393_14, hx393_15, hx393_16, hx393_17, hx393_18, hx393_19, hx393_20, trivial⟩ Try.underlying55 rfl (by kernel_rfl) ?_))
           have n0_ := Gv.a0 (blk_drew BK394.out)
           have n1_ := Gv.a0 (below_drew1 HB.out)
           clear BK394
           clear HB
           have BK394 := n0_
           have HB := n1_
           clear n0_ n1_
           have p396 : 0 ≤ ((ji8) : Int) := of_decide_eq_true (by first | (with_reducible assumption) | assumption)
           have q396 : (ji8) < (l0.length : Int) := of_decide_eq_true (by first | (with_reducible assumption) | assumption)
           obtain ⟨ad396, e396, hx396_0, _, _, _, _, _, _, _, _, _, _, _, _, _, _, _, _, _, _, _, _⟩ := at_T55 HR0.out (ji8) p396 q396
           have hw396_0 := hx396_0
           obtain rfl : ad393 = ad396 := (by injection e396)
           replace hx396_0 := Gv.bx HB.out hx396_0
           replace p396 := eq_true p396
           replace q396 := eq_true q396
           refine start_ (n := 18) (S := fun w' => w'.cell? ⟨gb394, 0, none⟩ = some (.int .i64 ((rd_T55 l0 x7_1).f0)) ∧ w'.cell? ⟨gb394, 1, none⟩ = some (.int .i64 ((rd_T55 l0 x7_1).f1.f0.f0)) ∧ w'.cell? ⟨gb394, 2, none⟩ = some (.int .i64 ((rd_T55 l0 x7_1).f1.f0.f1)) ∧ w'.cell? ⟨gb394, 3, none⟩ = some (.int .i64 ((rd_T55 l0 x7_1).f1.f0.f2)) ∧ w'.cell? ⟨gb394, 4, none⟩ = some (.int .i64 ((rd_T55 l0 x7_1).f1.f0.f3)) ∧ w'.cell? ⟨gb394, 5, none⟩ = some (.int .i64 ((rd_T55 l0 x7_1).f1.f0.f4)) ∧ w'.cell? ⟨gb394, 6, none⟩ = some (.int .i64 ((rd_T55 l0 x7_1).f1.f1)) ∧ w'.cell? ⟨gb394, 7, none⟩ = some (.int .i64 ((rd_T55 l0 x7_1).f2.f0.f0)) ∧ w'.cell? ⟨gb394, 8, none⟩ = some (.int .i64 ((rd_T55 l0 x7_1).f2.f0.f1)) ∧ w'.cell? ⟨gb394, 9, none⟩ = some (.int .i64 ((rd_T55 l0 x7_1).f2.f0.f2)) ∧ w'.cell? ⟨gb394, 10, none⟩ = some (.int .i64 ((rd_T55 l0 x7_1).f2.f0.f3)) ∧ w'.cell? ⟨gb394, 11, none⟩ = some (.int .i64 ((rd_T55 l0 x7_1).f2.f0.f4)) ∧ w'.cell? ⟨gb394, 12, none⟩ = some (.int .i64 ((rd_T55 l0 x7_1).f2.f1)) ∧ w'.cell? ⟨gb394, 13, none⟩ = some (.int .i64 ((rd_T55 l0 x7_1).f3)) ∧ w'.cell? ⟨gb394, 14, none⟩ = some (.int .i64 ((rd_T55 l0 x7_1).f4)) ∧ w'.cell? ⟨gb394, 15, none⟩ = some (.int .i64 ((rd_T55 l0 x7_1).f5)) ∧ w'.cell? ⟨gb394, 16, none⟩ = some (.int .i64 ((rd_T55 l0 x7_1).f6)) ∧ w'.cell? ⟨gb394, 17, none⟩ = some (.int .i64 ((rd_T55 l0 x7_1).f7)) ∧ w'.cell? ⟨gb394, 18, none⟩ = some (.int .i64 ((rd_T55 l0 x7_1).f8)) ∧ w'.cell? ⟨gb394, 19, none⟩ = some (.int .i64 ((rd_T55 l0 x7_1).f9)) ∧ w'.cell? ⟨gb394, 20, none⟩ = some (.int .i64 ((rd_T55 l0 x7_1).f10)) ∧ w'.cell? (ad393.add (((ji8)).toNat * 21)) = some (.int .i64 ((rd_T55 l0 (ji8)).f0))) (ds := []) #[false, false, false, false, false, false, false, false, false, false, false, false, false, false, false, false, false, false] (by kernel_rfl) rfl rfl ⟨(blk_cell BK394.out 0).trans rfl, (blk_cell BK394.out 1).trans rfl, (blk_cell BK394.out 2).trans rfl, (blk_cell BK394.out 3).trans rfl, (blk_cell BK394.out 4).trans rfl, (blk_cell BK394.out 5).trans rfl, (blk_cell BK394.out 6).trans rfl, (blk_cell BK394.out 7).trans rfl, (blk_cell BK394.out 8).trans rfl, (blk_cell BK394.out 9).trans rfl, (blk_cell BK394.out 10).trans rfl, (blk_cell BK394.out 11).trans rfl, (blk_cell BK394.out 12).trans rfl, (blk_cell BK394.out 13).trans rfl, (blk_cell BK394.out 14).trans rfl, (blk_cell BK394.out 15).trans rfl, (blk_cell BK394.out 16).trans rfl, (blk_cell BK394.out 17).trans rfl, (blk_cell BK394.out 18).trans rfl, (blk_cell BK394.out 19).trans rfl, (blk_cell BK394.out 20).trans rfl, (Gv.bx HB.out hw396_0)⟩ (fun hHeld => ?_); refine with_tabW impl_RulesOk.tab4 impl_RulesOk.bits4 (fun HT_ HW_ => ?_)
           generalize w17s.drew = w20 at BK394 HB hx396_0 hHeld ⊢
           refine take_ (i := 0) (N := some 12) (v := ?_) (a' := ?_) #[true, false, false, false, false, false, false, false, false, false, false, false, false, false, false, false, false, false] rfl rfl (take_ofW HT_.out HW_.out (by kernel_rfl)) (fun _ _ _ h => h) (Or.inl ⟨by rfl, ?_⟩) hHeld ?_ ?_
           rotate_left
           ·rintro w' ⟨s0, s1, s2, s3, s4, s5, s6, s7, s8, s9, s10, s11, s12, s13, s14, s15, s16, s17, s18, s19, s20, s21⟩
            first | ((refine Gv.load_run (t := 55) (A := ⟨gb394, 0, none⟩) (cs := [_, _, _, _, _, _, _, _, _, _, _, _, _, _, _, _, _, _, _, _, _]) (x := ?xx35_) ?ho35_ ?hx35_ ⟨s0, s1, s2, s3, s4, s5, s6, s7, s8, s9, s10, s11, s12, s13, s14, s15, s16, s17, s18, s19, s20, trivial⟩ Try.underlying55 rfl (by kernel_rfl)); (case ho35_ => rfl); (case hx35_ => rfl)) | (go_simp; with_reducible rfl)
           rotate_left
           ·simp only [Act.put, List.setIfInBounds_toArray, List.set_cons_zero, List.set_cons_succ, i64_w, i32_w]
            rfl
           refine one_ (i := 1) (N := some 13) #[true, true, false, false, false, false, false, false, false, false, false, false, false, false, false, false, false, false] rfl rfl (one_of HT_.out (by kernel_rfl)) (by decide) (fun K hK => ?_)
           refine goes_ Try.func29 (by kernel_rfl) rfl #[.agg #[.int .i64 ((rd_T55 l0 x7_1).f0), .int .i64 ((rd_T55 l0 x7_1).f1.f0.f0), .int .i64 ((rd_T55 l0 x7_1).f1.f0.f1), .int .i64 ((rd_T55 l0 x7_1).f1.f0.f2), .int .i64 ((rd_T55 l0 x7_1).f1.f0.f3), .int .i64 ((rd_T55 l0 x7_1).f1.f0.f4), .int .i64 ((rd_T55 l0 x7_1).f1.f1), .int .i64 ((rd_T55 l0 x7_1).f2.f0.f0), .int .i64 ((rd_T55 l0 x7_1).f2.f0.f1), .int .i64 ((rd_T55 l0 x7_1).f2.f0.f2), .int .i64 ((rd_T55 l0 x7_1).f2.f0.f3), .int .i64 ((rd_T55 l0 x7_1).f2.f0.f4), .int .i64 ((rd_T55 l0 x7_1).f2.f1), .int .i64 ((rd_T55 l0 x7_1).f3), .int .i64 ((rd_T55 l0 x7_1).f4), .int .i64 ((rd_T55 l0 x7_1).f5), .int .i64 ((rd_T55 l0 x7_1).f6), .int .i64 ((rd_T55 l0 x7_1).f7), .int .i64 ((rd_T55 l0 x7_1).f8), .int .i64 ((rd_T55 l0 x7_1).f9), .int .i64 ((rd_T55 l0 x7_1).f10)]] (by rfl) rfl rfl Gv.lm ?_
           with_reducible refine (impl_RuleOk.calls k1 ((rd_T55 l0 x7_1).f0) ((rd_T55 l0 x7_1).f1.f0.f0) ((rd_T55 l0 x7_1).f1.f0.f1) ((rd_T55 l0 x7_1).f1.f0.f2) ((rd_T55 l0 x7_1).f1.f0.f3) ((rd_T55 l0 x7_1).f1.f0.f4) ((rd_T55 l0 x7_1).f1.f1) ((rd_T55 l0 x7_1).f2.f0.f0) ((rd_T55 l0 x7_1).f2.f0.f1) ((rd_T55 l0 x7_1).f2.f0.f2) ((rd_T55 l0 x7_1).f2.f0.f3) ((rd_T55 l0 x7_1).f2.f0.f4) ((rd_T55 l0 x7_1).f2.f1) ((rd_T55 l0 x7_1).f3) ((rd_T55 l0 x7_1).f4) ((rd_T55 l0 x7_1).f5) ((rd_T55 l0 x7_1).f6) ((rd_T55 l0 x7_1).f7) ((rd_T55 l0 x7_1).f8) ((rd_T55 l0 x7_1).f9) ((rd_T55 l0 x7_1).f10) true _ A5.out).mono ?_
           rintro e w21 ⟨rfl, hb⟩
           refine ⟨_, rfl, ?_⟩
           have n0_ := Gv.a0 (Gv.bb BK394.out hb)
           have n1_ := Gv.a0 (below_step Gv.bw hb)
           clear BK394
           clear HB
           have BK394 := n0_
           have HB := n1_
           clear n0_ n1_
           (try clear hb)
           (try clear hb2)
           (try clear hk)
           (try clear hi)
           refine hK.out _ _ ⟨(blk_cell BK394.out 0).trans rfl, (blk_cell BK394.out 1).trans rfl, (blk_cell BK394.out 2).trans rfl, (blk_cell BK394.out 3).trans rfl, (blk_cell BK394.out 4).trans rfl, (blk_cell BK394.out 5).trans rfl, (blk_cell BK394.out 6).trans rfl, (blk_cell BK394.out 7).trans rfl, (blk_cell BK394.out 8).trans rfl, (blk_cell BK394.out 9).trans rfl, (blk_cell BK394.out 10).trans rfl, (blk_cell BK394.out 11).trans rfl, (blk_cell BK394.out 12).trans rfl, (blk_cell BK394.out 13).trans rfl, (blk_cell BK394.out 14).trans rfl, (blk_cell BK394.out 15).trans rfl, (blk_cell BK394.out 16).trans rfl, (blk_cell BK394.out 17).trans rfl, (blk_cell BK394.out 18).trans rfl, (blk_cell BK394.out 19).trans rfl, (blk_cell BK394.out 20).trans rfl, (Gv.bx HB.out hw396_0)⟩ (fun hHeld => ?_)
           clear hK K
           refine norm_ (a' := ?_) ?_ ?_
           rotate_left
           ·show Act.put _ (some 13) _ = _
            simp only [Act.put, List.setIfInBounds_toArray, List.set_cons_zero, List.set_cons_succ, i64_w, i32_w]
            rfl
           refine Gv.pu 2 (some 14) HT_ ?_
           refine Gv.pu 3 (some 15) HT_ ?_
           refine Gv.pu 4 (some 16) HT_ ?_
           refine Gv.pu 5 (some 17) HT_ ?_
           refine Gv.pu 6 (some 18) HT_ ?_
           refine Gv.pu 7 (some 19) HT_ ?_
           refine Gv.pu 8 (some 20) HT_ ?_
           refine Gv.pu 9 (some 21) HT_ ?_
           refine Gv.pu 10 (some 22) HT_ ?_
           refine Gv.pu 11 (some 23) HT_ ?_
           refine Gv.pu 13 (some 25) HT_ ?_
           refine take_ (i := 12) (N := some 24) (v := ?_) (a' := ?_) #[true, true, true, true, true, true, true, true, true, true, true, true, true, true, false, false, false, false] rfl rfl (take_ofW HT_.out HW_.out (by kernel_rfl)) (fun _ _ _ h => h) (Or.inl ⟨by rfl, ?_⟩) hHeld ?_ ?_
           rotate_left
           ·rintro w' ⟨s0, s1, s2, s3, s4, s5, s6, s7, s8, s9, s10, s11, s12, s13, s14, s15, s16, s17, s18, s19, s20, s21⟩
            first | ((refine Gv.load_run (t := 55) (A := ⟨gb394, 0, none⟩) (cs := [_, _, _, _, _, _, _, _, _, _, _, _, _, _, _, _, _, _, _, _, _]) (x := ?xx37_) ?ho37_ ?hx37_ ⟨s0, s1, s2, s3, s4, s5, s6, s7, s8, s9, s10, s11, s12, s13, s14, s15, s16, s17, s18, s19, s20, trivial⟩ Try.underlying55 rfl (by kernel_rfl)); (case ho37_ => rfl); (case hx37_ => rfl)) | (go_simp; with_reducible rfl)
           rotate_left
           ·simp only [Act.put, List.setIfInBounds_toArray, List.set_cons_zero, List.set_cons_succ, i64_w, i32_w]
            rfl
           refine take_ (i := 14) (N := some 26) (v := ?_) (a' := ?_) #[true, true, true, true, true, true, true, true, true, true, true, true, true, true, true, false, false, false] rfl rfl (take_ofW HT_.out HW_.out (by kernel_rfl)) (fun _ _ _ h => h) (Or.inl ⟨by rfl, ?_⟩) hHeld ?_ ?_
           rotate_left
           ·rintro w' ⟨s0, s1, s2, s3, s4, s5, s6, s7, s8, s9, s10, s11, s12, s13, s14, s15, s16, s17, s18, s19, s20, s21⟩
            first | ((refine Gv.load_run (t := 55) (A := ⟨gb394, 0, none⟩) (cs := [_, _, _, _, _, _, _, _, _, _, _, _, _, _, _, _, _, _, _, _, _]) (x := ?xx39_) ?ho39_ ?hx39_ ⟨s0, s1, s2, s3, s4, s5, s6, s7, s8, s9, s10, s11, s12, s13, s14, s15, s16, s17, s18, s19, s20, trivial⟩ Try.underlying55 rfl (by kernel_rfl)); (case ho39_ => rfl); (case hx39_ => rfl)) | (go_simp; with_reducible rfl)
           rotate_left
           ·simp only [Act.put, List.setIfInBounds_toArray, List.set_cons_zero, List.set_cons_succ, i64_w, i32_w]
            rfl
           refine Gv.pu 15 (some 27) HT_ ?_
           refine Gv.pu 16 (some 28) HT_ ?_
           refine Gv.pu 17 (some 29) HT_ ?_
           refine done_ (done_of HT_.out (by kernel_rfl)) ?_
           try go_wp2
           go_roundg k1
           case measure => have := HK1.out; omega
           case rel => exact ⟨(wrap64 (x7_1 + 1)), Gv.rq, H', ⟨by have := HK1.out; omega⟩, ⟨Gv.bw⟩⟩
         ·rw [if_neg c10] at H
          exact absurd H (by simp)
        ·rw [if_neg c9] at H
         exact absurd H (by simp)
       ·rw [if_neg c7] at H
        have c7b0 : decide (0 < x7_1) = false := decide_eq_false c7
        clear c7
        have H' := Gv.a0 H
        clear H
        have p393 : 0 ≤ (x7_1 : Int) := of_decide_eq_true (by first | (with_reducible assumption) | assumption)
        have q393 : x7_1 < (l0.length : Int) := of_decide_eq_true (by first | (with_reducible assumption) | assumption)
        obtain ⟨ad393, e393, hx393_0, hx393_1, hx393_2, hx393_3, hx393_4, hx393_5, hx393_6, hx393_7, hx393_8, hx393_9, hx393_10, hx393_11, hx393_12, hx393_13, hx393_14, hx393_15, hx393_16, hx393_17, hx393_18, hx393_19, hx393_20⟩ := at_T55 HR0.out x7_1 p393 q393
        cases e393
        replace hx393_0 := Gv.bx HB.out hx393_0
        replace hx393_1 := Gv.bx HB.out hx393_1
        replace hx393_2 := Gv.bx HB.out hx393_2
        replace hx393_3 := Gv.bx HB.out hx393_3
        replace hx393_4 := Gv.bx HB.out hx393_4
        replace hx393_5 := Gv.bx HB.out hx393_5
        replace hx393_6 := Gv.bx HB.out hx393_6
        replace hx393_7 := Gv.bx HB.out hx393_7
        replace hx393_8 := Gv.bx HB.out hx393_8
        replace hx393_9 := Gv.bx HB.out hx393_9
        replace hx393_10 := Gv.bx HB.out hx393_10
        replace hx393_11 := Gv.bx HB.out hx393_11
        replace hx393_12 := Gv.bx HB.out hx393_12
        replace hx393_13 := Gv.bx HB.out hx393_13
        replace hx393_14 := Gv.bx HB.out hx393_14
        replace hx393_15 := Gv.bx HB.out hx393_15
        replace hx393_16 := Gv.bx HB.out hx393_16
        replace hx393_17 := Gv.bx HB.out hx393_17
        replace hx393_18 := Gv.bx HB.out hx393_18
        replace hx393_19 := Gv.bx HB.out hx393_19
        replace hx393_20 := Gv.bx HB.out hx393_20
        replace p393 := eq_true p393
        replace q393 := eq_true q393
        try go_wp2_with (first | ((with_reducible refine gate_dst (N := 4) rfl ?_); refine box_event ?hg (N := 4) ?hd (cs := #[.int .i64 0, .int .i64 0, .int .i64 0, .int .i64 0, .int .i64 0, .int .i64 0, .int .i64 0, .int .i64 0, .int .i64 0, .int .i64 0, .int .i64 0, .int .i64 0, .int .i64 0, .int .i64 0, .int .i64 0, .int .i64 0, .int .i64 0, .int .i64 0, .int .i64 0, .int .i64 0, .int .i64 0]) (t := 55) ?hr ?_; (case hd => rfl); (case hg => rfl); (case hr => first | (go_simp; done) | (go_simp; rfl)); intro gb394 hg w22 hbox hb; have n0_ := Gv.a0 (below_step Gv.bw hb); have n1_ := Gv.a0 (hbox); have n2_ := Gv.a0 ((Gv.ble hg Gv.bw : w.heap.size ≤ gb394)); have n3_ := Gv.a0 ((Gv.ble hg Gv.bw : w.heap.size ≤ gb394)); clear HB; have HB := n0_; have BK394 := n1_; have GW394 := n2_; have GE394 := n3_; clear n0_ n1_ n2_ n3_; clear hb hbox hg; obtain ⟨hcz23_0, hcz23_1, hcz23_2, hcz23_3, hcz23_4, hcz23_5, hcz23_6, hcz23_7, hcz23_8, hcz23_9, hcz23_10, hcz23_11, hcz23_12, hcz23_13, hcz23_14, hcz23_15, hcz23_16, hcz23_17, hcz23_18, hcz23_19, hcz23_20⟩ := Gv.c21 BK394.out) | ((with_reducible refine gate_store (t := 55) (p := 4) rfl ?_); refine Gv.store_event rfl rfl rfl rfl rfl (Gv.kb BK394.out) (by kernel_rfl) rfl (by simp; and_intros <;> rfl) ?_; intro w22s hbox hoth hbel; have n0_ := Gv.a0 (hbox); have n1_ := Gv.a0 (hbel w Gv.bw GE394.out); clear BK394 HB; have BK394 := n0_; have HB := n1_; clear n0_ n1_ hbox hoth hbel; (try clear hcz23_0 hcz23_1 hcz23_2 hcz23_3 hcz23_4 hcz23_5 hcz23_6 hcz23_7 hcz23_8 hcz23_9 hcz23_10 hcz23_11 hcz23_12 hcz23_13 hcz23_14 hcz23_15 hcz23_16 hcz23_17 hcz23_18 hcz23_19 hcz23_20); obtain ⟨hcz23_0, hcz23_1, hcz23_2, hcz23_3, hcz23_4, hcz23_5, hcz23_6, hcz23_7, hcz23_8, hcz23_9, hcz23_10, hcz23_11, hcz23_12, hcz23_13, hcz23_14, hcz23_15, hcz23_16, hcz23_17, hcz23_18, hcz23_19, hcz23_20⟩ := Gv.c21 BK394.out) | ((with_reducible refine Gv.gate_load (t := 55) rfl ?_); (try (refine gate_guard (by rfl) ?_; dsimp only)); refine wpList_load_row rfl 55 _ rfl gb394 rfl 55 _ _ _ (by first | exact Gv.kb0 BK394.out | exact Gv.kb1 (Gv.kb0 BK394.out)) Try.underlying55 rfl (by kernel_rfl) ?_) | ((with_reducible refine Gv.gate_load (t := 55) rfl ?_); refine Gv.load_event (cs := [_, _, _, _, _, _, _, _, _, _, _, _, _, _, _, _, _, _, _, _, _]) rfl rfl rfl ⟨hx393_0, hx393_1, hx393_2, hx393_3, hx393_4, hx393_5, hx393_6, hx393_7, hx393_8, hx393_9, hx393_10, hx393_11, hx393_12, hx393_13, hx393_14, hx393_15, hx393_16, hx393_17, hx393_18, hx393_19, hx393_20, trivial⟩ Try.underlying55 rfl (by kernel_rfl) ?_))
        have n0_ := Gv.a0 (blk_drew BK394.out)
        have n1_ := Gv.a0 (below_drew1 HB.out)
        clear BK394
        clear HB
        have BK394 := n0_
        have HB := n1_
        clear n0_ n1_
        refine start_ (n := 18) (S := fun w' => w'.cell? ⟨gb394, 0, none⟩ = some (.int .i64 ((rd_T55 l0 x7_1).f0)) ∧ w'.cell? ⟨gb394, 1, none⟩ = some (.int .i64 ((rd_T55 l0 x7_1).f1.f0.f0)) ∧ w'.cell? ⟨gb394, 2, none⟩ = some (.int .i64 ((rd_T55 l0 x7_1).f1.f0.f1)) ∧ w'.cell? ⟨gb394, 3, none⟩ = some (.int .i64 ((rd_T55 l0 x7_1).f1.f0.f2)) ∧ w'.cell? ⟨gb394, 4, none⟩ = some (.int .i64 ((rd_T55 l0 x7_1).f1.f0.f3)) ∧ w'.cell? ⟨gb394, 5, none⟩ = some (.int .i64 ((rd_T55 l0 x7_1).f1.f0.f4)) ∧ w'.cell? ⟨gb394, 6, none⟩ = some (.int .i64 ((rd_T55 l0 x7_1).f1.f1)) ∧ w'.cell? ⟨gb394, 7, none⟩ = some (.int .i64 ((rd_T55 l0 x7_1).f2.f0.f0)) ∧ w'.cell? ⟨gb394, 8, none⟩ = some (.int .i64 ((rd_T55 l0 x7_1).f2.f0.f1)) ∧ w'.cell? ⟨gb394, 9, none⟩ = some (.int .i64 ((rd_T55 l0 x7_1).f2.f0.f2)) ∧ w'.cell? ⟨gb394, 10, none⟩ = some (.int .i64 ((rd_T55 l0 x7_1).f2.f0.f3)) ∧ w'.cell? ⟨gb394, 11, none⟩ = some (.int .i64 ((rd_T55 l0 x7_1).f2.f0.f4)) ∧ w'.cell? ⟨gb394, 12, none⟩ = some (.int .i64 ((rd_T55 l0 x7_1).f2.f1)) ∧ w'.cell? ⟨gb394, 13, none⟩ = some (.int .i64 ((rd_T55 l0 x7_1).f3)) ∧ w'.cell? ⟨gb394, 14, none⟩ = some (.int .i64 ((rd_T55 l0 x7_1).f4)) ∧ w'.cell? ⟨gb394, 15, none⟩ = some (.int .i64 ((rd_T55 l0 x7_1).f5)) ∧ w'.cell? ⟨gb394, 16, none⟩ = some (.int .i64 ((rd_T55 l0 x7_1).f6)) ∧ w'.cell? ⟨gb394, 17, none⟩ = some (.int .i64 ((rd_T55 l0 x7_1).f7)) ∧ w'.cell? ⟨gb394, 18, none⟩ = some (.int .i64 ((rd_T55 l0 x7_1).f8)) ∧ w'.cell? ⟨gb394, 19, none⟩ = some (.int .i64 ((rd_T55 l0 x7_1).f9)) ∧ w'.cell? ⟨gb394, 20, none⟩ = some (.int .i64 ((rd_T55 l0 x7_1).f10))) (ds := []) #[false, false, false, false, false, false, false, false, false, false, false, false, false, false, false, false, false, false] (by kernel_rfl) rfl rfl ⟨(blk_cell BK394.out 0).trans rfl, (blk_cell BK394.out 1).trans rfl, (blk_cell BK394.out 2).trans rfl, (blk_cell BK394.out 3).trans rfl, (blk_cell BK394.out 4).trans rfl, (blk_cell BK394.out 5).trans rfl, (blk_cell BK394.out 6).trans rfl, (blk_cell BK394.out 7).trans rfl, (blk_cell BK394.out 8).trans rfl, (blk_cell BK394.out 9).trans rfl, (blk_cell BK394.out 10).trans rfl, (blk_cell BK394.out 11).trans rfl, (blk_cell BK394.out 12).trans rfl, (blk_cell BK394.out 13).trans rfl, (blk_cell BK394.out 14).trans rfl, (blk_cell BK394.out 15).trans rfl, (blk_cell BK394.out 16).trans rfl, (blk_cell BK394.out 17).trans rfl, (blk_cell BK394.out 18).trans rfl, (blk_cell BK394.out 19).trans rfl, (blk_cell BK394.out 20).trans rfl⟩ (fun hHeld => ?_); refine with_tabW impl_RulesOk.tab4 impl_RulesOk.bits4 (fun HT_ HW_ => ?_)
        generalize w22s.drew = w25 at BK394 HB hHeld ⊢
        refine take_ (i := 0) (N := some 12) (v := ?_) (a' := ?_) #[true, false, false, false, false, false, false, false, false, false, false, false, false, false, false, false, false, false] rfl rfl (take_ofW HT_.out HW_.out (by kernel_rfl)) (fun _ _ _ h => h) (Or.inl ⟨by rfl, ?_⟩) hHeld ?_ ?_
        rotate_left
        ·rintro w' ⟨s0, s1, s2, s3, s4, s5, s6, s7, s8, s9, s10, s11, s12, s13, s14, s15, s16, s17, s18, s19, s20⟩
         first | ((refine Gv.load_run (t := 55) (A := ⟨gb394, 0, none⟩) (cs := [_, _, _, _, _, _, _, _, _, _, _, _, _, _, _, _, _, _, _, _, _]) (x := ?xx41_) ?ho41_ ?hx41_ ⟨s0, s1, s2, s3, s4, s5, s6, s7, s8, s9, s10, s11, s12, s13, s14, s15, s16, s17, s18, s19, s20, trivial⟩ Try.underlying55 rfl (by kernel_rfl)); (case ho41_ => rfl); (case hx41_ => rfl)) | (go_simp; with_reducible rfl)
        rotate_left
        ·simp only [Act.put, List.setIfInBounds_toArray, List.set_cons_zero, List.set_cons_succ, i64_w, i32_w]
         rfl
        refine one_ (i := 1) (N := some 13) #[true, true, false, false, false, false, false, false, false, false, false, false, false, false, false, false, false, false] rfl rfl (one_of HT_.out (by kernel_rfl)) (by decide) (fun K hK => ?_)
        refine goes_ Try.func29 (by kernel_rfl) rfl #[.agg #[.int .i64 ((rd_T55 l0 x7_1).f0), .int .i64 ((rd_T55 l0 x7_1).f1.f0.f0), .int .i64 ((rd_T55 l0 x7_1).f1.f0.f1), .int .i64 ((rd_T55 l0 x7_1).f1.f0.f2), .int .i64 ((rd_T55 l0 x7_1).f1.f0.f3), .int .i64 ((rd_T55 l0 x7_1).f1.f0.f4), .int .i64 ((rd_T55 l0 x7_1).f1.f1), .int .i64 ((rd_T55 l0 x7_1).f2.f0.f0), .int .i64 ((rd_T55 l0 x7_1).f2.f0.f1), .int .i64 ((rd_T55 l0 x7_1).f2.f0.f2), .int .i64 ((rd_T55 l0 x7_1).f2.f0.f3), .int .i64 ((rd_T55 l0 x7_1).f2.f0.f4), .int .i64 ((rd_T55 l0 x7_1).f2.f1), .int .i64 ((rd_T55 l0 x7_1).f3), .int .i64 ((rd_T55 l0 x7_1).f4), .int .i64 ((rd_T55 l0 x7_1).f5), .int .i64 ((rd_T55 l0 x7_1).f6), .int .i64 ((rd_T55 l0 x7_1).f7), .int .i64 ((rd_T55 l0 x7_1).f8), .int .i64 ((rd_T55 l0 x7_1).f9), .int .i64 ((rd_T55 l0 x7_1).f10)]] (by rfl) rfl rfl Gv.lm ?_
        with_reducible refine (impl_RuleOk.calls k1 ((rd_T55 l0 x7_1).f0) ((rd_T55 l0 x7_1).f1.f0.f0) ((rd_T55 l0 x7_1).f1.f0.f1) ((rd_T55 l0 x7_1).f1.f0.f2) ((rd_T55 l0 x7_1).f1.f0.f3) ((rd_T55 l0 x7_1).f1.f0.f4) ((rd_T55 l0 x7_1).f1.f1) ((rd_T55 l0 x7_1).f2.f0.f0) ((rd_T55 l0 x7_1).f2.f0.f1) ((rd_T55 l0 x7_1).f2.f0.f2) ((rd_T55 l0 x7_1).f2.f0.f3) ((rd_T55 l0 x7_1).f2.f0.f4) ((rd_T55 l0 x7_1).f2.f1) ((rd_T55 l0 x7_1).f3) ((rd_T55 l0 x7_1).f4) ((rd_T55 l0 x7_1).f5) ((rd_T55 l0 x7_1).f6) ((rd_T55 l0 x7_1).f7) ((rd_T55 l0 x7_1).f8) ((rd_T55 l0 x7_1).f9) ((rd_T55 l0 x7_1).f10) true _ A5.out).mono ?_
        rintro e w26 ⟨rfl, hb⟩
        refine ⟨_, rfl, ?_⟩
        have n0_ := Gv.a0 (Gv.bb BK394.out hb)
        have n1_ := Gv.a0 (below_step Gv.bw hb)
        clear BK394
        clear HB
        have BK394 := n0_
        have HB := n1_
        clear n0_ n1_
        (try clear hb)
        (try clear hb2)
        (try clear hk)
        (try clear hi)
        refine hK.out _ _ ⟨(blk_cell BK394.out 0).trans rfl, (blk_cell BK394.out 1).trans rfl, (blk_cell BK394.out 2).trans rfl, (blk_cell BK394.out 3).trans rfl, (blk_cell BK394.out 4).trans rfl, (blk_cell BK394.out 5).trans rfl, (blk_cell BK394.out 6).trans rfl, (blk_cell BK394.out 7).trans rfl, (blk_cell BK394.out 8).trans rfl, (blk_cell BK394.out 9).trans rfl, (blk_cell BK394.out 10).trans rfl, (blk_cell BK394.out 11).trans rfl, (blk_cell BK394.out 12).trans rfl, (blk_cell BK394.out 13).trans rfl, (blk_cell BK394.out 14).trans rfl, (blk_cell BK394.out 15).trans rfl, (blk_cell BK394.out 16).trans rfl, (blk_cell BK394.out 17).trans rfl, (blk_cell BK394.out 18).trans rfl, (blk_cell BK394.out 19).trans rfl, (blk_cell BK394.out 20).trans rfl⟩ (fun hHeld => ?_)
        clear hK K
        refine norm_ (a' := ?_) ?_ ?_
        rotate_left
        ·show Act.put _ (some 13) _ = _
         simp only [Act.put, List.setIfInBounds_toArray, List.set_cons_zero, List.set_cons_succ, i64_w, i32_w]
         rfl
        refine Gv.pu 2 (some 14) HT_ ?_
        refine Gv.pu 3 (some 15) HT_ ?_
        refine Gv.pu 4 (some 16) HT_ ?_
        refine Gv.pu 5 (some 17) HT_ ?_
        refine Gv.pu 6 (some 18) HT_ ?_
        refine Gv.pn 7 (some 19) HT_ ?_
        refine Gv.pn 8 (some 20) HT_ ?_
        refine Gv.pn 9 (some 21) HT_ ?_
        refine Gv.pn 10 (some 22) HT_ ?_
        refine Gv.pn 11 (some 23) HT_ ?_
        refine Gv.pn 12 (some 24) HT_ ?_
        refine Gv.pn 13 (some 25) HT_ ?_
        refine Gv.pn 14 (some 26) HT_ ?_
        refine Gv.pn 15 (some 27) HT_ ?_
        refine Gv.pu 16 (some 28) HT_ ?_
        refine Gv.pu 17 (some 29) HT_ ?_
        refine done_ (done_of HT_.out (by kernel_rfl)) ?_
        try go_wp2
        go_roundg k1
        case measure => have := HK1.out; omega
        case rel => exact ⟨(wrap64 (x7_1 + 1)), Gv.rq, H', ⟨by have := HK1.out; omega⟩, ⟨Gv.bw⟩⟩
      ·replace c6 := Bool.eq_false_iff.mpr c6
       subst c6
       have H1 : (some false) = some r := by rw [if_neg (show ¬ (false = true) by decide)] at H; exact H
       clear H
       have H := H1
       clear H1
       obtain rfl := Option.some.inj H
       have p393 : 0 ≤ (x7_1 : Int) := of_decide_eq_true (by first | (with_reducible assumption) | assumption)
       have q393 : x7_1 < (l0.length : Int) := of_decide_eq_true (by first | (with_reducible assumption) | assumption)
       obtain ⟨ad393, e393, hx393_0, hx393_1, hx393_2, hx393_3, hx393_4, hx393_5, hx393_6, hx393_7, hx393_8, hx393_9, hx393_10, hx393_11, hx393_12, hx393_13, hx393_14, hx393_15, hx393_16, hx393_17, hx393_18, hx393_19, hx393_20⟩ := at_T55 HR0.out x7_1 p393 q393
       cases e393
       replace hx393_0 := Gv.bx HB.out hx393_0
       replace hx393_1 := Gv.bx HB.out hx393_1
       replace hx393_2 := Gv.bx HB.out hx393_2
       replace hx393_3 := Gv.bx HB.out hx393_3
       replace hx393_4 := Gv.bx HB.out hx393_4
       replace hx393_5 := Gv.bx HB.out hx393_5
       replace hx393_6 := Gv.bx HB.out hx393_6
       replace hx393_7 := Gv.bx HB.out hx393_7
       replace hx393_8 := Gv.bx HB.out hx393_8
       replace hx393_9 := Gv.bx HB.out hx393_9
       replace hx393_10 := Gv.bx HB.out hx393_10
       replace hx393_11 := Gv.bx HB.out hx393_11
       replace hx393_12 := Gv.bx HB.out hx393_12
       replace hx393_13 := Gv.bx HB.out hx393_13
       replace hx393_14 := Gv.bx HB.out hx393_14
       replace hx393_15 := Gv.bx HB.out hx393_15
       replace hx393_16 := Gv.bx HB.out hx393_16
       replace hx393_17 := Gv.bx HB.out hx393_17
       replace hx393_18 := Gv.bx HB.out hx393_18
       replace hx393_19 := Gv.bx HB.out hx393_19
       replace hx393_20 := Gv.bx HB.out hx393_20
       replace p393 := eq_true p393
       replace q393 := eq_true q393
       try go_wp2_with (first | ((with_reducible refine gate_dst (N := 4) rfl ?_); refine box_event ?hg (N := 4) ?hd (cs := #[.int .i64 0, .int .i64 0, .int .i64 0, .int .i64 0, .int .i64 0, .int .i64 0, .int .i64 0, .int .i64 0, .int .i64 0, .int .i64 0, .int .i64 0, .int .i64 0, .int .i64 0, .int .i64 0, .int .i64 0, .int .i64 0, .int .i64 0, .int .i64 0, .int .i64 0, .int .i64 0, .int .i64 0]) (t := 55) ?hr ?_; (case hd => rfl); (case hg => rfl); (case hr => first | (go_simp; done) | (go_simp; rfl)); intro gb394 hg w27 hbox hb; have n0_ := Gv.a0 (below_step Gv.bw hb); have n1_ := Gv.a0 (hbox); have n2_ := Gv.a0 ((Gv.ble hg Gv.bw : w.heap.size ≤ gb394)); have n3_ := Gv.a0 ((Gv.ble hg Gv.bw : w.heap.size ≤ gb394)); clear HB; have HB := n0_; have BK394 := n1_; have GW394 := n2_; have GE394 := n3_; clear n0_ n1_ n2_ n3_; clear hb hbox hg; obtain ⟨hcz28_0, hcz28_1, hcz28_2, hcz28_3, hcz28_4, hcz28_5, hcz28_6, hcz28_7, hcz28_8, hcz28_9, hcz28_10, hcz28_11, hcz28_12, hcz28_13, hcz28_14, hcz28_15, hcz28_16, hcz28_17, hcz28_18, hcz28_19, hcz28_20⟩ := Gv.c21 BK394.out) | ((with_reducible refine gate_store (t := 55) (p := 4) rfl ?_); refine Gv.store_event rfl rfl rfl rfl rfl (Gv.kb BK394.out) (by kernel_rfl) rfl (by simp; and_intros <;> rfl) ?_; intro w27s hbox hoth hbel; have n0_ := Gv.a0 (hbox); have n1_ := Gv.a0 (hbel w Gv.bw GE394.out); clear BK394 HB; have BK394 := n0_; have HB := n1_; clear n0_ n1_ hbox hoth hbel; (try clear hcz28_0 hcz28_1 hcz28_2 hcz28_3 hcz28_4 hcz28_5 hcz28_6 hcz28_7 hcz28_8 hcz28_9 hcz28_10 hcz28_11 hcz28_12 hcz28_13 hcz28_14 hcz28_15 hcz28_16 hcz28_17 hcz28_18 hcz28_19 hcz28_20); obtain ⟨hcz28_0, hcz28_1, hcz28_2, hcz28_3, hcz28_4, hcz28_5, hcz28_6, hcz28_7, hcz28_8, hcz28_9, hcz28_10, hcz28_11, hcz28_12, hcz28_13, hcz28_14, hcz28_15, hcz28_16, hcz28_17, hcz28_18, hcz28_19, hcz28_20⟩ := Gv.c21 BK394.out) | ((with_reducible refine Gv.gate_load (t := 55) rfl ?_); (try (refine gate_guard (by rfl) ?_; dsimp only)); refine wpList_load_row rfl 55 _ rfl gb394 rfl 55 _ _ _ (by first | exact Gv.kb0 BK394.out | exact Gv.kb1 (Gv.kb0 BK394.out)) Try.underlying55 rfl (by kernel_rfl) ?_) | ((with_reducible refine Gv.gate_load (t := 55) rfl ?_); refine Gv.load_event (cs := [_, _, _, _, _, _, _, _, _, _, _, _, _, _, _, _, _, _, _, _, _]) rfl rfl rfl ⟨hx393_0, hx393_1, hx393_2, hx393_3, hx393_4, hx393_5, hx393_6, hx393_7, hx393_8, hx393_9, hx393_10, hx393_11, hx393_12, hx393_13, hx393_14, hx393_15, hx393_16, hx393_17, hx393_18, hx393_19, hx393_20, trivial⟩ Try.underlying55 rfl (by kernel_rfl) ?_))
       have n0_ := Gv.a0 (blk_drew BK394.out)
       have n1_ := Gv.a0 (below_drew1 HB.out)
       clear BK394
       clear HB
       have BK394 := n0_
       have HB := n1_
       clear n0_ n1_
       refine start_ (n := 18) (S := fun w' => w'.cell? ⟨gb394, 0, none⟩ = some (.int .i64 ((rd_T55 l0 x7_1).f0)) ∧ w'.cell? ⟨gb394, 1, none⟩ = some (.int .i64 ((rd_T55 l0 x7_1).f1.f0.f0)) ∧ w'.cell? ⟨gb394, 2, none⟩ = some (.int .i64 ((rd_T55 l0 x7_1).f1.f0.f1)) ∧ w'.cell? ⟨gb394, 3, none⟩ = some (.int .i64 ((rd_T55 l0 x7_1).f1.f0.f2)) ∧ w'.cell? ⟨gb394, 4, none⟩ = some (.int .i64 ((rd_T55 l0 x7_1).f1.f0.f3)) ∧ w'.cell? ⟨gb394, 5, none⟩ = some (.int .i64 ((rd_T55 l0 x7_1).f1.f0.f4)) ∧ w'.cell? ⟨gb394, 6, none⟩ = some (.int .i64 ((rd_T55 l0 x7_1).f1.f1)) ∧ w'.cell? ⟨gb394, 7, none⟩ = some (.int .i64 ((rd_T55 l0 x7_1).f2.f0.f0)) ∧ w'.cell? ⟨gb394, 8, none⟩ = some (.int .i64 ((rd_T55 l0 x7_1).f2.f0.f1)) ∧ w'.cell? ⟨gb394, 9, none⟩ = some (.int .i64 ((rd_T55 l0 x7_1).f2.f0.f2)) ∧ w'.cell? ⟨gb394, 10, none⟩ = some (.int .i64 ((rd_T55 l0 x7_1).f2.f0.f3)) ∧ w'.cell? ⟨gb394, 11, none⟩ = some (.int .i64 ((rd_T55 l0 x7_1).f2.f0.f4)) ∧ w'.cell? ⟨gb394, 12, none⟩ = some (.int .i64 ((rd_T55 l0 x7_1).f2.f1)) ∧ w'.cell? ⟨gb394, 13, none⟩ = some (.int .i64 ((rd_T55 l0 x7_1).f3)) ∧ w'.cell? ⟨gb394, 14, none⟩ = some (.int .i64 ((rd_T55 l0 x7_1).f4)) ∧ w'.cell? ⟨gb394, 15, none⟩ = some (.int .i64 ((rd_T55 l0 x7_1).f5)) ∧ w'.cell? ⟨gb394, 16, none⟩ = some (.int .i64 ((rd_T55 l0 x7_1).f6)) ∧ w'.cell? ⟨gb394, 17, none⟩ = some (.int .i64 ((rd_T55 l0 x7_1).f7)) ∧ w'.cell? ⟨gb394, 18, none⟩ = some (.int .i64 ((rd_T55 l0 x7_1).f8)) ∧ w'.cell? ⟨gb394, 19, none⟩ = some (.int .i64 ((rd_T55 l0 x7_1).f9)) ∧ w'.cell? ⟨gb394, 20, none⟩ = some (.int .i64 ((rd_T55 l0 x7_1).f10))) (ds := []) #[false, false, false, false, false, false, false, false, false, false, false, false, false, false, false, false, false, false] (by kernel_rfl) rfl rfl ⟨(blk_cell BK394.out 0).trans rfl, (blk_cell BK394.out 1).trans rfl, (blk_cell BK394.out 2).trans rfl, (blk_cell BK394.out 3).trans rfl, (blk_cell BK394.out 4).trans rfl, (blk_cell BK394.out 5).trans rfl, (blk_cell BK394.out 6).trans rfl, (blk_cell BK394.out 7).trans rfl, (blk_cell BK394.out 8).trans rfl, (blk_cell BK394.out 9).trans rfl, (blk_cell BK394.out 10).trans rfl, (blk_cell BK394.out 11).trans rfl, (blk_cell BK394.out 12).trans rfl, (blk_cell BK394.out 13).trans rfl, (blk_cell BK394.out 14).trans rfl, (blk_cell BK394.out 15).trans rfl, (blk_cell BK394.out 16).trans rfl, (blk_cell BK394.out 17).trans rfl, (blk_cell BK394.out 18).trans rfl, (blk_cell BK394.out 19).trans rfl, (blk_cell BK394.out 20).trans rfl⟩ (fun hHeld => ?_); refine with_tabW impl_RulesOk.tab4 impl_RulesOk.bits4 (fun HT_ HW_ => ?_)
       generalize w27s.drew = w30 at BK394 HB hHeld ⊢
       refine take_ (i := 0) (N := some 12) (v := ?_) (a' := ?_) #[true, false, false, false, false, false, false, false, false, false, false, false, false, false, false, false, false, false] rfl rfl (take_ofW HT_.out HW_.out (by kernel_rfl)) (fun _ _ _ h => h) (Or.inl ⟨by rfl, ?_⟩) hHeld ?_ ?_
       rotate_left
       ·rintro w' ⟨s0, s1, s2, s3, s4, s5, s6, s7, s8, s9, s10, s11, s12, s13, s14, s15, s16, s17, s18, s19, s20⟩
        first | ((refine Gv.load_run (t := 55) (A := ⟨gb394, 0, none⟩) (cs := [_, _, _, _, _, _, _, _, _, _, _, _, _, _, _, _, _, _, _, _, _]) (x := ?xx43_) ?ho43_ ?hx43_ ⟨s0, s1, s2, s3, s4, s5, s6, s7, s8, s9, s10, s11, s12, s13, s14, s15, s16, s17, s18, s19, s20, trivial⟩ Try.underlying55 rfl (by kernel_rfl)); (case ho43_ => rfl); (case hx43_ => rfl)) | (go_simp; with_reducible rfl)
       rotate_left
       ·simp only [Act.put, List.setIfInBounds_toArray, List.set_cons_zero, List.set_cons_succ, i64_w, i32_w]
        rfl
       refine one_ (i := 1) (N := some 13) #[true, true, false, false, false, false, false, false, false, false, false, false, false, false, false, false, false, false] rfl rfl (one_of HT_.out (by kernel_rfl)) (by decide) (fun K hK => ?_)
       refine goes_ Try.func29 (by kernel_rfl) rfl #[.agg #[.int .i64 ((rd_T55 l0 x7_1).f0), .int .i64 ((rd_T55 l0 x7_1).f1.f0.f0), .int .i64 ((rd_T55 l0 x7_1).f1.f0.f1), .int .i64 ((rd_T55 l0 x7_1).f1.f0.f2), .int .i64 ((rd_T55 l0 x7_1).f1.f0.f3), .int .i64 ((rd_T55 l0 x7_1).f1.f0.f4), .int .i64 ((rd_T55 l0 x7_1).f1.f1), .int .i64 ((rd_T55 l0 x7_1).f2.f0.f0), .int .i64 ((rd_T55 l0 x7_1).f2.f0.f1), .int .i64 ((rd_T55 l0 x7_1).f2.f0.f2), .int .i64 ((rd_T55 l0 x7_1).f2.f0.f3), .int .i64 ((rd_T55 l0 x7_1).f2.f0.f4), .int .i64 ((rd_T55 l0 x7_1).f2.f1), .int .i64 ((rd_T55 l0 x7_1).f3), .int .i64 ((rd_T55 l0 x7_1).f4), .int .i64 ((rd_T55 l0 x7_1).f5), .int .i64 ((rd_T55 l0 x7_1).f6), .int .i64 ((rd_T55 l0 x7_1).f7), .int .i64 ((rd_T55 l0 x7_1).f8), .int .i64 ((rd_T55 l0 x7_1).f9), .int .i64 ((rd_T55 l0 x7_1).f10)]] (by rfl) rfl rfl Gv.lm ?_
       with_reducible refine (impl_RuleOk.calls k1 ((rd_T55 l0 x7_1).f0) ((rd_T55 l0 x7_1).f1.f0.f0) ((rd_T55 l0 x7_1).f1.f0.f1) ((rd_T55 l0 x7_1).f1.f0.f2) ((rd_T55 l0 x7_1).f1.f0.f3) ((rd_T55 l0 x7_1).f1.f0.f4) ((rd_T55 l0 x7_1).f1.f1) ((rd_T55 l0 x7_1).f2.f0.f0) ((rd_T55 l0 x7_1).f2.f0.f1) ((rd_T55 l0 x7_1).f2.f0.f2) ((rd_T55 l0 x7_1).f2.f0.f3) ((rd_T55 l0 x7_1).f2.f0.f4) ((rd_T55 l0 x7_1).f2.f1) ((rd_T55 l0 x7_1).f3) ((rd_T55 l0 x7_1).f4) ((rd_T55 l0 x7_1).f5) ((rd_T55 l0 x7_1).f6) ((rd_T55 l0 x7_1).f7) ((rd_T55 l0 x7_1).f8) ((rd_T55 l0 x7_1).f9) ((rd_T55 l0 x7_1).f10) false _ A5.out).mono ?_
       rintro e w31 ⟨rfl, hb⟩
       refine ⟨_, rfl, ?_⟩
       have n0_ := Gv.a0 (Gv.bb BK394.out hb)
       have n1_ := Gv.a0 (below_step Gv.bw hb)
       clear BK394
       clear HB
       have BK394 := n0_
       have HB := n1_
       clear n0_ n1_
       (try clear hb)
       (try clear hb2)
       (try clear hk)
       (try clear hi)
       refine hK.out _ _ ⟨(blk_cell BK394.out 0).trans rfl, (blk_cell BK394.out 1).trans rfl, (blk_cell BK394.out 2).trans rfl, (blk_cell BK394.out 3).trans rfl, (blk_cell BK394.out 4).trans rfl, (blk_cell BK394.out 5).trans rfl, (blk_cell BK394.out 6).trans rfl, (blk_cell BK394.out 7).trans rfl, (blk_cell BK394.out 8).trans rfl, (blk_cell BK394.out 9).trans rfl, (blk_cell BK394.out 10).trans rfl, (blk_cell BK394.out 11).trans rfl, (blk_cell BK394.out 12).trans rfl, (blk_cell BK394.out 13).trans rfl, (blk_cell BK394.out 14).trans rfl, (blk_cell BK394.out 15).trans rfl, (blk_cell BK394.out 16).trans rfl, (blk_cell BK394.out 17).trans rfl, (blk_cell BK394.out 18).trans rfl, (blk_cell BK394.out 19).trans rfl, (blk_cell BK394.out 20).trans rfl⟩ (fun hHeld => ?_)
       clear hK K
       refine norm_ (a' := ?_) ?_ ?_
       rotate_left
       ·show Act.put _ (some 13) _ = _
        simp only [Act.put, List.setIfInBounds_toArray, List.set_cons_zero, List.set_cons_succ, i64_w, i32_w]
        rfl
       refine Gv.pu 2 (some 14) HT_ ?_
       refine Gv.pu 3 (some 15) HT_ ?_
       refine Gv.pn 4 (some 16) HT_ ?_
       refine Gv.pn 5 (some 17) HT_ ?_
       refine Gv.pn 6 (some 18) HT_ ?_
       refine Gv.pn 7 (some 19) HT_ ?_
       refine Gv.pn 8 (some 20) HT_ ?_
       refine Gv.pn 9 (some 21) HT_ ?_
       refine Gv.pn 10 (some 22) HT_ ?_
       refine Gv.pn 11 (some 23) HT_ ?_
       refine Gv.pn 12 (some 24) HT_ ?_
       refine Gv.pn 13 (some 25) HT_ ?_
       refine Gv.pn 14 (some 26) HT_ ?_
       refine Gv.pn 15 (some 27) HT_ ?_
       refine Gv.pn 16 (some 28) HT_ ?_
       refine Gv.pu 17 (some 29) HT_ ?_
       refine done_ (done_of HT_.out (by kernel_rfl)) ?_
       try go_wp2
       go_ret
       exact ⟨Gv.rt, Gv.bw⟩
     ·rw [if_neg c4] at H
      exact absurd H (by simp)
    ·rw [if_neg c3] at H
     exact absurd H (by simp)
   ·rw [if_neg c2] at H
    have c2b0 : decide (x7_1 < (l0.length : Int)) = false := decide_eq_false c2
    clear c2
    obtain rfl := Option.some.inj H
    go_wp2_with (first | ((with_reducible refine Gv.gate_load (t := 55) rfl ?_); (try (refine gate_guard (by rfl) ?_; dsimp only)); refine wpList_load_row rfl 55 _ rfl gb394 rfl 55 _ _ _ (by first | exact Gv.kb0 BK394.out | exact Gv.kb1 (Gv.kb0 BK394.out)) Try.underlying55 rfl (by kernel_rfl) ?_))
    go_ret
    exact ⟨Gv.rt, Gv.bw⟩

end Go.Proofs.Ytbihbbkdciebhaa.PSh
