/- Plain Lean functions of a law's Go functions, their contracts, by a program of this session (wip/pr.py over the kit's print). -/
import Derived.Test.YtfnpodebjejhpaaPTnx0
import Derived.Test.YtfnpodebjejhpaaPTnx2
import Derived.Test.YtfnpodebjejhpaaPTnx3
namespace Go.Proofs.Ytfnpodebjejhpaa.PTn
open Go.RowKit Go.Proofs.YtfnpodebjejhpaaW.PrintWords Go.Proofs.YtfnpodebjejhpaaW.PrintLast Go.Proofs.YtfnpodebjejhpaaW.PrintMore
attribute [local go_sem] max2_int min2_int max_two min_two max_three min_three max_four min_four   -- for this text's walks alone
set_option linter.unusedVariables false
set_option linter.unusedSimpArgs false

attribute [local go_sem high] eqA75
/-! ### spec_l11Home: function 55 -/
def spec_l11Home.f (k : Nat) (a0_0 : Int) (l0_1 : List (S75)) (a1_0 : Int) (a1_1 : Int) (a1_2 : Int) (a1_3 : Int) (a1_4 : Int) (a1_5 : Int) (a1_6 : Int) (a1_7 : Int) (a1_8 : Int) (a1_9 : Int) (a1_10 : Int) (a1_11 : Int) (a1_12 : Int) (a1_13 : Int) : Option (Int) := (spec_HashOf.f k a0_0 a1_0 a1_1 a1_2 a1_3 a1_4 a1_5 a1_6 a1_7 a1_8 a1_9 a1_10 a1_11 a1_12 a1_13).bind fun t203 => (if (l0_1.length : Int) = 0 then (none) else (some (Int.tmod t203 (l0_1.length : Int))))
theorem spec_l11Home.mono : ∀ a0 a1 a2 a3 a4 a5 a6 a7 a8 a9 a10 a11 a12 a13 a14 a15 k, LeO (spec_l11Home.f k a0 a1 a2 a3 a4 a5 a6 a7 a8 a9 a10 a11 a12 a13 a14 a15) (spec_l11Home.f (k + 1) a0 a1 a2 a3 a4 a5 a6 a7 a8 a9 a10 a11 a12 a13 a14 a15) := by
 intro a0 a1 a2 a3 a4 a5 a6 a7 a8 a9 a10 a11 a12 a13 a14 a15 k
 unfold spec_l11Home.f
 repeat' first
   | (with_reducible exact spec_HashOf.mono _ _ _ _ _ _ _ _ _ _ _ _ _ _ _ _)
   | (with_reducible exact LeO.refl _)
   | (with_reducible exact LeO.none _)
   | (with_reducible refine LeO.ite ?_ ?_)
   | (with_reducible refine LeO.bind ?_ (fun _ => ?_))
   | exact spec_HashOf.mono _ _ _ _ _ _ _ _ _ _ _ _ _ _ _ _
   | exact LeO.none _
   | refine LeO.ite ?_ ?_
   | refine LeO.bind ?_ (fun _ => ?_)
def spec_l11Home.T1 : Bool × List (List Nat × List Nat) := (true, [([], []), ([0], [0]), ([], []), ([1, 2], [1, 2]), ([], []), ([4], [4]), ([5], [5]), ([3, 6], [3, 6]), ([7, 3, 0, 1, 2, 3, 4, 5, 6, 7], [7])])
def spec_l11Home.B1 : List Nat := [0, 1, 0, 7, 0, 16, 48, 127, 255]
theorem spec_l11Home.tab1 : rtab .any (opsOf Try.f55 1) = spec_l11Home.T1 := by kernel_rfl
theorem spec_l11Home.bits1 : waitsOk spec_l11Home.T1.2 spec_l11Home.B1 = true := by kernel_rfl
set_option maxHeartbeats 8000000 in
set_option maxRecDepth 100000 in
theorem spec_l11Home.calls (k : Nat) (a0_0 : Int) (A0_1 : Option Addr) (c0_1 : Nat) (l0_1 : List (S75)) (a1_0 : Int) (a1_1 : Int) (a1_2 : Int) (a1_3 : Int) (a1_4 : Int) (a1_5 : Int) (a1_6 : Int) (a1_7 : Int) (a1_8 : Int) (a1_9 : Int) (a1_10 : Int) (a1_11 : Int) (a1_12 : Int) (a1_13 : Int) (r : Int) (w : World) (hr0_1 : Kd.C k75 w A0_1 l0_1.length l0_1) (hc0_1 : l0_1.length ≤ c0_1) (h : spec_l11Home.f k a0_0 l0_1 a1_0 a1_1 a1_2 a1_3 a1_4 a1_5 a1_6 a1_7 a1_8 a1_9 a1_10 a1_11 a1_12 a1_13 = some r) :
  Calls Try.prog 55 #[.agg #[.int .i64 a0_0, .slice A0_1 l0_1.length c0_1], .agg #[.int .i64 a1_0, .int .i64 a1_1, .int .i64 a1_2, .int .i64 a1_3, .int .i64 a1_4, .int .i64 a1_5, .int .i64 a1_6, .int .i64 a1_7, .int .i64 a1_8, .int .i64 a1_9, .int .i64 a1_10, .int .i64 a1_11, .int .i64 a1_12, .int .i64 a1_13]] w fun e w' => e = .returned (.int .i64 r) ∧ Below w.heap.size w w' := by
 have hu40 := Try.underlying40
 have hu33 := Try.underlying33
 have HR0_1 := Gv.a0 hr0_1
 have HC0_1 := Gv.a0 hc0_1
 clear hr0_1 hc0_1
 have HB := Gv.a0 (Below.refl w.heap.size w)
 have H : ((spec_HashOf.f k a0_0 a1_0 a1_1 a1_2 a1_3 a1_4 a1_5 a1_6 a1_7 a1_8 a1_9 a1_10 a1_11 a1_12 a1_13).bind fun t203 => (if (l0_1.length : Int) = 0 then (none) else (some (Int.tmod t203 (l0_1.length : Int))))) = some r := h
 clear h
 replace H := Option.bind_eq_some_iff.mp H
 obtain ⟨t203, A30, H⟩ := H
 replace H : (if (l0_1.length : Int) = 0 then (none) else (some (Int.tmod t203 (l0_1.length : Int)))) = some r := H
 have A3 := Gv.a0 A30
 clear A30
 by_cases c4 : (l0_1.length : Int) = 0
 ·rw [if_pos c4] at H
  exact absurd H (by simp)
 ·rw [if_neg c4] at H
  have c4b0 : ((l0_1.length : Int) == 0) = false := beq_eq_false_iff_ne.mpr c4
  have c4b1 : ((l0_1.length : Int) != 0) = true := bne_iff_ne.mpr c4
  have c4b2 : ¬ (l0_1 = []) := fun h_ => c4 (by rw [h_]; rfl)
  obtain rfl := Option.some.inj H
  go_enter Try.func55, Try.ntmps55
  try go_wp2_with (first | ((with_reducible refine gate_dst (N := 2) rfl ?_); refine box_event ?hg (N := 2) ?hd (cs := #[.int .i64 a0_0, .slice A0_1 l0_1.length c0_1]) (t := 40) ?hr ?_; (case hd => rfl); (case hg => rfl); (case hr => first | (go_simp; done) | (go_simp; rfl)); intro gb201 hg w5 hbox hb; have n0_ := Gv.a0 (below_step Gv.bw hb); have n1_ := Gv.a0 (hbox); have n2_ := Gv.a0 ((Gv.ble hg Gv.bw : w.heap.size ≤ gb201)); have n3_ := Gv.a0 ((Gv.ble hg Gv.bw : w.heap.size ≤ gb201)); clear HB; have HB := n0_; have BK201 := n1_; have GW201 := n2_; have GE201 := n3_; clear n0_ n1_ n2_ n3_; clear hb hbox hg) | ((with_reducible refine gate_dst (N := 3) rfl ?_); refine box_event ?hg (N := 3) ?hd (cs := #[.int .i64 a1_0, .int .i64 a1_1, .int .i64 a1_2, .int .i64 a1_3, .int .i64 a1_4, .int .i64 a1_5, .int .i64 a1_6, .int .i64 a1_7, .int .i64 a1_8, .int .i64 a1_9, .int .i64 a1_10, .int .i64 a1_11, .int .i64 a1_12, .int .i64 a1_13]) (t := 33) ?hr ?_; (case hd => rfl); (case hg => rfl); (case hr => first | (go_simp; done) | (go_simp; rfl)); intro gb202 hg w6 hbox hb; have n0_ := Gv.a0 (Gv.bb BK201.out hb); have n1_ := Gv.a0 (below_step Gv.bw hb); have n2_ := Gv.a0 (hbox); have n3_ := Gv.a0 ((Gv.ble hg Gv.bw : w.heap.size ≤ gb202)); have n4_ := Gv.a0 ((Gv.ble hg Gv.bw : w.heap.size ≤ gb202)); have n5_ := Gv.a0 ((Gv.nlt hg (Gv.kb BK201.out) : gb201 ≠ gb202)); have n6_ := Gv.a0 ((Gv.ngt hg (Gv.kb BK201.out) : gb202 ≠ gb201)); clear BK201; clear HB; have BK201 := n0_; have HB := n1_; have BK202 := n2_; have GW202 := n3_; have GE202 := n4_; have NB201_202 := n5_; have NB202_201 := n6_; clear n0_ n1_ n2_ n3_ n4_ n5_ n6_; clear hb hbox hg))
  have n0_ := Gv.a0 (blk_drew BK201.out)
  have n1_ := Gv.a0 (blk_drew BK202.out)
  have n2_ := Gv.a0 (below_drew1 HB.out)
  clear BK201
  clear BK202
  clear HB
  have BK201 := n0_
  have BK202 := n1_
  have HB := n2_
  clear n0_ n1_ n2_
  refine start_ (n := 9) (S := fun w' => w'.cell? ⟨gb201, 0, none⟩ = some (.int .i64 a0_0) ∧ w'.cell? ⟨gb201, 1, none⟩ = some (.slice A0_1 l0_1.length c0_1) ∧ w'.cell? ⟨gb202, 0, none⟩ = some (.int .i64 a1_0) ∧ w'.cell? ⟨gb202, 1, none⟩ = some (.int .i64 a1_1) ∧ w'.cell? ⟨gb202, 2, none⟩ = some (.int .i64 a1_2) ∧ w'.cell? ⟨gb202, 3, none⟩ = some (.int .i64 a1_3) ∧ w'.cell? ⟨gb202, 4, none⟩ = some (.int .i64 a1_4) ∧ w'.cell? ⟨gb202, 5, none⟩ = some (.int .i64 a1_5) ∧ w'.cell? ⟨gb202, 6, none⟩ = some (.int .i64 a1_6) ∧ w'.cell? ⟨gb202, 7, none⟩ = some (.int .i64 a1_7) ∧ w'.cell? ⟨gb202, 8, none⟩ = some (.int .i64 a1_8) ∧ w'.cell? ⟨gb202, 9, none⟩ = some (.int .i64 a1_9) ∧ w'.cell? ⟨gb202, 10, none⟩ = some (.int .i64 a1_10) ∧ w'.cell? ⟨gb202, 11, none⟩ = some (.int .i64 a1_11) ∧ w'.cell? ⟨gb202, 12, none⟩ = some (.int .i64 a1_12) ∧ w'.cell? ⟨gb202, 13, none⟩ = some (.int .i64 a1_13)) (ds := []) #[false, false, false, false, false, false, false, false, false] (by kernel_rfl) rfl rfl ⟨(blk_cell BK201.out 0).trans rfl, (blk_cell BK201.out 1).trans rfl, (blk_cell BK202.out 0).trans rfl, (blk_cell BK202.out 1).trans rfl, (blk_cell BK202.out 2).trans rfl, (blk_cell BK202.out 3).trans rfl, (blk_cell BK202.out 4).trans rfl, (blk_cell BK202.out 5).trans rfl, (blk_cell BK202.out 6).trans rfl, (blk_cell BK202.out 7).trans rfl, (blk_cell BK202.out 8).trans rfl, (blk_cell BK202.out 9).trans rfl, (blk_cell BK202.out 10).trans rfl, (blk_cell BK202.out 11).trans rfl, (blk_cell BK202.out 12).trans rfl, (blk_cell BK202.out 13).trans rfl⟩ (fun hHeld => ?_); refine with_tabW spec_l11Home.tab1 spec_l11Home.bits1 (fun HT_ HW_ => ?_)
  generalize w6.drew = w7 at BK201 BK202 HB hHeld ⊢
  refine Gv.pu 0 (some 5) HT_ ?_
  refine Gv.pu 4 (some 9) HT_ ?_
  refine take_ (i := 1) (N := some 6) (v := ?_) (a' := ?_) #[true, true, false, false, true, false, false, false, false] rfl rfl (take_ofW HT_.out HW_.out (by kernel_rfl)) (fun _ _ _ h => h) (Or.inl ⟨by rfl, ?_⟩) hHeld ?_ ?_
  rotate_left
  ·rintro w' ⟨s0, s1, s2, s3, s4, s5, s6, s7, s8, s9, s10, s11, s12, s13, s14, s15⟩
   first | ((refine Gv.load_run (t := 33) (A := ⟨gb202, 0, none⟩) (cs := [_, _, _, _, _, _, _, _, _, _, _, _, _, _]) (x := ?xx9_) ?ho9_ ?hx9_ ⟨s2, s3, s4, s5, s6, s7, s8, s9, s10, s11, s12, s13, s14, s15, trivial⟩ Try.underlying33 rfl (by kernel_rfl)); (case ho9_ => rfl); (case hx9_ => rfl)) | (go_simp; with_reducible rfl)
  rotate_left
  ·simp only [Act.put, List.setIfInBounds_toArray, List.set_cons_zero, List.set_cons_succ, i64_w, i32_w]
   rfl
  refine take_ (i := 2) (N := some 7) (v := ?_) (a' := ?_) #[true, true, true, false, true, false, false, false, false] rfl rfl (take_ofW HT_.out HW_.out (by kernel_rfl)) (fun _ _ _ h => h) (Or.inl ⟨by rfl, ?_⟩) hHeld ?_ ?_
  rotate_left
  ·rintro w' ⟨s0, s1, s2, s3, s4, s5, s6, s7, s8, s9, s10, s11, s12, s13, s14, s15⟩
   first | ((refine Gv.load_run (t := 33) (A := ⟨gb202, 0, none⟩) (cs := [_, _, _, _, _, _, _, _, _, _, _, _, _, _]) (x := ?xx11_) ?ho11_ ?hx11_ ⟨s2, s3, s4, s5, s6, s7, s8, s9, s10, s11, s12, s13, s14, s15, trivial⟩ Try.underlying33 rfl (by kernel_rfl)); (case ho11_ => rfl); (case hx11_ => rfl)) | (go_simp; with_reducible rfl)
  rotate_left
  ·simp only [Act.put, List.setIfInBounds_toArray, List.set_cons_zero, List.set_cons_succ, i64_w, i32_w]
   rfl
  refine take_ (i := 5) (N := some 10) (v := ?_) (a' := ?_) #[true, true, true, false, true, true, false, false, false] rfl rfl (take_ofW HT_.out HW_.out (by kernel_rfl)) (fun _ _ _ h => h) (Or.inl ⟨by rfl, ?_⟩) hHeld ?_ ?_
  rotate_left
  ·rintro w' ⟨s0, s1, s2, s3, s4, s5, s6, s7, s8, s9, s10, s11, s12, s13, s14, s15⟩
   first | ((refine Gv.load_run (t := 33) (A := ⟨gb202, 0, none⟩) (cs := [_, _, _, _, _, _, _, _, _, _, _, _, _, _]) (x := ?xx13_) ?ho13_ ?hx13_ ⟨s2, s3, s4, s5, s6, s7, s8, s9, s10, s11, s12, s13, s14, s15, trivial⟩ Try.underlying33 rfl (by kernel_rfl)); (case ho13_ => rfl); (case hx13_ => rfl)) | (go_simp; with_reducible rfl)
  rotate_left
  ·simp only [Act.put, List.setIfInBounds_toArray, List.set_cons_zero, List.set_cons_succ, i64_w, i32_w]
   rfl
  refine Gv.pu 6 (some 11) HT_ ?_
  refine one_ (i := 3) (N := some 8) #[true, true, true, true, true, true, true, false, false] rfl rfl (one_of HT_.out (by kernel_rfl)) (by decide) (fun K hK => ?_)
  refine goes_ Try.func16 (by kernel_rfl) rfl #[.int .i64 a0_0, .agg #[.int .i64 a1_0, .int .i64 a1_1, .int .i64 a1_2, .int .i64 a1_3, .int .i64 a1_4, .int .i64 a1_5, .int .i64 a1_6, .int .i64 a1_7, .int .i64 a1_8, .int .i64 a1_9, .int .i64 a1_10, .int .i64 a1_11, .int .i64 a1_12, .int .i64 a1_13]] (by rfl) rfl rfl Gv.lm ?_
  with_reducible refine (spec_HashOf.calls k a0_0 a1_0 a1_1 a1_2 a1_3 a1_4 a1_5 a1_6 a1_7 a1_8 a1_9 a1_10 a1_11 a1_12 a1_13 t203 _ A3.out).mono ?_
  rintro e w8 ⟨rfl, hb⟩
  refine ⟨_, rfl, ?_⟩
  have n0_ := Gv.a0 (Gv.bb BK201.out hb)
  have n1_ := Gv.a0 (Gv.bb BK202.out hb)
  have n2_ := Gv.a0 (below_step Gv.bw hb)
  clear BK201
  clear BK202
  clear HB
  have BK201 := n0_
  have BK202 := n1_
  have HB := n2_
  clear n0_ n1_ n2_
  (try clear hb)
  (try clear hb2)
  (try clear hk)
  (try clear hi)
  refine hK.out _ _ ⟨(blk_cell BK201.out 0).trans rfl, (blk_cell BK201.out 1).trans rfl, (blk_cell BK202.out 0).trans rfl, (blk_cell BK202.out 1).trans rfl, (blk_cell BK202.out 2).trans rfl, (blk_cell BK202.out 3).trans rfl, (blk_cell BK202.out 4).trans rfl, (blk_cell BK202.out 5).trans rfl, (blk_cell BK202.out 6).trans rfl, (blk_cell BK202.out 7).trans rfl, (blk_cell BK202.out 8).trans rfl, (blk_cell BK202.out 9).trans rfl, (blk_cell BK202.out 10).trans rfl, (blk_cell BK202.out 11).trans rfl, (blk_cell BK202.out 12).trans rfl, (blk_cell BK202.out 13).trans rfl⟩ (fun hHeld => ?_)
  clear hK K
  refine norm_ (a' := ?_) ?_ ?_
  rotate_left
  ·show Act.put _ (some 8) _ = _
   simp only [Act.put, List.setIfInBounds_toArray, List.set_cons_zero, List.set_cons_succ, i64_w, i32_w]
   rfl
  refine Gv.pu 7 (some 12) HT_ ?_
  refine Gv.pu 8 (some 4) HT_ ?_
  refine done_ (done_of HT_.out (by kernel_rfl)) ?_
  try go_wp2
  go_ret
  exact ⟨Gv.rt, Gv.bw⟩

/-! ### spec_TableOk: function 24 -/
mutual
def spec_TableOk.j0 : Nat → Int → Bool → Int → List (S75) → Option (Bool)
 | 0, _, _, _, _ => none
 | k + 1, x3, x37, x205000, x205001 => if x37 = true then (some false) else ((spec_l11Count.f k x205000 x205001).bind fun t205 => (if (wrap64 (4 * t205)) > (wrap64 (3 * x3)) then (some false) else (spec_TableOk.l0 k x3 0 x205000 x205001)))
def spec_TableOk.l0 : Nat → Int → Int → Int → List (S75) → Option (Bool)
 | 0, _, _, _, _ => none
 | k + 1, x3, x4, x205000, x205001 => if x4 < x3 then (if 0 ≤ x4 then (if x4 < (x205001.length : Int) then (if ((rd_T75 x205001 x4).f0 = true) then ((spec_FlowKeyOk.f ((rd_T75 x205001 x4).f1.f0) ((rd_T75 x205001 x4).f1.f1.f0.f0) ((rd_T75 x205001 x4).f1.f1.f0.f1) ((rd_T75 x205001 x4).f1.f1.f0.f2) ((rd_T75 x205001 x4).f1.f1.f0.f3) ((rd_T75 x205001 x4).f1.f1.f0.f4) ((rd_T75 x205001 x4).f1.f1.f1.f0) ((rd_T75 x205001 x4).f1.f1.f1.f1) ((rd_T75 x205001 x4).f1.f1.f1.f2) ((rd_T75 x205001 x4).f1.f1.f1.f3) ((rd_T75 x205001 x4).f1.f1.f1.f4) ((rd_T75 x205001 x4).f1.f1.f2) ((rd_T75 x205001 x4).f1.f1.f3) ((rd_T75 x205001 x4).f1.f1.f4)).bind fun t208 => (if t208 = true then (if ((rd_T75 x205001 x4).f2) < 0 then (spec_TableOk.j2 k x3 x4 true x205000 x205001 ((rd_T75 x205001 x4).f0) ((rd_T75 x205001 x4).f1.f0) ((rd_T75 x205001 x4).f1.f1.f0.f0) ((rd_T75 x205001 x4).f1.f1.f0.f1) ((rd_T75 x205001 x4).f1.f1.f0.f2) ((rd_T75 x205001 x4).f1.f1.f0.f3) ((rd_T75 x205001 x4).f1.f1.f0.f4) ((rd_T75 x205001 x4).f1.f1.f1.f0) ((rd_T75 x205001 x4).f1.f1.f1.f1) ((rd_T75 x205001 x4).f1.f1.f1.f2) ((rd_T75 x205001 x4).f1.f1.f1.f3) ((rd_T75 x205001 x4).f1.f1.f1.f4) ((rd_T75 x205001 x4).f1.f1.f2) ((rd_T75 x205001 x4).f1.f1.f3) ((rd_T75 x205001 x4).f1.f1.f4) ((rd_T75 x205001 x4).f2)) else (if ((rd_T75 x205001 x4).f2) > 1000000000000 then (spec_TableOk.j2 k x3 x4 true x205000 x205001 ((rd_T75 x205001 x4).f0) ((rd_T75 x205001 x4).f1.f0) ((rd_T75 x205001 x4).f1.f1.f0.f0) ((rd_T75 x205001 x4).f1.f1.f0.f1) ((rd_T75 x205001 x4).f1.f1.f0.f2) ((rd_T75 x205001 x4).f1.f1.f0.f3) ((rd_T75 x205001 x4).f1.f1.f0.f4) ((rd_T75 x205001 x4).f1.f1.f1.f0) ((rd_T75 x205001 x4).f1.f1.f1.f1) ((rd_T75 x205001 x4).f1.f1.f1.f2) ((rd_T75 x205001 x4).f1.f1.f1.f3) ((rd_T75 x205001 x4).f1.f1.f1.f4) ((rd_T75 x205001 x4).f1.f1.f2) ((rd_T75 x205001 x4).f1.f1.f3) ((rd_T75 x205001 x4).f1.f1.f4) ((rd_T75 x205001 x4).f2)) else ((spec_l11Place.f k x205000 x205001 ((rd_T75 x205001 x4).f1.f0) ((rd_T75 x205001 x4).f1.f1.f0.f0) ((rd_T75 x205001 x4).f1.f1.f0.f1) ((rd_T75 x205001 x4).f1.f1.f0.f2) ((rd_T75 x205001 x4).f1.f1.f0.f3) ((rd_T75 x205001 x4).f1.f1.f0.f4) ((rd_T75 x205001 x4).f1.f1.f1.f0) ((rd_T75 x205001 x4).f1.f1.f1.f1) ((rd_T75 x205001 x4).f1.f1.f1.f2) ((rd_T75 x205001 x4).f1.f1.f1.f3) ((rd_T75 x205001 x4).f1.f1.f1.f4) ((rd_T75 x205001 x4).f1.f1.f2) ((rd_T75 x205001 x4).f1.f1.f3) ((rd_T75 x205001 x4).f1.f1.f4)).bind fun t209 => (spec_TableOk.j2 k x3 x4 (t209 != x4) x205000 x205001 ((rd_T75 x205001 x4).f0) ((rd_T75 x205001 x4).f1.f0) ((rd_T75 x205001 x4).f1.f1.f0.f0) ((rd_T75 x205001 x4).f1.f1.f0.f1) ((rd_T75 x205001 x4).f1.f1.f0.f2) ((rd_T75 x205001 x4).f1.f1.f0.f3) ((rd_T75 x205001 x4).f1.f1.f0.f4) ((rd_T75 x205001 x4).f1.f1.f1.f0) ((rd_T75 x205001 x4).f1.f1.f1.f1) ((rd_T75 x205001 x4).f1.f1.f1.f2) ((rd_T75 x205001 x4).f1.f1.f1.f3) ((rd_T75 x205001 x4).f1.f1.f1.f4) ((rd_T75 x205001 x4).f1.f1.f2) ((rd_T75 x205001 x4).f1.f1.f3) ((rd_T75 x205001 x4).f1.f1.f4) ((rd_T75 x205001 x4).f2))))) else (spec_TableOk.j2 k x3 x4 true x205000 x205001 ((rd_T75 x205001 x4).f0) ((rd_T75 x205001 x4).f1.f0) ((rd_T75 x205001 x4).f1.f1.f0.f0) ((rd_T75 x205001 x4).f1.f1.f0.f1) ((rd_T75 x205001 x4).f1.f1.f0.f2) ((rd_T75 x205001 x4).f1.f1.f0.f3) ((rd_T75 x205001 x4).f1.f1.f0.f4) ((rd_T75 x205001 x4).f1.f1.f1.f0) ((rd_T75 x205001 x4).f1.f1.f1.f1) ((rd_T75 x205001 x4).f1.f1.f1.f2) ((rd_T75 x205001 x4).f1.f1.f1.f3) ((rd_T75 x205001 x4).f1.f1.f1.f4) ((rd_T75 x205001 x4).f1.f1.f2) ((rd_T75 x205001 x4).f1.f1.f3) ((rd_T75 x205001 x4).f1.f1.f4) ((rd_T75 x205001 x4).f2)))) else (if (((rd_T75 x205001 x4).f0) || ((!(((rd_T75 x205001 x4).f1.f0) == 0) || (((!(((rd_T75 x205001 x4).f1.f1.f0.f0) == 0) || (!(((rd_T75 x205001 x4).f1.f1.f0.f1) == 0) || (!(((rd_T75 x205001 x4).f1.f1.f0.f2) == 0) || (!(((rd_T75 x205001 x4).f1.f1.f0.f3) == 0) || (!(((rd_T75 x205001 x4).f1.f1.f0.f4) == 0)))))) || ((!(((rd_T75 x205001 x4).f1.f1.f1.f0) == 0) || (!(((rd_T75 x205001 x4).f1.f1.f1.f1) == 0) || (!(((rd_T75 x205001 x4).f1.f1.f1.f2) == 0) || (!(((rd_T75 x205001 x4).f1.f1.f1.f3) == 0) || (!(((rd_T75 x205001 x4).f1.f1.f1.f4) == 0)))))) || (!(((rd_T75 x205001 x4).f1.f1.f2) == 0) || (!(((rd_T75 x205001 x4).f1.f1.f3) == 0) || (!(((rd_T75 x205001 x4).f1.f1.f4) == 0)))))))) || (!(((rd_T75 x205001 x4).f2) == 0)))) = true then (some false) else (spec_TableOk.l0 k x3 (wrap64 (x4 + 1)) x205000 x205001))) else (none)) else (none)) else (some true)
def spec_TableOk.j2 : Nat → Int → Int → Bool → Int → List (S75) → Bool → Int → Int → Int → Int → Int → Int → Int → Int → Int → Int → Int → Int → Int → Int → Int → Option (Bool)
 | 0, _, _, _, _, _, _, _, _, _, _, _, _, _, _, _, _, _, _, _, _, _ => none
 | k + 1, x3, x4, x81, x205000, x205001, x208000, x208001, x208002, x208003, x208004, x208005, x208006, x208007, x208008, x208009, x208010, x208011, x208012, x208013, x208014, x208015 => if x81 = true then (some false) else ((spec_l11Home.f k x205000 x205001 x208001 x208002 x208003 x208004 x208005 x208006 x208007 x208008 x208009 x208010 x208011 x208012 x208013 x208014).bind fun t210 => (spec_TableOk.l1 k x3 x4 t210 x205000 x205001))
def spec_TableOk.l1 : Nat → Int → Int → Int → Int → List (S75) → Option (Bool)
 | 0, _, _, _, _, _ => none
 | k + 1, x3, x4, x6, x205000, x205001 => if x6 = x4 then (spec_TableOk.l0 k x3 (wrap64 (x4 + 1)) x205000 x205001) else (if 0 ≤ x6 then (if x6 < (x205001.length : Int) then (if ((rd_T75 x205001 x6).f0 = true) then (if x3 = 0 then (none) else (spec_TableOk.l1 k x3 x4 (Int.tmod (wrap64 (x6 + 1)) x3) x205000 x205001)) else (some false)) else (none)) else (none))
end
def spec_TableOk.f (k : Nat) (a0_0 : Int) (l0_1 : List (S75)) : Option (Bool) := if a0_0 < 0 then (spec_TableOk.j0 k (l0_1.length : Int) true a0_0 l0_1) else (if a0_0 > 4294967295 then (spec_TableOk.j0 k (l0_1.length : Int) true a0_0 l0_1) else (if (l0_1.length : Int) = 4 then (spec_TableOk.j0 k (l0_1.length : Int) false a0_0 l0_1) else (if (l0_1.length : Int) = 8 then (spec_TableOk.j0 k (l0_1.length : Int) false a0_0 l0_1) else (if (l0_1.length : Int) = 16 then (spec_TableOk.j0 k (l0_1.length : Int) false a0_0 l0_1) else (if (l0_1.length : Int) = 32 then (spec_TableOk.j0 k (l0_1.length : Int) false a0_0 l0_1) else (spec_TableOk.j0 k (l0_1.length : Int) ((l0_1.length : Int) != 64) a0_0 l0_1))))))
theorem spec_TableOk.mono_l : ∀ k, (∀ y0 y1 y2 y3, LeO (spec_TableOk.j0 k y0 y1 y2 y3) (spec_TableOk.j0 (k + 1) y0 y1 y2 y3)) ∧ (∀ y0 y1 y2 y3, LeO (spec_TableOk.l0 k y0 y1 y2 y3) (spec_TableOk.l0 (k + 1) y0 y1 y2 y3)) ∧ (∀ y0 y1 y2 y3 y4 y5 y6 y7 y8 y9 y10 y11 y12 y13 y14 y15 y16 y17 y18 y19 y20, LeO (spec_TableOk.j2 k y0 y1 y2 y3 y4 y5 y6 y7 y8 y9 y10 y11 y12 y13 y14 y15 y16 y17 y18 y19 y20) (spec_TableOk.j2 (k + 1) y0 y1 y2 y3 y4 y5 y6 y7 y8 y9 y10 y11 y12 y13 y14 y15 y16 y17 y18 y19 y20)) ∧ (∀ y0 y1 y2 y3 y4, LeO (spec_TableOk.l1 k y0 y1 y2 y3 y4) (spec_TableOk.l1 (k + 1) y0 y1 y2 y3 y4))
 | 0 => ⟨fun _ _ _ _ r h => by simp [spec_TableOk.j0] at h, fun _ _ _ _ r h => by simp [spec_TableOk.l0] at h, fun _ _ _ _ _ _ _ _ _ _ _ _ _ _ _ _ _ _ _ _ _ r h => by simp [spec_TableOk.j2] at h, fun _ _ _ _ _ r h => by simp [spec_TableOk.l1] at h⟩
 | k + 1 => by
  obtain ⟨ih0, ih1, ih2, ih3⟩ := spec_TableOk.mono_l k
  refine ⟨?_, ?_, ?_, ?_⟩
  ·intro y0 y1 y2 y3
   unfold spec_TableOk.j0
   repeat' first
   | (with_reducible exact ih0 _ _ _ _)
   | (with_reducible exact ih1 _ _ _ _)
   | (with_reducible exact ih2 _ _ _ _ _ _ _ _ _ _ _ _ _ _ _ _ _ _ _ _ _)
   | (with_reducible exact ih3 _ _ _ _ _)
   | (with_reducible exact spec_l11Count.mono _ _ _)
   | (with_reducible exact spec_l11Home.mono _ _ _ _ _ _ _ _ _ _ _ _ _ _ _ _ _)
   | (with_reducible exact spec_l11Place.mono _ _ _ _ _ _ _ _ _ _ _ _ _ _ _ _ _)
   | (with_reducible exact LeO.refl _)
   | (with_reducible exact LeO.none _)
   | (with_reducible refine LeO.ite ?_ ?_)
   | (with_reducible refine LeO.bind ?_ (fun _ => ?_))
   | exact ih0 _ _ _ _
   | exact ih1 _ _ _ _
   | exact ih2 _ _ _ _ _ _ _ _ _ _ _ _ _ _ _ _ _ _ _ _ _
   | exact ih3 _ _ _ _ _
   | exact spec_l11Count.mono _ _ _
   | exact spec_l11Home.mono _ _ _ _ _ _ _ _ _ _ _ _ _ _ _ _ _
   | exact spec_l11Place.mono _ _ _ _ _ _ _ _ _ _ _ _ _ _ _ _ _
   | exact LeO.none _
   | refine LeO.ite ?_ ?_
   | refine LeO.bind ?_ (fun _ => ?_)
  ·intro y0 y1 y2 y3
   unfold spec_TableOk.l0
   repeat' first
   | (with_reducible exact ih0 _ _ _ _)
   | (with_reducible exact ih1 _ _ _ _)
   | (with_reducible exact ih2 _ _ _ _ _ _ _ _ _ _ _ _ _ _ _ _ _ _ _ _ _)
   | (with_reducible exact ih3 _ _ _ _ _)
   | (with_reducible exact spec_l11Count.mono _ _ _)
   | (with_reducible exact spec_l11Home.mono _ _ _ _ _ _ _ _ _ _ _ _ _ _ _ _ _)
   | (with_reducible exact spec_l11Place.mono _ _ _ _ _ _ _ _ _ _ _ _ _ _ _ _ _)
   | (with_reducible exact LeO.refl _)
   | (with_reducible exact LeO.none _)
   | (with_reducible refine LeO.ite ?_ ?_)
   | (with_reducible refine LeO.bind ?_ (fun _ => ?_))
   | exact ih0 _ _ _ _
   | exact ih1 _ _ _ _
   | exact ih2 _ _ _ _ _ _ _ _ _ _ _ _ _ _ _ _ _ _ _ _ _
   | exact ih3 _ _ _ _ _
   | exact spec_l11Count.mono _ _ _
   | exact spec_l11Home.mono _ _ _ _ _ _ _ _ _ _ _ _ _ _ _ _ _
   | exact spec_l11Place.mono _ _ _ _ _ _ _ _ _ _ _ _ _ _ _ _ _
   | exact LeO.none _
   | refine LeO.ite ?_ ?_
   | refine LeO.bind ?_ (fun _ => ?_)
  ·intro y0 y1 y2 y3 y4 y5 y6 y7 y8 y9 y10 y11 y12 y13 y14 y15 y16 y17 y18 y19 y20
   unfold spec_TableOk.j2
   repeat' first
   | (with_reducible exact ih0 _ _ _ _)
   | (with_reducible exact ih1 _ _ _ _)
   | (with_reducible exact ih2 _ _ _ _ _ _ _ _ _ _ _ _ _ _ _ _ _ _ _ _ _)
   | (with_reducible exact ih3 _ _ _ _ _)
   | (with_reducible exact spec_l11Count.mono _ _ _)
   | (with_reducible exact spec_l11Home.mono _ _ _ _ _ _ _ _ _ _ _ _ _ _ _ _ _)
   | (with_reducible exact spec_l11Place.mono _ _ _ _ _ _ _ _ _ _ _ _ _ _ _ _ _)
   | (with_reducible exact LeO.refl _)
   | (with_reducible exact LeO.none _)
   | (with_reducible refine LeO.ite ?_ ?_)
   | (with_reducible refine LeO.bind ?_ (fun _ => ?_))
   | exact ih0 _ _ _ _
   | exact ih1 _ _ _ _
   | exact ih2 _ _ _ _ _ _ _ _ _ _ _ _ _ _ _ _ _ _ _ _ _
   | exact ih3 _ _ _ _ _
   | exact spec_l11Count.mono _ _ _
   | exact spec_l11Home.mono _ _ _ _ _ _ _ _ _ _ _ _ _ _ _ _ _
   | exact spec_l11Place.mono _ _ _ _ _ _ _ _ _ _ _ _ _ _ _ _ _
   | exact LeO.none _
   | refine LeO.ite ?_ ?_
   | refine LeO.bind ?_ (fun _ => ?_)
  ·intro y0 y1 y2 y3 y4
   unfold spec_TableOk.l1
   repeat' first
   | (with_reducible exact ih0 _ _ _ _)
   | (with_reducible exact ih1 _ _ _ _)
   | (with_reducible exact ih2 _ _ _ _ _ _ _ _ _ _ _ _ _ _ _ _ _ _ _ _ _)
   | (with_reducible exact ih3 _ _ _ _ _)
   | (with_reducible exact spec_l11Count.mono _ _ _)
   | (with_reducible exact spec_l11Home.mono _ _ _ _ _ _ _ _ _ _ _ _ _ _ _ _ _)
   | (with_reducible exact spec_l11Place.mono _ _ _ _ _ _ _ _ _ _ _ _ _ _ _ _ _)
   | (with_reducible exact LeO.refl _)
   | (with_reducible exact LeO.none _)
   | (with_reducible refine LeO.ite ?_ ?_)
   | (with_reducible refine LeO.bind ?_ (fun _ => ?_))
   | exact ih0 _ _ _ _
   | exact ih1 _ _ _ _
   | exact ih2 _ _ _ _ _ _ _ _ _ _ _ _ _ _ _ _ _ _ _ _ _
   | exact ih3 _ _ _ _ _
   | exact spec_l11Count.mono _ _ _
   | exact spec_l11Home.mono _ _ _ _ _ _ _ _ _ _ _ _ _ _ _ _ _
   | exact spec_l11Place.mono _ _ _ _ _ _ _ _ _ _ _ _ _ _ _ _ _
   | exact LeO.none _
   | refine LeO.ite ?_ ?_
   | refine LeO.bind ?_ (fun _ => ?_)
theorem spec_TableOk.mono : ∀ a0 a1 k, LeO (spec_TableOk.f k a0 a1) (spec_TableOk.f (k + 1) a0 a1) := by
 intro a0 a1 k
 obtain ⟨ih0, ih1, ih2, ih3⟩ := spec_TableOk.mono_l k
 unfold spec_TableOk.f
 repeat' first
   | (with_reducible exact ih0 _ _ _ _)
   | (with_reducible exact ih1 _ _ _ _)
   | (with_reducible exact ih2 _ _ _ _ _ _ _ _ _ _ _ _ _ _ _ _ _ _ _ _ _)
   | (with_reducible exact ih3 _ _ _ _ _)
   | (with_reducible exact spec_l11Count.mono _ _ _)
   | (with_reducible exact spec_l11Home.mono _ _ _ _ _ _ _ _ _ _ _ _ _ _ _ _ _)
   | (with_reducible exact spec_l11Place.mono _ _ _ _ _ _ _ _ _ _ _ _ _ _ _ _ _)
   | (with_reducible exact LeO.refl _)
   | (with_reducible exact LeO.none _)
   | (with_reducible refine LeO.ite ?_ ?_)
   | (with_reducible refine LeO.bind ?_ (fun _ => ?_))
   | exact ih0 _ _ _ _
   | exact ih1 _ _ _ _
   | exact ih2 _ _ _ _ _ _ _ _ _ _ _ _ _ _ _ _ _ _ _ _ _
   | exact ih3 _ _ _ _ _
   | exact spec_l11Count.mono _ _ _
   | exact spec_l11Home.mono _ _ _ _ _ _ _ _ _ _ _ _ _ _ _ _ _
   | exact spec_l11Place.mono _ _ _ _ _ _ _ _ _ _ _ _ _ _ _ _ _
   | exact LeO.none _
   | refine LeO.ite ?_ ?_
   | refine LeO.bind ?_ (fun _ => ?_)
set_option maxHeartbeats 8000000 in
set_option maxRecDepth 100000 in
theorem spec_TableOk.calls (k : Nat) (a0_0 : Int) (A0_1 : Option Addr) (c0_1 : Nat) (l0_1 : List (S75)) (r : Bool) (w : World) (hr0_1 : Kd.C k75 w A0_1 l0_1.length l0_1) (hc0_1 : l0_1.length ≤ c0_1) (h : spec_TableOk.f k a0_0 l0_1 = some r) :
  Calls Try.prog 24 #[.agg #[.int .i64 a0_0, .slice A0_1 l0_1.length c0_1]] w fun e w' => e = .returned (.bool r) ∧ Below w.heap.size w w' := by
 have hu40 := Try.underlying40
 have hu75 := Try.underlying75
 have hu33 := Try.underlying33
 have HR0_1 := Gv.a0 hr0_1
 have HC0_1 := Gv.a0 hc0_1
 clear hr0_1 hc0_1
 have HB := Gv.a0 (Below.refl w.heap.size w)
 have H : (if a0_0 < 0 then (spec_TableOk.j0 k (l0_1.length : Int) true a0_0 l0_1) else (if a0_0 > 4294967295 then (spec_TableOk.j0 k (l0_1.length : Int) true a0_0 l0_1) else (if (l0_1.length : Int) = 4 then (spec_TableOk.j0 k (l0_1.length : Int) false a0_0 l0_1) else (if (l0_1.length : Int) = 8 then (spec_TableOk.j0 k (l0_1.length : Int) false a0_0 l0_1) else (if (l0_1.length : Int) = 16 then (spec_TableOk.j0 k (l0_1.length : Int) false a0_0 l0_1) else (if (l0_1.length : Int) = 32 then (spec_TableOk.j0 k (l0_1.length : Int) false a0_0 l0_1) else (spec_TableOk.j0 k (l0_1.length : Int) ((l0_1.length : Int) != 64) a0_0 l0_1))))))) = some r := h
 clear h
 have HC2 := Gv.a0 H
 clear H
 go_enter Try.func24, Try.ntmps24
 go_upto_region 2 with (first | ((with_reducible refine gate_dst (N := 1) rfl ?_); refine box_event ?hg (N := 1) ?hd (cs := #[.int .i64 a0_0, .slice A0_1 l0_1.length c0_1]) (t := 40) ?hr ?_; (case hd => rfl); (case hg => rfl); (case hr => first | (go_simp; done) | (go_simp; rfl)); intro gb204 hg w3 hbox hb; have n0_ := Gv.a0 (below_step Gv.bw hb); have n1_ := Gv.a0 (hbox); have n2_ := Gv.a0 ((Gv.ble hg Gv.bw : w.heap.size ≤ gb204)); have n3_ := Gv.a0 ((Gv.ble hg Gv.bw : w.heap.size ≤ gb204)); clear HB; have HB := n0_; have BK204 := n1_; have GW204 := n2_; have GE204 := n3_; clear n0_ n1_ n2_ n3_; clear hb hbox hg; have hcz4_0 : w3.cell? ⟨gb204, 0, none⟩ = some (.int .i64 a0_0) := (blk_cell BK204.out 0).trans rfl; have hcz4_1 : w3.cell? ⟨gb204, 1, none⟩ = some (.slice A0_1 l0_1.length c0_1) := (blk_cell BK204.out 1).trans rfl; have hfz4_0 := blk_frozen BK204.out 0; have hfz4_1 := blk_frozen BK204.out 1) | ((with_reducible refine gate_store (t := 40) (p := 1) rfl ?_); refine Gv.store_event rfl rfl rfl rfl rfl (Gv.kb BK204.out) (by kernel_rfl) rfl (by simp; and_intros <;> rfl) ?_; intro w3s hbox hoth hbel; have n0_ := Gv.a0 (hbox); have n1_ := Gv.a0 (hbel w Gv.bw GE204.out); clear BK204 HB; have BK204 := n0_; have HB := n1_; clear n0_ n1_ hbox hoth hbel; (try clear hcz4_0 hcz4_1 hfz4_0 hfz4_1); have hcz4_0 : w3s.cell? ⟨gb204, 0, none⟩ = some (.int .i64 a0_0) := (blk_cell BK204.out 0).trans rfl; have hcz4_1 : w3s.cell? ⟨gb204, 1, none⟩ = some (.slice A0_1 l0_1.length c0_1) := (blk_cell BK204.out 1).trans rfl; have hfz4_0 := blk_frozen BK204.out 0; have hfz4_1 := blk_frozen BK204.out 1) | ((with_reducible refine Gv.gate_load (t := 75) rfl ?_); (try (refine gate_guard (by rfl) ?_; dsimp only)); refine wpList_load_row rfl 75 _ rfl gb207 rfl 75 _ _ _ (by first | exact Gv.kb0 BK207.out | exact Gv.kb1 (Gv.kb0 BK207.out)) Try.underlying75 rfl (by kernel_rfl) ?_))
 (try simp only [Act.put, List.setIfInBounds_toArray, List.set_cons_zero, List.set_cons_succ])
 go_cut [37] (fun v37 wc => ∃ (kq : Nat) (x37_1 : Bool), v37 = .bool x37_1 ∧ Aside0 (spec_TableOk.j0 kq (l0_1.length : Int) x37_1 a0_0 l0_1 = some r) ∧ Aside0 (kq ≤ k) ∧ Aside0 (wc.heap[gb204]? = some (.cells #[.int .i64 a0_0, (.slice A0_1 l0_1.length c0_1)] 40 (0, 0))) ∧ Aside0 (Below w.heap.size w wc))
 case first =>
  have H := HC2.out
  clear HC2
  by_cases c5 : a0_0 < 0
  ·rw [if_pos c5] at H
   have c5b0 : decide (a0_0 < 0) = true := decide_eq_true c5
   clear c5
   (first | rw [c5b0] | (simp only [i64_w, i32_w]; rw [c5b0]) | skip)
   have H' := Gv.a0 H
   clear H
   have hcz6_0 : w3.cell? ⟨gb204, 0, none⟩ = some (.int .i64 a0_0) := (blk_cell BK204.out 0).trans rfl
   have hcz6_1 : w3.cell? ⟨gb204, 1, none⟩ = some (.slice A0_1 l0_1.length c0_1) := (blk_cell BK204.out 1).trans rfl
   have hfz6_0 := blk_frozen BK204.out 0
   have hfz6_1 := blk_frozen BK204.out 1
   go_wp2_with (first | ((with_reducible refine Gv.gate_load (t := 75) rfl ?_); (try (refine gate_guard (by rfl) ?_; dsimp only)); refine wpList_load_row rfl 75 _ rfl gb207 rfl 75 _ _ _ (by first | exact Gv.kb0 BK207.out | exact Gv.kb1 (Gv.kb0 BK207.out)) Try.underlying75 rfl (by kernel_rfl) ?_))
   go_meet
   case rel => exact ⟨_, (true), Gv.rq, H', ⟨by first | omega | exact Nat.le_refl _⟩, ⟨by (with_reducible repeat (first | refine blk_drewN ?_ _ | refine blk_drew ?_ | refine blk_alloc ?_ _)); exact BK204.out⟩, ⟨Gv.bw⟩⟩
  ·rw [if_neg c5] at H
   have c5b0 : decide (a0_0 < 0) = false := decide_eq_false c5
   clear c5
   (first | rw [c5b0] | (simp only [i64_w, i32_w]; rw [c5b0]) | skip)
   by_cases c7 : a0_0 > 4294967295
   ·rw [if_pos c7] at H
    have c7b0 : decide (4294967295 < a0_0) = true := decide_eq_true c7
    clear c7
    have H' := Gv.a0 H
    clear H
    have hcz8_0 : w3.cell? ⟨gb204, 0, none⟩ = some (.int .i64 a0_0) := (blk_cell BK204.out 0).trans rfl
    have hcz8_1 : w3.cell? ⟨gb204, 1, none⟩ = some (.slice A0_1 l0_1.length c0_1) := (blk_cell BK204.out 1).trans rfl
    have hfz8_0 := blk_frozen BK204.out 0
    have hfz8_1 := blk_frozen BK204.out 1
    go_wp2_with (first | ((with_reducible refine Gv.gate_load (t := 75) rfl ?_); (try (refine gate_guard (by rfl) ?_; dsimp only)); refine wpList_load_row rfl 75 _ rfl gb207 rfl 75 _ _ _ (by first | exact Gv.kb0 BK207.out | exact Gv.kb1 (Gv.kb0 BK207.out)) Try.underlying75 rfl (by kernel_rfl) ?_))
    go_meet
    case rel => exact ⟨_, (true), Gv.rq, H', ⟨by first | omega | exact Nat.le_refl _⟩, ⟨by (with_reducible repeat (first | refine blk_drewN ?_ _ | refine blk_drew ?_ | refine blk_alloc ?_ _)); exact BK204.out⟩, ⟨Gv.bw⟩⟩
   ·rw [if_neg c7] at H
    have c7b0 : decide (4294967295 < a0_0) = false := decide_eq_false c7
    clear c7
    by_cases c9 : (l0_1.length : Int) = 4
    ·rw [if_pos c9] at H
     have c9b0 : ((l0_1.length : Int) == 4) = true := beq_iff_eq.mpr c9
     have c9b1 : ((l0_1.length : Int) != 4) = false := bne_eq_false_iff_eq.mpr c9
     clear c9
     have H' := Gv.a0 H
     clear H
     have hcz10_0 : w3.cell? ⟨gb204, 0, none⟩ = some (.int .i64 a0_0) := (blk_cell BK204.out 0).trans rfl
     have hcz10_1 : w3.cell? ⟨gb204, 1, none⟩ = some (.slice A0_1 l0_1.length c0_1) := (blk_cell BK204.out 1).trans rfl
     have hfz10_0 := blk_frozen BK204.out 0
     have hfz10_1 := blk_frozen BK204.out 1
     go_wp2_with (first | ((with_reducible refine Gv.gate_load (t := 75) rfl ?_); (try (refine gate_guard (by rfl) ?_; dsimp only)); refine wpList_load_row rfl 75 _ rfl gb207 rfl 75 _ _ _ (by first | exact Gv.kb0 BK207.out | exact Gv.kb1 (Gv.kb0 BK207.out)) Try.underlying75 rfl (by kernel_rfl) ?_))
     go_meet
     case rel => exact ⟨_, (false), Gv.rq, H', ⟨by first | omega | exact Nat.le_refl _⟩, ⟨by (with_reducible repeat (first | refine blk_drewN ?_ _ | refine blk_drew ?_ | refine blk_alloc ?_ _)); exact BK204.out⟩, ⟨Gv.bw⟩⟩
    ·rw [if_neg c9] at H
     have c9b0 : ((l0_1.length : Int) == 4) = false := beq_eq_false_iff_ne.mpr c9
     have c9b1 : ((l0_1.length : Int) != 4) = true := bne_iff_ne.mpr c9
     by_cases c11 : (l0_1.length : Int) = 8
     ·rw [if_pos c11] at H
      have c11b0 : ((l0_1.length : Int) == 8) = true := beq_iff_eq.mpr c11
      have c11b1 : ((l0_1.length : Int) != 8) = false := bne_eq_false_iff_eq.mpr c11
      clear c11
      have H' := Gv.a0 H
      clear H
      have hcz12_0 : w3.cell? ⟨gb204, 0, none⟩ = some (.int .i64 a0_0) := (blk_cell BK204.out 0).trans rfl
      have hcz12_1 : w3.cell? ⟨gb204, 1, none⟩ = some (.slice A0_1 l0_1.length c0_1) := (blk_cell BK204.out 1).trans rfl
      have hfz12_0 := blk_frozen BK204.out 0
      have hfz12_1 := blk_frozen BK204.out 1
      go_wp2_with (first | ((with_reducible refine Gv.gate_load (t := 75) rfl ?_); (try (refine gate_guard (by rfl) ?_; dsimp only)); refine wpList_load_row rfl 75 _ rfl gb207 rfl 75 _ _ _ (by first | exact Gv.kb0 BK207.out | exact Gv.kb1 (Gv.kb0 BK207.out)) Try.underlying75 rfl (by kernel_rfl) ?_))
      go_meet
      case rel => exact ⟨_, (false), Gv.rq, H', ⟨by first | omega | exact Nat.le_refl _⟩, ⟨by (with_reducible repeat (first | refine blk_drewN ?_ _ | refine blk_drew ?_ | refine blk_alloc ?_ _)); exact BK204.out⟩, ⟨Gv.bw⟩⟩
     ·rw [if_neg c11] at H
      have c11b0 : ((l0_1.length : Int) == 8) = false := beq_eq_false_iff_ne.mpr c11
      have c11b1 : ((l0_1.length : Int) != 8) = true := bne_iff_ne.mpr c11
      by_cases c13 : (l0_1.length : Int) = 16
      ·rw [if_pos c13] at H
       have c13b0 : ((l0_1.length : Int) == 16) = true := beq_iff_eq.mpr c13
       have c13b1 : ((l0_1.length : Int) != 16) = false := bne_eq_false_iff_eq.mpr c13
       clear c13
       have H' := Gv.a0 H
       clear H
       have hcz14_0 : w3.cell? ⟨gb204, 0, none⟩ = some (.int .i64 a0_0) := (blk_cell BK204.out 0).trans rfl
       have hcz14_1 : w3.cell? ⟨gb204, 1, none⟩ = some (.slice A0_1 l0_1.length c0_1) := (blk_cell BK204.out 1).trans rfl
       have hfz14_0 := blk_frozen BK204.out 0
       have hfz14_1 := blk_frozen BK204.out 1
       go_wp2_with (first | ((with_reducible refine Gv.gate_load (t := 75) rfl ?_); (try (refine gate_guard (by rfl) ?_; dsimp only)); refine wpList_load_row rfl 75 _ rfl gb207 rfl 75 _ _ _ (by first | exact Gv.kb0 BK207.out | exact Gv.kb1 (Gv.kb0 BK207.out)) Try.underlying75 rfl (by kernel_rfl) ?_))
       go_meet
       case rel => exact ⟨_, (false), Gv.rq, H', ⟨by first | omega | exact Nat.le_refl _⟩, ⟨by (with_reducible repeat (first | refine blk_drewN ?_ _ | refine blk_drew ?_ | refine blk_alloc ?_ _)); exact BK204.out⟩, ⟨Gv.bw⟩⟩
      ·rw [if_neg c13] at H
       have c13b0 : ((l0_1.length : Int) == 16) = false := beq_eq_false_iff_ne.mpr c13
       have c13b1 : ((l0_1.length : Int) != 16) = true := bne_iff_ne.mpr c13
       by_cases c15 : (l0_1.length : Int) = 32
       ·rw [if_pos c15] at H
        have c15b0 : ((l0_1.length : Int) == 32) = true := beq_iff_eq.mpr c15
        have c15b1 : ((l0_1.length : Int) != 32) = false := bne_eq_false_iff_eq.mpr c15
        clear c15
        have H' := Gv.a0 H
        clear H
        have hcz16_0 : w3.cell? ⟨gb204, 0, none⟩ = some (.int .i64 a0_0) := (blk_cell BK204.out 0).trans rfl
        have hcz16_1 : w3.cell? ⟨gb204, 1, none⟩ = some (.slice A0_1 l0_1.length c0_1) := (blk_cell BK204.out 1).trans rfl
        have hfz16_0 := blk_frozen BK204.out 0
        have hfz16_1 := blk_frozen BK204.out 1
        go_wp2_with (first | ((with_reducible refine Gv.gate_load (t := 75) rfl ?_); (try (refine gate_guard (by rfl) ?_; dsimp only)); refine wpList_load_row rfl 75 _ rfl gb207 rfl 75 _ _ _ (by first | exact Gv.kb0 BK207.out | exact Gv.kb1 (Gv.kb0 BK207.out)) Try.underlying75 rfl (by kernel_rfl) ?_))
        go_meet
        case rel => exact ⟨_, (false), Gv.rq, H', ⟨by first | omega | exact Nat.le_refl _⟩, ⟨by (with_reducible repeat (first | refine blk_drewN ?_ _ | refine blk_drew ?_ | refine blk_alloc ?_ _)); exact BK204.out⟩, ⟨Gv.bw⟩⟩
       ·rw [if_neg c15] at H
        have c15b0 : ((l0_1.length : Int) == 32) = false := beq_eq_false_iff_ne.mpr c15
        have c15b1 : ((l0_1.length : Int) != 32) = true := bne_iff_ne.mpr c15
        have H' := Gv.a0 H
        clear H
        have hcz17_0 : w3.cell? ⟨gb204, 0, none⟩ = some (.int .i64 a0_0) := (blk_cell BK204.out 0).trans rfl
        have hcz17_1 : w3.cell? ⟨gb204, 1, none⟩ = some (.slice A0_1 l0_1.length c0_1) := (blk_cell BK204.out 1).trans rfl
        have hfz17_0 := blk_frozen BK204.out 0
        have hfz17_1 := blk_frozen BK204.out 1
        go_wp2_with (first | ((with_reducible refine Gv.gate_load (t := 75) rfl ?_); (try (refine gate_guard (by rfl) ?_; dsimp only)); refine wpList_load_row rfl 75 _ rfl gb207 rfl 75 _ _ _ (by first | exact Gv.kb0 BK207.out | exact Gv.kb1 (Gv.kb0 BK207.out)) Try.underlying75 rfl (by kernel_rfl) ?_))
        go_meet
        case rel => exact ⟨_, (((l0_1.length : Int) != 64)), Gv.rq, H', ⟨by first | omega | exact Nat.le_refl _⟩, ⟨by (with_reducible repeat (first | refine blk_drewN ?_ _ | refine blk_drew ?_ | refine blk_alloc ?_ _)); exact BK204.out⟩, ⟨Gv.bw⟩⟩
 case rest =>
  clear HC2
  try clear c1
  try clear c2
  try clear p2
  try clear c5
  try clear c5b0
  try clear c7
  try clear c7b0
  try clear c9
  try clear c9b0
  try clear c9b1
  try clear c11
  try clear c11b0
  try clear c11b1
  try clear c13
  try clear c13b0
  try clear c13b1
  try clear c15
  try clear c15b0
  try clear c15b1
  try clear hcz10_0 hcz10_1
  try clear hcz12_0 hcz12_1
  try clear hcz14_0 hcz14_1
  try clear hcz16_0 hcz16_1
  try clear hcz17_0 hcz17_1
  try clear hcz4_0 hcz4_1
  try clear hcz6_0 hcz6_1
  try clear hcz8_0 hcz8_1
  try clear hfz10_0 hfz10_1
  try clear hfz12_0 hfz12_1
  try clear hfz14_0 hfz14_1
  try clear hfz16_0 hfz16_1
  try clear hfz17_0 hfz17_1
  try clear hfz4_0 hfz4_1
  try clear hfz6_0 hfz6_1
  try clear hfz8_0 hfz8_1
  obtain ⟨kq, x37_1, rfl, HA, HJ1, BK204, HB⟩ := hcut
  cases kq with
  | zero => exact absurd HA.out (by simp [spec_TableOk.j0])
  | succ kj1 =>
   have H := HA.out
   clear HA
   simp only [spec_TableOk.j0] at H
   by_cases c18 : x37_1 = true
   ·subst c18
    have H1 : (some false) = some r := by rw [if_pos rfl] at H; exact H
    clear H
    have H := H1
    clear H1
    obtain rfl := Option.some.inj H
    go_wp2_with (first | ((with_reducible refine Gv.gate_load (t := 75) rfl ?_); (try (refine gate_guard (by rfl) ?_; dsimp only)); refine wpList_load_row rfl 75 _ rfl gb207 rfl 75 _ _ _ (by first | exact Gv.kb0 BK207.out | exact Gv.kb1 (Gv.kb0 BK207.out)) Try.underlying75 rfl (by kernel_rfl) ?_))
    go_ret
    exact ⟨Gv.rt, Gv.bw⟩
   ·replace c18 := Bool.eq_false_iff.mpr c18
    subst c18
    have H1 : ((spec_l11Count.f kj1 a0_0 l0_1).bind fun t205 => (if (wrap64 (4 * t205)) > (wrap64 (3 * (l0_1.length : Int))) then (some false) else (spec_TableOk.l0 kj1 (l0_1.length : Int) 0 a0_0 l0_1))) = some r := by rw [if_neg (show ¬ (false = true) by decide)] at H; exact H
    clear H
    have H := H1
    clear H1
    replace H := Option.bind_eq_some_iff.mp H
    obtain ⟨t205, A190, H⟩ := H
    replace H : (if (wrap64 (4 * t205)) > (wrap64 (3 * (l0_1.length : Int))) then (some false) else (spec_TableOk.l0 kj1 (l0_1.length : Int) 0 a0_0 l0_1)) = some r := H
    have A19 := Gv.a0 A190
    clear A190
    by_cases c20 : (wrap64 (4 * t205)) > (wrap64 (3 * (l0_1.length : Int)))
    ·rw [if_pos c20] at H
     have c20b0 : decide ((wrap64 (3 * (l0_1.length : Int))) < (wrap64 (4 * t205))) = true := decide_eq_true c20
     clear c20
     obtain rfl := Option.some.inj H
     have hcz21_0 : wc.cell? ⟨gb204, 0, none⟩ = some (.int .i64 a0_0) := (blk_cell BK204.out 0).trans rfl
     have hcz21_1 : wc.cell? ⟨gb204, 1, none⟩ = some (.slice A0_1 l0_1.length c0_1) := (blk_cell BK204.out 1).trans rfl
     have hfz21_0 := blk_frozen BK204.out 0
     have hfz21_1 := blk_frozen BK204.out 1
     go_wp2_with (first | ((with_reducible refine gate_callee (f := 53) rfl ?_); refine goesL_ (some 39) rfl rfl Try.func53 (by kernel_rfl) rfl #[.agg #[.int .i64 a0_0, .slice A0_1 l0_1.length c0_1]] rfl Gv.lm ?_; (with_reducible refine (spec_l11Count.calls kj1 a0_0 _ _ l0_1 t205 _ ?side1 ?side2 A19.out).mono ?_); (case side1 => repeat (first | exact (Kd.C_below HR0_1.out HB.out) | (with_reducible refine Kd.C_alloc ?_ _) | (with_reducible refine Kd.C_drewN ?_ _) | (with_reducible refine Kd.C_drew ?_))); (case side2 => exact HC0_1.out); rintro e w22 ⟨rfl, hb⟩; refine ⟨_, rfl, ?_⟩; have n0_ := Gv.a0 (Gv.bb BK204.out hb); have n1_ := Gv.a0 (below_step Gv.bw hb); clear BK204; clear HB; have BK204 := n0_; have HB := n1_; clear n0_ n1_; (try clear hb); (try clear hb2); (try clear hk); (try clear hi)) | ((with_reducible refine Gv.gate_load (t := 75) rfl ?_); (try (refine gate_guard (by rfl) ?_; dsimp only)); refine wpList_load_row rfl 75 _ rfl gb207 rfl 75 _ _ _ (by first | exact Gv.kb0 BK207.out | exact Gv.kb1 (Gv.kb0 BK207.out)) Try.underlying75 rfl (by kernel_rfl) ?_))
     go_ret
     exact ⟨Gv.rt, Gv.bw⟩
    ·rw [if_neg c20] at H
     have c20b0 : decide ((wrap64 (3 * (l0_1.length : Int))) < (wrap64 (4 * t205))) = false := decide_eq_false c20
     clear c20
     have H' := Gv.a0 H
     clear H
     have hcz23_0 : wc.cell? ⟨gb204, 0, none⟩ = some (.int .i64 a0_0) := (blk_cell BK204.out 0).trans rfl
     have hcz23_1 : wc.cell? ⟨gb204, 1, none⟩ = some (.slice A0_1 l0_1.length c0_1) := (blk_cell BK204.out 1).trans rfl
     have hfz23_0 := blk_frozen BK204.out 0
     have hfz23_1 := blk_frozen BK204.out 1
     go_wp2_with (first | ((with_reducible refine gate_callee (f := 53) rfl ?_); refine goesL_ (some 39) rfl rfl Try.func53 (by kernel_rfl) rfl #[.agg #[.int .i64 a0_0, .slice A0_1 l0_1.length c0_1]] rfl Gv.lm ?_; (with_reducible refine (spec_l11Count.calls kj1 a0_0 _ _ l0_1 t205 _ ?side1 ?side2 A19.out).mono ?_); (case side1 => repeat (first | exact (Kd.C_below HR0_1.out HB.out) | (with_reducible refine Kd.C_alloc ?_ _) | (with_reducible refine Kd.C_drewN ?_ _) | (with_reducible refine Kd.C_drew ?_))); (case side2 => exact HC0_1.out); rintro e w24 ⟨rfl, hb⟩; refine ⟨_, rfl, ?_⟩; have n0_ := Gv.a0 (Gv.bb BK204.out hb); have n1_ := Gv.a0 (below_step Gv.bw hb); clear BK204; clear HB; have BK204 := n0_; have HB := n1_; clear n0_ n1_; (try clear hb); (try clear hb2); (try clear hk); (try clear hi)) | ((with_reducible refine Gv.gate_load (t := 75) rfl ?_); (try (refine gate_guard (by rfl) ?_; dsimp only)); refine wpList_load_row rfl 75 _ rfl gb207 rfl 75 _ _ _ (by first | exact Gv.kb0 BK207.out | exact Gv.kb1 (Gv.kb0 BK207.out)) Try.underlying75 rfl (by kernel_rfl) ?_))
     go_loopg [4] kj1 (fun kq v4 w' => ∃ (x4_2 : Int), v4 = .int .i64 x4_2 ∧ Aside0 (spec_TableOk.l0 kq (l0_1.length : Int) x4_2 a0_0 l0_1 = some r) ∧ Aside0 (kq ≤ kj1) ∧ Aside0 (w'.heap[gb204]? = some (.cells #[.int .i64 a0_0, (.slice A0_1 l0_1.length c0_1)] 40 (0, 0))) ∧ Aside0 (Below w.heap.size w w'))
     case atStart => exact ⟨(0), Gv.rq, H', ⟨Nat.le_refl _⟩, ⟨by (with_reducible repeat (first | refine blk_drewN ?_ _ | refine blk_drew ?_ | refine blk_alloc ?_ _)); exact BK204.out⟩, ⟨Gv.bw⟩⟩
     case round =>
      clear H'
      try clear c1
      try clear c2
      try clear p2
      try clear c5
      try clear c5b0
      try clear p6
      try clear c7
      try clear c7b0
      try clear c9
      try clear c9b0
      try clear c9b1
      try clear c11
      try clear c11b0
      try clear c11b1
      try clear c13
      try clear c13b0
      try clear c13b1
      try clear c15
      try clear c15b0
      try clear c15b1
      try clear c18
      try clear c20
      try clear c20b0
      try clear c24
      try clear hcz10_0 hcz10_1
      try clear hcz12_0 hcz12_1
      try clear hcz14_0 hcz14_1
      try clear hcz16_0 hcz16_1
      try clear hcz17_0 hcz17_1
      try clear hcz21_0 hcz21_1
      try clear hcz23_0 hcz23_1
      try clear hcz4_0 hcz4_1
      try clear hcz6_0 hcz6_1
      try clear hcz8_0 hcz8_1
      try clear hfz10_0 hfz10_1
      try clear hfz12_0 hfz12_1
      try clear hfz14_0 hfz14_1
      try clear hfz16_0 hfz16_1
      try clear hfz17_0 hfz17_1
      try clear hfz21_0 hfz21_1
      try clear hfz23_0 hfz23_1
      try clear hfz4_0 hfz4_1
      try clear hfz6_0 hfz6_1
      try clear hfz8_0 hfz8_1
      try clear p2
      obtain ⟨x4_2, rfl, HA, HK2, BK204, HB⟩ := hrel
      cases gk with
      | zero => exact absurd HA.out (by simp [spec_TableOk.l0])
      | succ k2 =>
       have H := HA.out
       clear HA
       simp only [spec_TableOk.l0] at H
       by_cases c25 : x4_2 < (l0_1.length : Int)
       ·rw [if_pos c25] at H
        have c25b0 : decide (x4_2 < (l0_1.length : Int)) = true := decide_eq_true c25
        clear c25
        by_cases c26 : 0 ≤ x4_2
        ·rw [if_pos c26] at H
         have c26b0 : decide (0 ≤ x4_2) = true := decide_eq_true c26
         clear c26
         by_cases c27 : x4_2 < (l0_1.length : Int)
         ·rw [if_pos c27] at H
          have c27b0 : decide (x4_2 < (l0_1.length : Int)) = true := decide_eq_true c27
          clear c27
          obtain ⟨bq28, hbq28⟩ : ∃ b_ : Bool, b_ = ((rd_T75 l0_1 x4_2).f0) := ⟨_, rfl⟩
          replace H : (if (bq28 = true) then ((spec_FlowKeyOk.f ((rd_T75 l0_1 x4_2).f1.f0) ((rd_T75 l0_1 x4_2).f1.f1.f0.f0) ((rd_T75 l0_1 x4_2).f1.f1.f0.f1) ((rd_T75 l0_1 x4_2).f1.f1.f0.f2) ((rd_T75 l0_1 x4_2).f1.f1.f0.f3) ((rd_T75 l0_1 x4_2).f1.f1.f0.f4) ((rd_T75 l0_1 x4_2).f1.f1.f1.f0) ((rd_T75 l0_1 x4_2).f1.f1.f1.f1) ((rd_T75 l0_1 x4_2).f1.f1.f1.f2) ((rd_T75 l0_1 x4_2).f1.f1.f1.f3) ((rd_T75 l0_1 x4_2).f1.f1.f1.f4) ((rd_T75 l0_1 x4_2).f1.f1.f2) ((rd_T75 l0_1 x4_2).f1.f1.f3) ((rd_T75 l0_1 x4_2).f1.f1.f4)).bind fun t208 => (if t208 = true then (if ((rd_T75 l0_1 x4_2).f2) < 0 then (spec_TableOk.j2 k2 (l0_1.length : Int) x4_2 true a0_0 l0_1 bq28 ((rd_T75 l0_1 x4_2).f1.f0) ((rd_T75 l0_1 x4_2).f1.f1.f0.f0) ((rd_T75 l0_1 x4_2).f1.f1.f0.f1) ((rd_T75 l0_1 x4_2).f1.f1.f0.f2) ((rd_T75 l0_1 x4_2).f1.f1.f0.f3) ((rd_T75 l0_1 x4_2).f1.f1.f0.f4) ((rd_T75 l0_1 x4_2).f1.f1.f1.f0) ((rd_T75 l0_1 x4_2).f1.f1.f1.f1) ((rd_T75 l0_1 x4_2).f1.f1.f1.f2) ((rd_T75 l0_1 x4_2).f1.f1.f1.f3) ((rd_T75 l0_1 x4_2).f1.f1.f1.f4) ((rd_T75 l0_1 x4_2).f1.f1.f2) ((rd_T75 l0_1 x4_2).f1.f1.f3) ((rd_T75 l0_1 x4_2).f1.f1.f4) ((rd_T75 l0_1 x4_2).f2)) else (if ((rd_T75 l0_1 x4_2).f2) > 1000000000000 then (spec_TableOk.j2 k2 (l0_1.length : Int) x4_2 true a0_0 l0_1 bq28 ((rd_T75 l0_1 x4_2).f1.f0) ((rd_T75 l0_1 x4_2).f1.f1.f0.f0) ((rd_T75 l0_1 x4_2).f1.f1.f0.f1) ((rd_T75 l0_1 x4_2).f1.f1.f0.f2) ((rd_T75 l0_1 x4_2).f1.f1.f0.f3) ((rd_T75 l0_1 x4_2).f1.f1.f0.f4) ((rd_T75 l0_1 x4_2).f1.f1.f1.f0) ((rd_T75 l0_1 x4_2).f1.f1.f1.f1) ((rd_T75 l0_1 x4_2).f1.f1.f1.f2) ((rd_T75 l0_1 x4_2).f1.f1.f1.f3) ((rd_T75 l0_1 x4_2).f1.f1.f1.f4) ((rd_T75 l0_1 x4_2).f1.f1.f2) ((rd_T75 l0_1 x4_2).f1.f1.f3) ((rd_T75 l0_1 x4_2).f1.f1.f4) ((rd_T75 l0_1 x4_2).f2)) else ((spec_l11Place.f k2 a0_0 l0_1 ((rd_T75 l0_1 x4_2).f1.f0) ((rd_T75 l0_1 x4_2).f1.f1.f0.f0) ((rd_T75 l0_1 x4_2).f1.f1.f0.f1) ((rd_T75 l0_1 x4_2).f1.f1.f0.f2) ((rd_T75 l0_1 x4_2).f1.f1.f0.f3) ((rd_T75 l0_1 x4_2).f1.f1.f0.f4) ((rd_T75 l0_1 x4_2).f1.f1.f1.f0) ((rd_T75 l0_1 x4_2).f1.f1.f1.f1) ((rd_T75 l0_1 x4_2).f1.f1.f1.f2) ((rd_T75 l0_1 x4_2).f1.f1.f1.f3) ((rd_T75 l0_1 x4_2).f1.f1.f1.f4) ((rd_T75 l0_1 x4_2).f1.f1.f2) ((rd_T75 l0_1 x4_2).f1.f1.f3) ((rd_T75 l0_1 x4_2).f1.f1.f4)).bind fun t209 => (spec_TableOk.j2 k2 (l0_1.length : Int) x4_2 (t209 != x4_2) a0_0 l0_1 bq28 ((rd_T75 l0_1 x4_2).f1.f0) ((rd_T75 l0_1 x4_2).f1.f1.f0.f0) ((rd_T75 l0_1 x4_2).f1.f1.f0.f1) ((rd_T75 l0_1 x4_2).f1.f1.f0.f2) ((rd_T75 l0_1 x4_2).f1.f1.f0.f3) ((rd_T75 l0_1 x4_2).f1.f1.f0.f4) ((rd_T75 l0_1 x4_2).f1.f1.f1.f0) ((rd_T75 l0_1 x4_2).f1.f1.f1.f1) ((rd_T75 l0_1 x4_2).f1.f1.f1.f2) ((rd_T75 l0_1 x4_2).f1.f1.f1.f3) ((rd_T75 l0_1 x4_2).f1.f1.f1.f4) ((rd_T75 l0_1 x4_2).f1.f1.f2) ((rd_T75 l0_1 x4_2).f1.f1.f3) ((rd_T75 l0_1 x4_2).f1.f1.f4) ((rd_T75 l0_1 x4_2).f2))))) else (spec_TableOk.j2 k2 (l0_1.length : Int) x4_2 true a0_0 l0_1 bq28 ((rd_T75 l0_1 x4_2).f1.f0) ((rd_T75 l0_1 x4_2).f1.f1.f0.f0) ((rd_T75 l0_1 x4_2).f1.f1.f0.f1) ((rd_T75 l0_1 x4_2).f1.f1.f0.f2) ((rd_T75 l0_1 x4_2).f1.f1.f0.f3) ((rd_T75 l0_1 x4_2).f1.f1.f0.f4) ((rd_T75 l0_1 x4_2).f1.f1.f1.f0) ((rd_T75 l0_1 x4_2).f1.f1.f1.f1) ((rd_T75 l0_1 x4_2).f1.f1.f1.f2) ((rd_T75 l0_1 x4_2).f1.f1.f1.f3) ((rd_T75 l0_1 x4_2).f1.f1.f1.f4) ((rd_T75 l0_1 x4_2).f1.f1.f2) ((rd_T75 l0_1 x4_2).f1.f1.f3) ((rd_T75 l0_1 x4_2).f1.f1.f4) ((rd_T75 l0_1 x4_2).f2)))) else (if ((bq28) || ((!(((rd_T75 l0_1 x4_2).f1.f0) == 0) || (((!(((rd_T75 l0_1 x4_2).f1.f1.f0.f0) == 0) || (!(((rd_T75 l0_1 x4_2).f1.f1.f0.f1) == 0) || (!(((rd_T75 l0_1 x4_2).f1.f1.f0.f2) == 0) || (!(((rd_T75 l0_1 x4_2).f1.f1.f0.f3) == 0) || (!(((rd_T75 l0_1 x4_2).f1.f1.f0.f4) == 0)))))) || ((!(((rd_T75 l0_1 x4_2).f1.f1.f1.f0) == 0) || (!(((rd_T75 l0_1 x4_2).f1.f1.f1.f1) == 0) || (!(((rd_T75 l0_1 x4_2).f1.f1.f1.f2) == 0) || (!(((rd_T75 l0_1 x4_2).f1.f1.f1.f3) == 0) || (!(((rd_T75 l0_1 x4_2).f1.f1.f1.f4) == 0)))))) || (!(((rd_T75 l0_1 x4_2).f1.f1.f2) == 0) || (!(((rd_T75 l0_1 x4_2).f1.f1.f3) == 0) || (!(((rd_T75 l0_1 x4_2).f1.f1.f4) == 0)))))))) || (!(((rd_T75 l0_1 x4_2).f2) == 0)))) = true then (some false) else (spec_TableOk.l0 k2 (l0_1.length : Int) (wrap64 (x4_2 + 1)) a0_0 l0_1))) = some r := by rw [← hbq28] at H; exact H
          have Nbq28 := Gv.a0 hbq28
          clear hbq28
          by_cases c29 : (bq28 = true)
          ·subst c29
           have H1 : ((spec_FlowKeyOk.f ((rd_T75 l0_1 x4_2).f1.f0) ((rd_T75 l0_1 x4_2).f1.f1.f0.f0) ((rd_T75 l0_1 x4_2).f1.f1.f0.f1) ((rd_T75 l0_1 x4_2).f1.f1.f0.f2) ((rd_T75 l0_1 x4_2).f1.f1.f0.f3) ((rd_T75 l0_1 x4_2).f1.f1.f0.f4) ((rd_T75 l0_1 x4_2).f1.f1.f1.f0) ((rd_T75 l0_1 x4_2).f1.f1.f1.f1) ((rd_T75 l0_1 x4_2).f1.f1.f1.f2) ((rd_T75 l0_1 x4_2).f1.f1.f1.f3) ((rd_T75 l0_1 x4_2).f1.f1.f1.f4) ((rd_T75 l0_1 x4_2).f1.f1.f2) ((rd_T75 l0_1 x4_2).f1.f1.f3) ((rd_T75 l0_1 x4_2).f1.f1.f4)).bind fun t208 => (if t208 = true then (if ((rd_T75 l0_1 x4_2).f2) < 0 then (spec_TableOk.j2 k2 (l0_1.length : Int) x4_2 true a0_0 l0_1 true ((rd_T75 l0_1 x4_2).f1.f0) ((rd_T75 l0_1 x4_2).f1.f1.f0.f0) ((rd_T75 l0_1 x4_2).f1.f1.f0.f1) ((rd_T75 l0_1 x4_2).f1.f1.f0.f2) ((rd_T75 l0_1 x4_2).f1.f1.f0.f3) ((rd_T75 l0_1 x4_2).f1.f1.f0.f4) ((rd_T75 l0_1 x4_2).f1.f1.f1.f0) ((rd_T75 l0_1 x4_2).f1.f1.f1.f1) ((rd_T75 l0_1 x4_2).f1.f1.f1.f2) ((rd_T75 l0_1 x4_2).f1.f1.f1.f3) ((rd_T75 l0_1 x4_2).f1.f1.f1.f4) ((rd_T75 l0_1 x4_2).f1.f1.f2) ((rd_T75 l0_1 x4_2).f1.f1.f3) ((rd_T75 l0_1 x4_2).f1.f1.f4) ((rd_T75 l0_1 x4_2).f2)) else (if ((rd_T75 l0_1 x4_2).f2) > 1000000000000 then (spec_TableOk.j2 k2 (l0_1.length : Int) x4_2 true a0_0 l0_1 true ((rd_T75 l0_1 x4_2).f1.f0) ((rd_T75 l0_1 x4_2).f1.f1.f0.f0) ((rd_T75 l0_1 x4_2).f1.f1.f0.f1) ((rd_T75 l0_1 x4_2).f1.f1.f0.f2) ((rd_T75 l0_1 x4_2).f1.f1.f0.f3) ((rd_T75 l0_1 x4_2).f1.f1.f0.f4) ((rd_T75 l0_1 x4_2).f1.f1.f1.f0) ((rd_T75 l0_1 x4_2).f1.f1.f1.f1) ((rd_T75 l0_1 x4_2).f1.f1.f1.f2) ((rd_T75 l0_1 x4_2).f1.f1.f1.f3) ((rd_T75 l0_1 x4_2).f1.f1.f1.f4) ((rd_T75 l0_1 x4_2).f1.f1.f2) ((rd_T75 l0_1 x4_2).f1.f1.f3) ((rd_T75 l0_1 x4_2).f1.f1.f4) ((rd_T75 l0_1 x4_2).f2)) else ((spec_l11Place.f k2 a0_0 l0_1 ((rd_T75 l0_1 x4_2).f1.f0) ((rd_T75 l0_1 x4_2).f1.f1.f0.f0) ((rd_T75 l0_1 x4_2).f1.f1.f0.f1) ((rd_T75 l0_1 x4_2).f1.f1.f0.f2) ((rd_T75 l0_1 x4_2).f1.f1.f0.f3) ((rd_T75 l0_1 x4_2).f1.f1.f0.f4) ((rd_T75 l0_1 x4_2).f1.f1.f1.f0) ((rd_T75 l0_1 x4_2).f1.f1.f1.f1) ((rd_T75 l0_1 x4_2).f1.f1.f1.f2) ((rd_T75 l0_1 x4_2).f1.f1.f1.f3) ((rd_T75 l0_1 x4_2).f1.f1.f1.f4) ((rd_T75 l0_1 x4_2).f1.f1.f2) ((rd_T75 l0_1 x4_2).f1.f1.f3) ((rd_T75 l0_1 x4_2).f1.f1.f4)).bind fun t209 => (spec_TableOk.j2 k2 (l0_1.length : Int) x4_2 (t209 != x4_2) a0_0 l0_1 true ((rd_T75 l0_1 x4_2).f1.f0) ((rd_T75 l0_1 x4_2).f1.f1.f0.f0) ((rd_T75 l0_1 x4_2).f1.f1.f0.f1) ((rd_T75 l0_1 x4_2).f1.f1.f0.f2) ((rd_T75 l0_1 x4_2).f1.f1.f0.f3) ((rd_T75 l0_1 x4_2).f1.f1.f0.f4) ((rd_T75 l0_1 x4_2).f1.f1.f1.f0) ((rd_T75 l0_1 x4_2).f1.f1.f1.f1) ((rd_T75 l0_1 x4_2).f1.f1.f1.f2) ((rd_T75 l0_1 x4_2).f1.f1.f1.f3) ((rd_T75 l0_1 x4_2).f1.f1.f1.f4) ((rd_T75 l0_1 x4_2).f1.f1.f2) ((rd_T75 l0_1 x4_2).f1.f1.f3) ((rd_T75 l0_1 x4_2).f1.f1.f4) ((rd_T75 l0_1 x4_2).f2))))) else (spec_TableOk.j2 k2 (l0_1.length : Int) x4_2 true a0_0 l0_1 true ((rd_T75 l0_1 x4_2).f1.f0) ((rd_T75 l0_1 x4_2).f1.f1.f0.f0) ((rd_T75 l0_1 x4_2).f1.f1.f0.f1) ((rd_T75 l0_1 x4_2).f1.f1.f0.f2) ((rd_T75 l0_1 x4_2).f1.f1.f0.f3) ((rd_T75 l0_1 x4_2).f1.f1.f0.f4) ((rd_T75 l0_1 x4_2).f1.f1.f1.f0) ((rd_T75 l0_1 x4_2).f1.f1.f1.f1) ((rd_T75 l0_1 x4_2).f1.f1.f1.f2) ((rd_T75 l0_1 x4_2).f1.f1.f1.f3) ((rd_T75 l0_1 x4_2).f1.f1.f1.f4) ((rd_T75 l0_1 x4_2).f1.f1.f2) ((rd_T75 l0_1 x4_2).f1.f1.f3) ((rd_T75 l0_1 x4_2).f1.f1.f4) ((rd_T75 l0_1 x4_2).f2)))) = some r := by rw [if_pos rfl] at H; exact H
           clear H
           have H := H1
           clear H1
           have HC30 := Gv.a0 H
           clear H
           have hcz31_0 : wr.cell? ⟨gb204, 0, none⟩ = some (.int .i64 a0_0) := (blk_cell BK204.out 0).trans rfl
           have hcz31_1 : wr.cell? ⟨gb204, 1, none⟩ = some (.slice A0_1 l0_1.length c0_1) := (blk_cell BK204.out 1).trans rfl
           have hfz31_0 := blk_frozen BK204.out 0
           have hfz31_1 := blk_frozen BK204.out 1
           have p206 : 0 ≤ (x4_2 : Int) := of_decide_eq_true (by first | (with_reducible assumption) | assumption)
           have q206 : x4_2 < (l0_1.length : Int) := of_decide_eq_true (by first | (with_reducible assumption) | assumption)
           obtain ⟨ad206, e206, hx206_0, hx206_1, hx206_2, hx206_3, hx206_4, hx206_5, hx206_6, hx206_7, hx206_8, hx206_9, hx206_10, hx206_11, hx206_12, hx206_13, hx206_14, hx206_15⟩ := at_T75 HR0_1.out x4_2 p206 q206
           (try rw [← Nbq28.out] at hx206_0)
           cases e206
           replace hx206_0 := Gv.bx HB.out hx206_0
           replace hx206_1 := Gv.bx HB.out hx206_1
           replace hx206_2 := Gv.bx HB.out hx206_2
           replace hx206_3 := Gv.bx HB.out hx206_3
           replace hx206_4 := Gv.bx HB.out hx206_4
           replace hx206_5 := Gv.bx HB.out hx206_5
           replace hx206_6 := Gv.bx HB.out hx206_6
           replace hx206_7 := Gv.bx HB.out hx206_7
           replace hx206_8 := Gv.bx HB.out hx206_8
           replace hx206_9 := Gv.bx HB.out hx206_9
           replace hx206_10 := Gv.bx HB.out hx206_10
           replace hx206_11 := Gv.bx HB.out hx206_11
           replace hx206_12 := Gv.bx HB.out hx206_12
           replace hx206_13 := Gv.bx HB.out hx206_13
           replace hx206_14 := Gv.bx HB.out hx206_14
           replace hx206_15 := Gv.bx HB.out hx206_15
           replace p206 := eq_true p206
           replace q206 := eq_true q206
           go_upto_region 13 with (first | ((with_reducible refine gate_dst (N := 5) rfl ?_); refine box_event ?hg (N := 5) ?hd (cs := #[.bool false, .int .i64 0, .int .i64 0, .int .i64 0, .int .i64 0, .int .i64 0, .int .i64 0, .int .i64 0, .int .i64 0, .int .i64 0, .int .i64 0, .int .i64 0, .int .i64 0, .int .i64 0, .int .i64 0, .int .i64 0]) (t := 75) ?hr ?_; (case hd => rfl); (case hg => rfl); (case hr => first | (go_simp; done) | (go_simp; rfl)); intro gb207 hg w32 hbox hb; have n0_ := Gv.a0 (Gv.bb BK204.out hb); have n1_ := Gv.a0 (below_step Gv.bw hb); have n2_ := Gv.a0 (hbox); have n3_ := Gv.a0 ((Gv.ble hg Gv.bw : w.heap.size ≤ gb207)); have n4_ := Gv.a0 ((Gv.ble hg Gv.bw : w.heap.size ≤ gb207)); have n5_ := Gv.a0 ((Gv.nlt hg (Gv.kb BK204.out) : gb204 ≠ gb207)); have n6_ := Gv.a0 ((Gv.ngt hg (Gv.kb BK204.out) : gb207 ≠ gb204)); clear BK204; clear HB; have BK204 := n0_; have HB := n1_; have BK207 := n2_; have GW207 := n3_; have GE207 := n4_; have NB204_207 := n5_; have NB207_204 := n6_; clear n0_ n1_ n2_ n3_ n4_ n5_ n6_; clear hb hbox hg; have hnb33 := NB207_204.out; have hnc33 := NB204_207.out; obtain ⟨hcz34_0, hcz34_1, hcz34_2, hcz34_3, hcz34_4, hcz34_5, hcz34_6, hcz34_7, hcz34_8, hcz34_9, hcz34_10, hcz34_11, hcz34_12, hcz34_13, hcz34_14, hcz34_15⟩ := Gv.c16 BK207.out) | ((with_reducible refine gate_store (t := 75) (p := 5) rfl ?_); refine Gv.store_event rfl rfl rfl rfl rfl (Gv.kb BK207.out) (by kernel_rfl) rfl (by simp; and_intros <;> rfl) ?_; intro w32s hbox hoth hbel; have n0_ := Gv.a0 (hbox); have n1_ := Gv.a0 (hbel w Gv.bw GE207.out); have n2_ := Gv.a0 ((hoth gb204 NB204_207.out).trans (Gv.kb BK204.out)); clear BK207 HB BK204; have BK207 := n0_; have HB := n1_; have BK204 := n2_; clear n0_ n1_ n2_ hbox hoth hbel; (try clear hcz34_0 hcz34_1 hcz34_2 hcz34_3 hcz34_4 hcz34_5 hcz34_6 hcz34_7 hcz34_8 hcz34_9 hcz34_10 hcz34_11 hcz34_12 hcz34_13 hcz34_14 hcz34_15 hfz34_0 hfz34_1 hfz34_2 hfz34_3 hfz34_4 hfz34_5 hfz34_6 hfz34_7 hfz34_8 hfz34_9 hfz34_10 hfz34_11 hfz34_12 hfz34_13 hfz34_14 hfz34_15); obtain ⟨hcz34_0, hcz34_1, hcz34_2, hcz34_3, hcz34_4, hcz34_5, hcz34_6, hcz34_7, hcz34_8, hcz34_9, hcz34_10, hcz34_11, hcz34_12, hcz34_13, hcz34_14, hcz34_15⟩ := Gv.c16 BK207.out) | ((with_reducible refine Gv.gate_load (t := 75) rfl ?_); (try (refine gate_guard (by rfl) ?_; dsimp only)); refine wpList_load_row rfl 75 _ rfl gb207 rfl 75 _ _ _ (by first | exact Gv.kb0 BK207.out | exact Gv.kb1 (Gv.kb0 BK207.out)) Try.underlying75 rfl (by kernel_rfl) ?_) | ((with_reducible refine Gv.gate_load (t := 75) rfl ?_); refine Gv.load_event (cs := [_, _, _, _, _, _, _, _, _, _, _, _, _, _, _, _]) rfl rfl rfl ⟨hx206_0, hx206_1, hx206_2, hx206_3, hx206_4, hx206_5, hx206_6, hx206_7, hx206_8, hx206_9, hx206_10, hx206_11, hx206_12, hx206_13, hx206_14, hx206_15, trivial⟩ Try.underlying75 rfl (by kernel_rfl) ?_))
           (try simp only [Act.put, List.setIfInBounds_toArray, List.set_cons_zero, List.set_cons_succ])
           go_cut [81] (fun v81 wc => ∃ (kq : Nat) (x81_29 : Bool), v81 = .bool x81_29 ∧ Aside0 (spec_TableOk.j2 kq (l0_1.length : Int) x4_2 x81_29 a0_0 l0_1 true ((rd_T75 l0_1 x4_2).f1.f0) ((rd_T75 l0_1 x4_2).f1.f1.f0.f0) ((rd_T75 l0_1 x4_2).f1.f1.f0.f1) ((rd_T75 l0_1 x4_2).f1.f1.f0.f2) ((rd_T75 l0_1 x4_2).f1.f1.f0.f3) ((rd_T75 l0_1 x4_2).f1.f1.f0.f4) ((rd_T75 l0_1 x4_2).f1.f1.f1.f0) ((rd_T75 l0_1 x4_2).f1.f1.f1.f1) ((rd_T75 l0_1 x4_2).f1.f1.f1.f2) ((rd_T75 l0_1 x4_2).f1.f1.f1.f3) ((rd_T75 l0_1 x4_2).f1.f1.f1.f4) ((rd_T75 l0_1 x4_2).f1.f1.f2) ((rd_T75 l0_1 x4_2).f1.f1.f3) ((rd_T75 l0_1 x4_2).f1.f1.f4) ((rd_T75 l0_1 x4_2).f2) = some r) ∧ Aside0 (kq ≤ k2) ∧ Aside0 (wc.heap[gb204]? = some (.cells #[.int .i64 a0_0, (.slice (some ad206) l0_1.length c0_1)] 40 (0, 0))) ∧ Aside0 (wc.heap[gb207]? = some (.cells #[.bool true, .int .i64 ((rd_T75 l0_1 x4_2).f1.f0), .int .i64 ((rd_T75 l0_1 x4_2).f1.f1.f0.f0), .int .i64 ((rd_T75 l0_1 x4_2).f1.f1.f0.f1), .int .i64 ((rd_T75 l0_1 x4_2).f1.f1.f0.f2), .int .i64 ((rd_T75 l0_1 x4_2).f1.f1.f0.f3), .int .i64 ((rd_T75 l0_1 x4_2).f1.f1.f0.f4), .int .i64 ((rd_T75 l0_1 x4_2).f1.f1.f1.f0), .int .i64 ((rd_T75 l0_1 x4_2).f1.f1.f1.f1), .int .i64 ((rd_T75 l0_1 x4_2).f1.f1.f1.f2), .int .i64 ((rd_T75 l0_1 x4_2).f1.f1.f1.f3), .int .i64 ((rd_T75 l0_1 x4_2).f1.f1.f1.f4), .int .i64 ((rd_T75 l0_1 x4_2).f1.f1.f2), .int .i64 ((rd_T75 l0_1 x4_2).f1.f1.f3), .int .i64 ((rd_T75 l0_1 x4_2).f1.f1.f4), .int .i64 ((rd_T75 l0_1 x4_2).f2)] 75 (0, 0))) ∧ Aside0 (Below w.heap.size w wc))
           case first =>
            have H := HC30.out
            clear HC30
            replace H := Option.bind_eq_some_iff.mp H
            obtain ⟨t208, A350, H⟩ := H
            replace H : (if t208 = true then (if ((rd_T75 l0_1 x4_2).f2) < 0 then (spec_TableOk.j2 k2 (l0_1.length : Int) x4_2 true a0_0 l0_1 true ((rd_T75 l0_1 x4_2).f1.f0) ((rd_T75 l0_1 x4_2).f1.f1.f0.f0) ((rd_T75 l0_1 x4_2).f1.f1.f0.f1) ((rd_T75 l0_1 x4_2).f1.f1.f0.f2) ((rd_T75 l0_1 x4_2).f1.f1.f0.f3) ((rd_T75 l0_1 x4_2).f1.f1.f0.f4) ((rd_T75 l0_1 x4_2).f1.f1.f1.f0) ((rd_T75 l0_1 x4_2).f1.f1.f1.f1) ((rd_T75 l0_1 x4_2).f1.f1.f1.f2) ((rd_T75 l0_1 x4_2).f1.f1.f1.f3) ((rd_T75 l0_1 x4_2).f1.f1.f1.f4) ((rd_T75 l0_1 x4_2).f1.f1.f2) ((rd_T75 l0_1 x4_2).f1.f1.f3) ((rd_T75 l0_1 x4_2).f1.f1.f4) ((rd_T75 l0_1 x4_2).f2)) else (if ((rd_T75 l0_1 x4_2).f2) > 1000000000000 then (spec_TableOk.j2 k2 (l0_1.length : Int) x4_2 true a0_0 l0_1 true ((rd_T75 l0_1 x4_2).f1.f0) ((rd_T75 l0_1 x4_2).f1.f1.f0.f0) ((rd_T75 l0_1 x4_2).f1.f1.f0.f1) ((rd_T75 l0_1 x4_2).f1.f1.f0.f2) ((rd_T75 l0_1 x4_2).f1.f1.f0.f3) ((rd_T75 l0_1 x4_2).f1.f1.f0.f4) ((rd_T75 l0_1 x4_2).f1.f1.f1.f0) ((rd_T75 l0_1 x4_2).f1.f1.f1.f1) ((rd_T75 l0_1 x4_2).f1.f1.f1.f2) ((rd_T75 l0_1 x4_2).f1.f1.f1.f3) ((rd_T75 l0_1 x4_2).f1.f1.f1.f4) ((rd_T75 l0_1 x4_2).f1.f1.f2) ((rd_T75 l0_1 x4_2).f1.f1.f3) ((rd_T75 l0_1 x4_2).f1.f1.f4) ((rd_T75 l0_1 x4_2).f2)) else ((spec_l11Place.f k2 a0_0 l0_1 ((rd_T75 l0_1 x4_2).f1.f0) ((rd_T75 l0_1 x4_2).f1.f1.f0.f0) ((rd_T75 l0_1 x4_2).f1.f1.f0.f1) ((rd_T75 l0_1 x4_2).f1.f1.f0.f2) ((rd_T75 l0_1 x4_2).f1.f1.f0.f3) ((rd_T75 l0_1 x4_2).f1.f1.f0.f4) ((rd_T75 l0_1 x4_2).f1.f1.f1.f0) ((rd_T75 l0_1 x4_2).f1.f1.f1.f1) ((rd_T75 l0_1 x4_2).f1.f1.f1.f2) ((rd_T75 l0_1 x4_2).f1.f1.f1.f3) ((rd_T75 l0_1 x4_2).f1.f1.f1.f4) ((rd_T75 l0_1 x4_2).f1.f1.f2) ((rd_T75 l0_1 x4_2).f1.f1.f3) ((rd_T75 l0_1 x4_2).f1.f1.f4)).bind fun t209 => (spec_TableOk.j2 k2 (l0_1.length : Int) x4_2 (t209 != x4_2) a0_0 l0_1 true ((rd_T75 l0_1 x4_2).f1.f0) ((rd_T75 l0_1 x4_2).f1.f1.f0.f0) ((rd_T75 l0_1 x4_2).f1.f1.f0.f1) ((rd_T75 l0_1 x4_2).f1.f1.f0.f2) ((rd_T75 l0_1 x4_2).f1.f1.f0.f3) ((rd_T75 l0_1 x4_2).f1.f1.f0.f4) ((rd_T75 l0_1 x4_2).f1.f1.f1.f0) ((rd_T75 l0_1 x4_2).f1.f1.f1.f1) ((rd_T75 l0_1 x4_2).f1.f1.f1.f2) ((rd_T75 l0_1 x4_2).f1.f1.f1.f3) ((rd_T75 l0_1 x4_2).f1.f1.f1.f4) ((rd_T75 l0_1 x4_2).f1.f1.f2) ((rd_T75 l0_1 x4_2).f1.f1.f3) ((rd_T75 l0_1 x4_2).f1.f1.f4) ((rd_T75 l0_1 x4_2).f2))))) else (spec_TableOk.j2 k2 (l0_1.length : Int) x4_2 true a0_0 l0_1 true ((rd_T75 l0_1 x4_2).f1.f0) ((rd_T75 l0_1 x4_2).f1.f1.f0.f0) ((rd_T75 l0_1 x4_2).f1.f1.f0.f1) ((rd_T75 l0_1 x4_2).f1.f1.f0.f2) ((rd_T75 l0_1 x4_2).f1.f1.f0.f3) ((rd_T75 l0_1 x4_2).f1.f1.f0.f4) ((rd_T75 l0_1 x4_2).f1.f1.f1.f0) ((rd_T75 l0_1 x4_2).f1.f1.f1.f1) ((rd_T75 l0_1 x4_2).f1.f1.f1.f2) ((rd_T75 l0_1 x4_2).f1.f1.f1.f3) ((rd_T75 l0_1 x4_2).f1.f1.f1.f4) ((rd_T75 l0_1 x4_2).f1.f1.f2) ((rd_T75 l0_1 x4_2).f1.f1.f3) ((rd_T75 l0_1 x4_2).f1.f1.f4) ((rd_T75 l0_1 x4_2).f2))) = some r := H
            have A35 := Gv.a0 A350
            clear A350
            by_cases c36 : t208 = true
            ·subst c36
             have H1 : (if ((rd_T75 l0_1 x4_2).f2) < 0 then (spec_TableOk.j2 k2 (l0_1.length : Int) x4_2 true a0_0 l0_1 true ((rd_T75 l0_1 x4_2).f1.f0) ((rd_T75 l0_1 x4_2).f1.f1.f0.f0) ((rd_T75 l0_1 x4_2).f1.f1.f0.f1) ((rd_T75 l0_1 x4_2).f1.f1.f0.f2) ((rd_T75 l0_1 x4_2).f1.f1.f0.f3) ((rd_T75 l0_1 x4_2).f1.f1.f0.f4) ((rd_T75 l0_1 x4_2).f1.f1.f1.f0) ((rd_T75 l0_1 x4_2).f1.f1.f1.f1) ((rd_T75 l0_1 x4_2).f1.f1.f1.f2) ((rd_T75 l0_1 x4_2).f1.f1.f1.f3) ((rd_T75 l0_1 x4_2).f1.f1.f1.f4) ((rd_T75 l0_1 x4_2).f1.f1.f2) ((rd_T75 l0_1 x4_2).f1.f1.f3) ((rd_T75 l0_1 x4_2).f1.f1.f4) ((rd_T75 l0_1 x4_2).f2)) else (if ((rd_T75 l0_1 x4_2).f2) > 1000000000000 then (spec_TableOk.j2 k2 (l0_1.length : Int) x4_2 true a0_0 l0_1 true ((rd_T75 l0_1 x4_2).f1.f0) ((rd_T75 l0_1 x4_2).f1.f1.f0.f0) ((rd_T75 l0_1 x4_2).f1.f1.f0.f1) ((rd_T75 l0_1 x4_2).f1.f1.f0.f2) ((rd_T75 l0_1 x4_2).f1.f1.f0.f3) ((rd_T75 l0_1 x4_2).f1.f1.f0.f4) ((rd_T75 l0_1 x4_2).f1.f1.f1.f0) ((rd_T75 l0_1 x4_2).f1.f1.f1.f1) ((rd_T75 l0_1 x4_2).f1.f1.f1.f2) ((rd_T75 l0_1 x4_2).f1.f1.f1.f3) ((rd_T75 l0_1 x4_2).f1.f1.f1.f4) ((rd_T75 l0_1 x4_2).f1.f1.f2) ((rd_T75 l0_1 x4_2).f1.f1.f3) ((rd_T75 l0_1 x4_2).f1.f1.f4) ((rd_T75 l0_1 x4_2).f2)) else ((spec_l11Place.f k2 a0_0 l0_1 ((rd_T75 l0_1 x4_2).f1.f0) ((rd_T75 l0_1 x4_2).f1.f1.f0.f0) ((rd_T75 l0_1 x4_2).f1.f1.f0.f1) ((rd_T75 l0_1 x4_2).f1.f1.f0.f2) ((rd_T75 l0_1 x4_2).f1.f1.f0.f3) ((rd_T75 l0_1 x4_2).f1.f1.f0.f4) ((rd_T75 l0_1 x4_2).f1.f1.f1.f0) ((rd_T75 l0_1 x4_2).f1.f1.f1.f1) ((rd_T75 l0_1 x4_2).f1.f1.f1.f2) ((rd_T75 l0_1 x4_2).f1.f1.f1.f3) ((rd_T75 l0_1 x4_2).f1.f1.f1.f4) ((rd_T75 l0_1 x4_2).f1.f1.f2) ((rd_T75 l0_1 x4_2).f1.f1.f3) ((rd_T75 l0_1 x4_2).f1.f1.f4)).bind fun t209 => (spec_TableOk.j2 k2 (l0_1.length : Int) x4_2 (t209 != x4_2) a0_0 l0_1 true ((rd_T75 l0_1 x4_2).f1.f0) ((rd_T75 l0_1 x4_2).f1.f1.f0.f0) ((rd_T75 l0_1 x4_2).f1.f1.f0.f1) ((rd_T75 l0_1 x4_2).f1.f1.f0.f2) ((rd_T75 l0_1 x4_2).f1.f1.f0.f3) ((rd_T75 l0_1 x4_2).f1.f1.f0.f4) ((rd_T75 l0_1 x4_2).f1.f1.f1.f0) ((rd_T75 l0_1 x4_2).f1.f1.f1.f1) ((rd_T75 l0_1 x4_2).f1.f1.f1.f2) ((rd_T75 l0_1 x4_2).f1.f1.f1.f3) ((rd_T75 l0_1 x4_2).f1.f1.f1.f4) ((rd_T75 l0_1 x4_2).f1.f1.f2) ((rd_T75 l0_1 x4_2).f1.f1.f3) ((rd_T75 l0_1 x4_2).f1.f1.f4) ((rd_T75 l0_1 x4_2).f2))))) = some r := by rw [if_pos rfl] at H; exact H
             clear H
             have H := H1
             clear H1
             by_cases c37 : ((rd_T75 l0_1 x4_2).f2) < 0
             ·rw [if_pos c37] at H
              have c37b0 : decide (((rd_T75 l0_1 x4_2).f2) < 0) = true := decide_eq_true c37
              clear c37
              (first | rw [c37b0] | (simp only [i64_w, i32_w]; rw [c37b0]) | skip)
              have H' := Gv.a0 H
              clear H
              have hnb38 := NB207_204.out
              have hnc38 := NB204_207.out
              obtain ⟨hcz39_0, hcz39_1, hcz39_2, hcz39_3, hcz39_4, hcz39_5, hcz39_6, hcz39_7, hcz39_8, hcz39_9, hcz39_10, hcz39_11, hcz39_12, hcz39_13, hcz39_14, hcz39_15⟩ := Gv.c16 BK207.out
              go_wp2_with (first | ((with_reducible refine gate_callee (f := 13) rfl ?_); refine goesL_ (some 62) rfl rfl Try.func13 (by kernel_rfl) rfl #[.agg #[.int .i64 ((rd_T75 l0_1 x4_2).f1.f0), .int .i64 ((rd_T75 l0_1 x4_2).f1.f1.f0.f0), .int .i64 ((rd_T75 l0_1 x4_2).f1.f1.f0.f1), .int .i64 ((rd_T75 l0_1 x4_2).f1.f1.f0.f2), .int .i64 ((rd_T75 l0_1 x4_2).f1.f1.f0.f3), .int .i64 ((rd_T75 l0_1 x4_2).f1.f1.f0.f4), .int .i64 ((rd_T75 l0_1 x4_2).f1.f1.f1.f0), .int .i64 ((rd_T75 l0_1 x4_2).f1.f1.f1.f1), .int .i64 ((rd_T75 l0_1 x4_2).f1.f1.f1.f2), .int .i64 ((rd_T75 l0_1 x4_2).f1.f1.f1.f3), .int .i64 ((rd_T75 l0_1 x4_2).f1.f1.f1.f4), .int .i64 ((rd_T75 l0_1 x4_2).f1.f1.f2), .int .i64 ((rd_T75 l0_1 x4_2).f1.f1.f3), .int .i64 ((rd_T75 l0_1 x4_2).f1.f1.f4)]] rfl Gv.lm ?_; (with_reducible refine (spec_FlowKeyOk.calls _ _ _ _ _ _ _ _ _ _ _ _ _ _ true _ A35.out).mono ?_); rintro e w40 ⟨rfl, hb⟩; refine ⟨_, rfl, ?_⟩; have n0_ := Gv.a0 (blk_below (g := gb204) (o := .cells #[.int .i64 a0_0, .slice (some ad206) l0_1.length c0_1] 40 (0, 0)) Gv.bkf hb); have n1_ := Gv.a0 (blk_below (g := gb207) (o := .cells #[.bool true, .int .i64 ((rd_T75 l0_1 x4_2).f1.f0), .int .i64 ((rd_T75 l0_1 x4_2).f1.f1.f0.f0), .int .i64 ((rd_T75 l0_1 x4_2).f1.f1.f0.f1), .int .i64 ((rd_T75 l0_1 x4_2).f1.f1.f0.f2), .int .i64 ((rd_T75 l0_1 x4_2).f1.f1.f0.f3), .int .i64 ((rd_T75 l0_1 x4_2).f1.f1.f0.f4), .int .i64 ((rd_T75 l0_1 x4_2).f1.f1.f1.f0), .int .i64 ((rd_T75 l0_1 x4_2).f1.f1.f1.f1), .int .i64 ((rd_T75 l0_1 x4_2).f1.f1.f1.f2), .int .i64 ((rd_T75 l0_1 x4_2).f1.f1.f1.f3), .int .i64 ((rd_T75 l0_1 x4_2).f1.f1.f1.f4), .int .i64 ((rd_T75 l0_1 x4_2).f1.f1.f2), .int .i64 ((rd_T75 l0_1 x4_2).f1.f1.f3), .int .i64 ((rd_T75 l0_1 x4_2).f1.f1.f4), .int .i64 ((rd_T75 l0_1 x4_2).f2)] 75 (0, 0)) (by (with_reducible repeat (first | refine blk_drewN ?_ _ | refine blk_drew ?_ | refine blk_alloc ?_ _)); exact BK207.out) hb); have n2_ := Gv.a0 (below_step Gv.bw hb); clear BK204; clear BK207; clear HB; have BK204 := n0_; have BK207 := n1_; have HB := n2_; clear n0_ n1_ n2_; (try clear hb); (try clear hb2); (try clear hk); (try clear hi); obtain ⟨hcz41_0, hcz41_1, hcz41_2, hcz41_3, hcz41_4, hcz41_5, hcz41_6, hcz41_7, hcz41_8, hcz41_9, hcz41_10, hcz41_11, hcz41_12, hcz41_13, hcz41_14, hcz41_15⟩ := Gv.c16 BK207.out) | ((with_reducible refine Gv.gate_load (t := 75) rfl ?_); (try (refine gate_guard (by rfl) ?_; dsimp only)); refine wpList_load_row rfl 75 _ rfl gb207 rfl 75 _ _ _ (by first | exact Gv.kb0 BK207.out | exact Gv.kb1 (Gv.kb0 BK207.out)) Try.underlying75 rfl (by kernel_rfl) ?_))
              go_meet
              case rel => exact ⟨_, (true), Gv.rq, H', ⟨by have := HJ1.out; have := HK2.out; first | omega | exact Nat.le_refl _⟩, ⟨by (with_reducible repeat (first | refine blk_drewN ?_ _ | refine blk_drew ?_ | refine blk_alloc ?_ _)); exact BK204.out⟩, ⟨by (with_reducible repeat (first | refine blk_drewN ?_ _ | refine blk_drew ?_ | refine blk_alloc ?_ _)); exact BK207.out⟩, ⟨Gv.bw⟩⟩
             ·rw [if_neg c37] at H
              have c37b0 : decide (((rd_T75 l0_1 x4_2).f2) < 0) = false := decide_eq_false c37
              clear c37
              (first | rw [c37b0] | (simp only [i64_w, i32_w]; rw [c37b0]) | skip)
              by_cases c42 : ((rd_T75 l0_1 x4_2).f2) > 1000000000000
              ·rw [if_pos c42] at H
               have c42b0 : decide (1000000000000 < ((rd_T75 l0_1 x4_2).f2)) = true := decide_eq_true c42
               clear c42
               have H' := Gv.a0 H
               clear H
               have hnb43 := NB207_204.out
               have hnc43 := NB204_207.out
               obtain ⟨hcz44_0, hcz44_1, hcz44_2, hcz44_3, hcz44_4, hcz44_5, hcz44_6, hcz44_7, hcz44_8, hcz44_9, hcz44_10, hcz44_11, hcz44_12, hcz44_13, hcz44_14, hcz44_15⟩ := Gv.c16 BK207.out
               go_wp2_with (first | ((with_reducible refine gate_callee (f := 13) rfl ?_); refine goesL_ (some 62) rfl rfl Try.func13 (by kernel_rfl) rfl #[.agg #[.int .i64 ((rd_T75 l0_1 x4_2).f1.f0), .int .i64 ((rd_T75 l0_1 x4_2).f1.f1.f0.f0), .int .i64 ((rd_T75 l0_1 x4_2).f1.f1.f0.f1), .int .i64 ((rd_T75 l0_1 x4_2).f1.f1.f0.f2), .int .i64 ((rd_T75 l0_1 x4_2).f1.f1.f0.f3), .int .i64 ((rd_T75 l0_1 x4_2).f1.f1.f0.f4), .int .i64 ((rd_T75 l0_1 x4_2).f1.f1.f1.f0), .int .i64 ((rd_T75 l0_1 x4_2).f1.f1.f1.f1), .int .i64 ((rd_T75 l0_1 x4_2).f1.f1.f1.f2), .int .i64 ((rd_T75 l0_1 x4_2).f1.f1.f1.f3), .int .i64 ((rd_T75 l0_1 x4_2).f1.f1.f1.f4), .int .i64 ((rd_T75 l0_1 x4_2).f1.f1.f2), .int .i64 ((rd_T75 l0_1 x4_2).f1.f1.f3), .int .i64 ((rd_T75 l0_1 x4_2).f1.f1.f4)]] rfl Gv.lm ?_; (with_reducible refine (spec_FlowKeyOk.calls _ _ _ _ _ _ _ _ _ _ _ _ _ _ true _ A35.out).mono ?_); rintro e w45 ⟨rfl, hb⟩; refine ⟨_, rfl, ?_⟩; have n0_ := Gv.a0 (blk_below (g := gb204) (o := .cells #[.int .i64 a0_0, .slice (some ad206) l0_1.length c0_1] 40 (0, 0)) Gv.bkf hb); have n1_ := Gv.a0 (blk_below (g := gb207) (o := .cells #[.bool true, .int .i64 ((rd_T75 l0_1 x4_2).f1.f0), .int .i64 ((rd_T75 l0_1 x4_2).f1.f1.f0.f0), .int .i64 ((rd_T75 l0_1 x4_2).f1.f1.f0.f1), .int .i64 ((rd_T75 l0_1 x4_2).f1.f1.f0.f2), .int .i64 ((rd_T75 l0_1 x4_2).f1.f1.f0.f3), .int .i64 ((rd_T75 l0_1 x4_2).f1.f1.f0.f4), .int .i64 ((rd_T75 l0_1 x4_2).f1.f1.f1.f0), .int .i64 ((rd_T75 l0_1 x4_2).f1.f1.f1.f1), .int .i64 ((rd_T75 l0_1 x4_2).f1.f1.f1.f2), .int .i64 ((rd_T75 l0_1 x4_2).f1.f1.f1.f3), .int .i64 ((rd_T75 l0_1 x4_2).f1.f1.f1.f4), .int .i64 ((rd_T75 l0_1 x4_2).f1.f1.f2), .int .i64 ((rd_T75 l0_1 x4_2).f1.f1.f3), .int .i64 ((rd_T75 l0_1 x4_2).f1.f1.f4), .int .i64 ((rd_T75 l0_1 x4_2).f2)] 75 (0, 0)) (by (with_reducible repeat (first | refine blk_drewN ?_ _ | refine blk_drew ?_ | refine blk_alloc ?_ _)); exact BK207.out) hb); have n2_ := Gv.a0 (below_step Gv.bw hb); clear BK204; clear BK207; clear HB; have BK204 := n0_; have BK207 := n1_; have HB := n2_; clear n0_ n1_ n2_; (try clear hb); (try clear hb2); (try clear hk); (try clear hi); obtain ⟨hcz46_0, hcz46_1, hcz46_2, hcz46_3, hcz46_4, hcz46_5, hcz46_6, hcz46_7, hcz46_8, hcz46_9, hcz46_10, hcz46_11, hcz46_12, hcz46_13, hcz46_14, hcz46_15⟩ := Gv.c16 BK207.out) | ((with_reducible refine Gv.gate_load (t := 75) rfl ?_); (try (refine gate_guard (by rfl) ?_; dsimp only)); refine wpList_load_row rfl 75 _ rfl gb207 rfl 75 _ _ _ (by first | exact Gv.kb0 BK207.out | exact Gv.kb1 (Gv.kb0 BK207.out)) Try.underlying75 rfl (by kernel_rfl) ?_))
               go_meet
               case rel => exact ⟨_, (true), Gv.rq, H', ⟨by have := HJ1.out; have := HK2.out; first | omega | exact Nat.le_refl _⟩, ⟨by (with_reducible repeat (first | refine blk_drewN ?_ _ | refine blk_drew ?_ | refine blk_alloc ?_ _)); exact BK204.out⟩, ⟨by (with_reducible repeat (first | refine blk_drewN ?_ _ | refine blk_drew ?_ | refine blk_alloc ?_ _)); exact BK207.out⟩, ⟨Gv.bw⟩⟩
              ·rw [if_neg c42] at H
               have c42b0 : decide (1000000000000 < ((rd_T75 l0_1 x4_2).f2)) = false := decide_eq_false c42
               clear c42
               replace H := Option.bind_eq_some_iff.mp H
               obtain ⟨t209, A470, H⟩ := H
               replace H : (spec_TableOk.j2 k2 (l0_1.length : Int) x4_2 (t209 != x4_2) a0_0 l0_1 true ((rd_T75 l0_1 x4_2).f1.f0) ((rd_T75 l0_1 x4_2).f1.f1.f0.f0) ((rd_T75 l0_1 x4_2).f1.f1.f0.f1) ((rd_T75 l0_1 x4_2).f1.f1.f0.f2) ((rd_T75 l0_1 x4_2).f1.f1.f0.f3) ((rd_T75 l0_1 x4_2).f1.f1.f0.f4) ((rd_T75 l0_1 x4_2).f1.f1.f1.f0) ((rd_T75 l0_1 x4_2).f1.f1.f1.f1) ((rd_T75 l0_1 x4_2).f1.f1.f1.f2) ((rd_T75 l0_1 x4_2).f1.f1.f1.f3) ((rd_T75 l0_1 x4_2).f1.f1.f1.f4) ((rd_T75 l0_1 x4_2).f1.f1.f2) ((rd_T75 l0_1 x4_2).f1.f1.f3) ((rd_T75 l0_1 x4_2).f1.f1.f4) ((rd_T75 l0_1 x4_2).f2)) = some r := H
               have A47 := Gv.a0 A470
               clear A470
               have H' := Gv.a0 H
               clear H
               have hnb48 := NB207_204.out
               have hnc48 := NB204_207.out
               obtain ⟨hcz49_0, hcz49_1, hcz49_2, hcz49_3, hcz49_4, hcz49_5, hcz49_6, hcz49_7, hcz49_8, hcz49_9, hcz49_10, hcz49_11, hcz49_12, hcz49_13, hcz49_14, hcz49_15⟩ := Gv.c16 BK207.out
               go_wp2_with (first | ((with_reducible refine gate_callee (f := 13) rfl ?_); refine goesL_ (some 62) rfl rfl Try.func13 (by kernel_rfl) rfl #[.agg #[.int .i64 ((rd_T75 l0_1 x4_2).f1.f0), .int .i64 ((rd_T75 l0_1 x4_2).f1.f1.f0.f0), .int .i64 ((rd_T75 l0_1 x4_2).f1.f1.f0.f1), .int .i64 ((rd_T75 l0_1 x4_2).f1.f1.f0.f2), .int .i64 ((rd_T75 l0_1 x4_2).f1.f1.f0.f3), .int .i64 ((rd_T75 l0_1 x4_2).f1.f1.f0.f4), .int .i64 ((rd_T75 l0_1 x4_2).f1.f1.f1.f0), .int .i64 ((rd_T75 l0_1 x4_2).f1.f1.f1.f1), .int .i64 ((rd_T75 l0_1 x4_2).f1.f1.f1.f2), .int .i64 ((rd_T75 l0_1 x4_2).f1.f1.f1.f3), .int .i64 ((rd_T75 l0_1 x4_2).f1.f1.f1.f4), .int .i64 ((rd_T75 l0_1 x4_2).f1.f1.f2), .int .i64 ((rd_T75 l0_1 x4_2).f1.f1.f3), .int .i64 ((rd_T75 l0_1 x4_2).f1.f1.f4)]] rfl Gv.lm ?_; (with_reducible refine (spec_FlowKeyOk.calls _ _ _ _ _ _ _ _ _ _ _ _ _ _ true _ A35.out).mono ?_); rintro e w50 ⟨rfl, hb⟩; refine ⟨_, rfl, ?_⟩; have n0_ := Gv.a0 (blk_below (g := gb204) (o := .cells #[.int .i64 a0_0, .slice (some ad206) l0_1.length c0_1] 40 (0, 0)) Gv.bkf hb); have n1_ := Gv.a0 (blk_below (g := gb207) (o := .cells #[.bool true, .int .i64 ((rd_T75 l0_1 x4_2).f1.f0), .int .i64 ((rd_T75 l0_1 x4_2).f1.f1.f0.f0), .int .i64 ((rd_T75 l0_1 x4_2).f1.f1.f0.f1), .int .i64 ((rd_T75 l0_1 x4_2).f1.f1.f0.f2), .int .i64 ((rd_T75 l0_1 x4_2).f1.f1.f0.f3), .int .i64 ((rd_T75 l0_1 x4_2).f1.f1.f0.f4), .int .i64 ((rd_T75 l0_1 x4_2).f1.f1.f1.f0), .int .i64 ((rd_T75 l0_1 x4_2).f1.f1.f1.f1), .int .i64 ((rd_T75 l0_1 x4_2).f1.f1.f1.f2), .int .i64 ((rd_T75 l0_1 x4_2).f1.f1.f1.f3), .int .i64 ((rd_T75 l0_1 x4_2).f1.f1.f1.f4), .int .i64 ((rd_T75 l0_1 x4_2).f1.f1.f2), .int .i64 ((rd_T75 l0_1 x4_2).f1.f1.f3), .int .i64 ((rd_T75 l0_1 x4_2).f1.f1.f4), .int .i64 ((rd_T75 l0_1 x4_2).f2)] 75 (0, 0)) (by (with_reducible repeat (first | refine blk_drewN ?_ _ | refine blk_drew ?_ | refine blk_alloc ?_ _)); exact BK207.out) hb); have n2_ := Gv.a0 (below_step Gv.bw hb); clear BK204; clear BK207; clear HB; have BK204 := n0_; have BK207 := n1_; have HB := n2_; clear n0_ n1_ n2_; (try clear hb); (try clear hb2); (try clear hk); (try clear hi); obtain ⟨hcz51_0, hcz51_1, hcz51_2, hcz51_3, hcz51_4, hcz51_5, hcz51_6, hcz51_7, hcz51_8, hcz51_9, hcz51_10, hcz51_11, hcz51_12, hcz51_13, hcz51_14, hcz51_15⟩ := Gv.c16 BK207.out; have hcz52_0 : w50.cell? ⟨gb204, 0, none⟩ = some (.int .i64 a0_0) := (blk_cell BK204.out 0).trans rfl; have hcz52_1 : w50.cell? ⟨gb204, 1, none⟩ = some (.slice (some ad206) l0_1.length c0_1) := (blk_cell BK204.out 1).trans rfl; have hfz52_0 := blk_frozen BK204.out 0; have hfz52_1 := blk_frozen BK204.out 1) | (go_at_call 54; (with_reducible refine (spec_l11Place.calls k2 a0_0 _ _ l0_1 _ _ _ _ _ _ _ _ _ _ _ _ _ _ t209 _ ?side1 ?side2 A47.out).mono ?_); (case side1 => repeat (first | exact (Kd.C_below HR0_1.out HB.out) | (with_reducible refine Kd.C_alloc ?_ _) | (with_reducible refine Kd.C_drewN ?_ _) | (with_reducible refine Kd.C_drew ?_))); (case side2 => exact HC0_1.out); rintro e w53 ⟨rfl, hb⟩; have n0_ := Gv.a0 (Gv.bb BK204.out hb); have n1_ := Gv.a0 (Gv.bb BK207.out hb); have n2_ := Gv.a0 (below_step Gv.bw hb); clear BK204; clear BK207; clear HB; have BK204 := n0_; have BK207 := n1_; have HB := n2_; clear n0_ n1_ n2_; (try clear hb); (try clear hb2); (try clear hk); (try clear hi)) | ((with_reducible refine Gv.gate_load (t := 75) rfl ?_); (try (refine gate_guard (by rfl) ?_; dsimp only)); refine wpList_load_row rfl 75 _ rfl gb207 rfl 75 _ _ _ (by first | exact Gv.kb0 BK207.out | exact Gv.kb1 (Gv.kb0 BK207.out)) Try.underlying75 rfl (by kernel_rfl) ?_))
               go_meet
               case rel => exact ⟨_, ((t209 != x4_2)), Gv.rq, H', ⟨by have := HJ1.out; have := HK2.out; first | omega | exact Nat.le_refl _⟩, ⟨by (with_reducible repeat (first | refine blk_drewN ?_ _ | refine blk_drew ?_ | refine blk_alloc ?_ _)); exact BK204.out⟩, ⟨by (with_reducible repeat (first | refine blk_drewN ?_ _ | refine blk_drew ?_ | refine blk_alloc ?_ _)); exact BK207.out⟩, ⟨Gv.bw⟩⟩
            ·replace c36 := Bool.eq_false_iff.mpr c36
             subst c36
             have H1 : (spec_TableOk.j2 k2 (l0_1.length : Int) x4_2 true a0_0 l0_1 true ((rd_T75 l0_1 x4_2).f1.f0) ((rd_T75 l0_1 x4_2).f1.f1.f0.f0) ((rd_T75 l0_1 x4_2).f1.f1.f0.f1) ((rd_T75 l0_1 x4_2).f1.f1.f0.f2) ((rd_T75 l0_1 x4_2).f1.f1.f0.f3) ((rd_T75 l0_1 x4_2).f1.f1.f0.f4) ((rd_T75 l0_1 x4_2).f1.f1.f1.f0) ((rd_T75 l0_1 x4_2).f1.f1.f1.f1) ((rd_T75 l0_1 x4_2).f1.f1.f1.f2) ((rd_T75 l0_1 x4_2).f1.f1.f1.f3) ((rd_T75 l0_1 x4_2).f1.f1.f1.f4) ((rd_T75 l0_1 x4_2).f1.f1.f2) ((rd_T75 l0_1 x4_2).f1.f1.f3) ((rd_T75 l0_1 x4_2).f1.f1.f4) ((rd_T75 l0_1 x4_2).f2)) = some r := by rw [if_neg (show ¬ (false = true) by decide)] at H; exact H
             clear H
             have H := H1
             clear H1
             have H' := Gv.a0 H
             clear H
             have hnb54 := NB207_204.out
             have hnc54 := NB204_207.out
             obtain ⟨hcz55_0, hcz55_1, hcz55_2, hcz55_3, hcz55_4, hcz55_5, hcz55_6, hcz55_7, hcz55_8, hcz55_9, hcz55_10, hcz55_11, hcz55_12, hcz55_13, hcz55_14, hcz55_15⟩ := Gv.c16 BK207.out
             go_wp2_with (first | ((with_reducible refine gate_callee (f := 13) rfl ?_); refine goesL_ (some 62) rfl rfl Try.func13 (by kernel_rfl) rfl #[.agg #[.int .i64 ((rd_T75 l0_1 x4_2).f1.f0), .int .i64 ((rd_T75 l0_1 x4_2).f1.f1.f0.f0), .int .i64 ((rd_T75 l0_1 x4_2).f1.f1.f0.f1), .int .i64 ((rd_T75 l0_1 x4_2).f1.f1.f0.f2), .int .i64 ((rd_T75 l0_1 x4_2).f1.f1.f0.f3), .int .i64 ((rd_T75 l0_1 x4_2).f1.f1.f0.f4), .int .i64 ((rd_T75 l0_1 x4_2).f1.f1.f1.f0), .int .i64 ((rd_T75 l0_1 x4_2).f1.f1.f1.f1), .int .i64 ((rd_T75 l0_1 x4_2).f1.f1.f1.f2), .int .i64 ((rd_T75 l0_1 x4_2).f1.f1.f1.f3), .int .i64 ((rd_T75 l0_1 x4_2).f1.f1.f1.f4), .int .i64 ((rd_T75 l0_1 x4_2).f1.f1.f2), .int .i64 ((rd_T75 l0_1 x4_2).f1.f1.f3), .int .i64 ((rd_T75 l0_1 x4_2).f1.f1.f4)]] rfl Gv.lm ?_; (with_reducible refine (spec_FlowKeyOk.calls _ _ _ _ _ _ _ _ _ _ _ _ _ _ false _ A35.out).mono ?_); rintro e w56 ⟨rfl, hb⟩; refine ⟨_, rfl, ?_⟩; have n0_ := Gv.a0 (blk_below (g := gb204) (o := .cells #[.int .i64 a0_0, .slice (some ad206) l0_1.length c0_1] 40 (0, 0)) Gv.bkf hb); have n1_ := Gv.a0 (blk_below (g := gb207) (o := .cells #[.bool true, .int .i64 ((rd_T75 l0_1 x4_2).f1.f0), .int .i64 ((rd_T75 l0_1 x4_2).f1.f1.f0.f0), .int .i64 ((rd_T75 l0_1 x4_2).f1.f1.f0.f1), .int .i64 ((rd_T75 l0_1 x4_2).f1.f1.f0.f2), .int .i64 ((rd_T75 l0_1 x4_2).f1.f1.f0.f3), .int .i64 ((rd_T75 l0_1 x4_2).f1.f1.f0.f4), .int .i64 ((rd_T75 l0_1 x4_2).f1.f1.f1.f0), .int .i64 ((rd_T75 l0_1 x4_2).f1.f1.f1.f1), .int .i64 ((rd_T75 l0_1 x4_2).f1.f1.f1.f2), .int .i64 ((rd_T75 l0_1 x4_2).f1.f1.f1.f3), .int .i64 ((rd_T75 l0_1 x4_2).f1.f1.f1.f4), .int .i64 ((rd_T75 l0_1 x4_2).f1.f1.f2), .int .i64 ((rd_T75 l0_1 x4_2).f1.f1.f3), .int .i64 ((rd_T75 l0_1 x4_2).f1.f1.f4), .int .i64 ((rd_T75 l0_1 x4_2).f2)] 75 (0, 0)) (by (with_reducible repeat (first | refine blk_drewN ?_ _ | refine blk_drew ?_ | refine blk_alloc ?_ _)); exact BK207.out) hb); have n2_ := Gv.a0 (below_step Gv.bw hb); clear BK204; clear BK207; clear HB; have BK204 := n0_; have BK207 := n1_; have HB := n2_; clear n0_ n1_ n2_; (try clear hb); (try clear hb2); (try clear hk); (try clear hi)) | ((with_reducible refine Gv.gate_load (t := 75) rfl ?_); (try (refine gate_guard (by rfl) ?_; dsimp only)); refine wpList_load_row rfl 75 _ rfl gb207 rfl 75 _ _ _ (by first | exact Gv.kb0 BK207.out | exact Gv.kb1 (Gv.kb0 BK207.out)) Try.underlying75 rfl (by kernel_rfl) ?_))
             go_meet
             case rel => exact ⟨_, (true), Gv.rq, H', ⟨by have := HJ1.out; have := HK2.out; first | omega | exact Nat.le_refl _⟩, ⟨by (with_reducible repeat (first | refine blk_drewN ?_ _ | refine blk_drew ?_ | refine blk_alloc ?_ _)); exact BK204.out⟩, ⟨by (with_reducible repeat (first | refine blk_drewN ?_ _ | refine blk_drew ?_ | refine blk_alloc ?_ _)); exact BK207.out⟩, ⟨Gv.bw⟩⟩
           case rest =>
            clear HC30
            try clear c1
            try clear c2
            try clear p2
            try clear q2
            try clear hx2
            try clear c3
            try clear c4
            try clear c5
            try clear c5b0
            try clear p6
            try clear c7
            try clear c7b0
            try clear c9
            try clear c9b0
            try clear c9b1
            try clear c11
            try clear c11b0
            try clear c11b1
            try clear c13
            try clear c13b0
            try clear c13b1
            try clear c15
            try clear c15b0
            try clear c15b1
            try clear c18
            try clear c20
            try clear c20b0
            try clear p20
            try clear q20
            try clear hx20
            try clear c24
            try clear c25
            try clear c25b0
            try clear c26
            try clear c26b0
            try clear c27
            try clear c27b0
            try clear q28
            try clear c29
            try clear c33
            try clear c36
            try clear c37
            try clear c37b0
            try clear c38
            try clear c42
            try clear c42b0
            try clear c43
            try clear c48
            try clear c53
            try clear c54
            try clear hcz10_0 hcz10_1
            try clear hcz12_0 hcz12_1
            try clear hcz14_0 hcz14_1
            try clear hcz16_0 hcz16_1
            try clear hcz17_0 hcz17_1
            try clear hcz21_0 hcz21_1
            try clear hcz23_0 hcz23_1
            try clear hcz31_0 hcz31_1
            try clear hcz34_0 hcz34_1
            try clear hcz34_10 hcz34_11 hcz34_12 hcz34_13 hcz34_14 hcz34_15
            try clear hcz34_2 hcz34_3 hcz34_4 hcz34_5 hcz34_6 hcz34_7 hcz34_8 hcz34_9
            try clear hcz39_0 hcz39_1
            try clear hcz39_10 hcz39_11 hcz39_12 hcz39_13 hcz39_14 hcz39_15
            try clear hcz39_2 hcz39_3 hcz39_4 hcz39_5 hcz39_6 hcz39_7 hcz39_8 hcz39_9
            try clear hcz41_0 hcz41_1
            try clear hcz41_10 hcz41_11 hcz41_12 hcz41_13 hcz41_14 hcz41_15
            try clear hcz41_2 hcz41_3 hcz41_4 hcz41_5 hcz41_6 hcz41_7 hcz41_8 hcz41_9
            try clear hcz44_0 hcz44_1
            try clear hcz44_10 hcz44_11 hcz44_12 hcz44_13 hcz44_14 hcz44_15
            try clear hcz44_2 hcz44_3 hcz44_4 hcz44_5 hcz44_6 hcz44_7 hcz44_8 hcz44_9
            try clear hcz46_0 hcz46_1
            try clear hcz46_10 hcz46_11 hcz46_12 hcz46_13 hcz46_14 hcz46_15
            try clear hcz46_2 hcz46_3 hcz46_4 hcz46_5 hcz46_6 hcz46_7 hcz46_8 hcz46_9
            try clear hcz49_0 hcz49_1
            try clear hcz49_10 hcz49_11 hcz49_12 hcz49_13 hcz49_14 hcz49_15
            try clear hcz49_2 hcz49_3 hcz49_4 hcz49_5 hcz49_6 hcz49_7 hcz49_8 hcz49_9
            try clear hcz4_0 hcz4_1
            try clear hcz51_0 hcz51_1
            try clear hcz51_10 hcz51_11 hcz51_12 hcz51_13 hcz51_14 hcz51_15
            try clear hcz51_2 hcz51_3 hcz51_4 hcz51_5 hcz51_6 hcz51_7 hcz51_8 hcz51_9
            try clear hcz52_0 hcz52_1
            try clear hcz55_0 hcz55_1
            try clear hcz55_10 hcz55_11 hcz55_12 hcz55_13 hcz55_14 hcz55_15
            try clear hcz55_2 hcz55_3 hcz55_4 hcz55_5 hcz55_6 hcz55_7 hcz55_8 hcz55_9
            try clear hcz6_0 hcz6_1
            try clear hcz8_0 hcz8_1
            try clear hfz10_0 hfz10_1
            try clear hfz12_0 hfz12_1
            try clear hfz14_0 hfz14_1
            try clear hfz16_0 hfz16_1
            try clear hfz17_0 hfz17_1
            try clear hfz21_0 hfz21_1
            try clear hfz23_0 hfz23_1
            try clear hfz31_0 hfz31_1
            try clear hfz34_0 hfz34_1
            try clear hfz34_10 hfz34_11 hfz34_12 hfz34_13 hfz34_14 hfz34_15
            try clear hfz34_2 hfz34_3 hfz34_4 hfz34_5 hfz34_6 hfz34_7 hfz34_8 hfz34_9
            try clear hfz39_0 hfz39_1
            try clear hfz39_10 hfz39_11 hfz39_12 hfz39_13 hfz39_14 hfz39_15
            try clear hfz39_2 hfz39_3 hfz39_4 hfz39_5 hfz39_6 hfz39_7 hfz39_8 hfz39_9
            try clear hfz41_0 hfz41_1
            try clear hfz41_10 hfz41_11 hfz41_12 hfz41_13 hfz41_14 hfz41_15
            try clear hfz41_2 hfz41_3 hfz41_4 hfz41_5 hfz41_6 hfz41_7 hfz41_8 hfz41_9
            try clear hfz44_0 hfz44_1
            try clear hfz44_10 hfz44_11 hfz44_12 hfz44_13 hfz44_14 hfz44_15
            try clear hfz44_2 hfz44_3 hfz44_4 hfz44_5 hfz44_6 hfz44_7 hfz44_8 hfz44_9
            try clear hfz46_0 hfz46_1
            try clear hfz46_10 hfz46_11 hfz46_12 hfz46_13 hfz46_14 hfz46_15
            try clear hfz46_2 hfz46_3 hfz46_4 hfz46_5 hfz46_6 hfz46_7 hfz46_8 hfz46_9
            try clear hfz49_0 hfz49_1
            try clear hfz49_10 hfz49_11 hfz49_12 hfz49_13 hfz49_14 hfz49_15
            try clear hfz49_2 hfz49_3 hfz49_4 hfz49_5 hfz49_6 hfz49_7 hfz49_8 hfz49_9
            try clear hfz4_0 hfz4_1
            try clear hfz51_0 hfz51_1
            try clear hfz51_10 hfz51_11 hfz51_12 hfz51_13 hfz51_14 hfz51_15
            try clear hfz51_2 hfz51_3 hfz51_4 hfz51_5 hfz51_6 hfz51_7 hfz51_8 hfz51_9
            try clear hfz52_0 hfz52_1
            try clear hfz55_0 hfz55_1
            try clear hfz55_10 hfz55_11 hfz55_12 hfz55_13 hfz55_14 hfz55_15
            try clear hfz55_2 hfz55_3 hfz55_4 hfz55_5 hfz55_6 hfz55_7 hfz55_8 hfz55_9
            try clear hfz6_0 hfz6_1
            try clear hfz8_0 hfz8_1
            try clear hx206_0
            try clear hx206_1
            try clear hx206_10
            try clear hx206_11
            try clear hx206_12
            try clear hx206_13
            try clear hx206_14
            try clear hx206_15
            try clear hx206_2
            try clear hx206_3
            try clear hx206_4
            try clear hx206_5
            try clear hx206_6
            try clear hx206_7
            try clear hx206_8
            try clear hx206_9
            try clear p2
            try clear p206
            try clear p6
            try clear q206
            obtain ⟨kq, x81_29, rfl, HA, HJ29, BK204, BK207, HB⟩ := hcut
            cases kq with
            | zero => exact absurd HA.out (by simp [spec_TableOk.j2])
            | succ kj29 =>
             have H := HA.out
             clear HA
             simp only [spec_TableOk.j2] at H
             by_cases c57 : x81_29 = true
             ·subst c57
              have H1 : (some false) = some r := by rw [if_pos rfl] at H; exact H
              clear H
              have H := H1
              clear H1
              obtain rfl := Option.some.inj H
              go_wp2_with (first | ((with_reducible refine Gv.gate_load (t := 75) rfl ?_); (try (refine gate_guard (by rfl) ?_; dsimp only)); refine wpList_load_row rfl 75 _ rfl gb207 rfl 75 _ _ _ (by first | exact Gv.kb0 BK207.out | exact Gv.kb1 (Gv.kb0 BK207.out)) Try.underlying75 rfl (by kernel_rfl) ?_))
              go_ret
              exact ⟨Gv.rt, Gv.bw⟩
             ·replace c57 := Bool.eq_false_iff.mpr c57
              subst c57
              have H1 : ((spec_l11Home.f kj29 a0_0 l0_1 ((rd_T75 l0_1 x4_2).f1.f0) ((rd_T75 l0_1 x4_2).f1.f1.f0.f0) ((rd_T75 l0_1 x4_2).f1.f1.f0.f1) ((rd_T75 l0_1 x4_2).f1.f1.f0.f2) ((rd_T75 l0_1 x4_2).f1.f1.f0.f3) ((rd_T75 l0_1 x4_2).f1.f1.f0.f4) ((rd_T75 l0_1 x4_2).f1.f1.f1.f0) ((rd_T75 l0_1 x4_2).f1.f1.f1.f1) ((rd_T75 l0_1 x4_2).f1.f1.f1.f2) ((rd_T75 l0_1 x4_2).f1.f1.f1.f3) ((rd_T75 l0_1 x4_2).f1.f1.f1.f4) ((rd_T75 l0_1 x4_2).f1.f1.f2) ((rd_T75 l0_1 x4_2).f1.f1.f3) ((rd_T75 l0_1 x4_2).f1.f1.f4)).bind fun t210 => (spec_TableOk.l1 kj29 (l0_1.length : Int) x4_2 t210 a0_0 l0_1)) = some r := by rw [if_neg (show ¬ (false = true) by decide)] at H; exact H
              clear H
              have H := H1
              clear H1
              replace H := Option.bind_eq_some_iff.mp H
              obtain ⟨t210, A580, H⟩ := H
              replace H : (spec_TableOk.l1 kj29 (l0_1.length : Int) x4_2 t210 a0_0 l0_1) = some r := H
              have A58 := Gv.a0 A580
              clear A580
              have H' := Gv.a0 H
              clear H
              have hnb59 := NB204_207.out
              have hnc59 := NB207_204.out
              have hcz60_0 : wc.cell? ⟨gb204, 0, none⟩ = some (.int .i64 a0_0) := (blk_cell BK204.out 0).trans rfl
              have hcz60_1 : wc.cell? ⟨gb204, 1, none⟩ = some (.slice (some ad206) l0_1.length c0_1) := (blk_cell BK204.out 1).trans rfl
              have hfz60_0 := blk_frozen BK204.out 0
              have hfz60_1 := blk_frozen BK204.out 1
              obtain ⟨hcz61_0, hcz61_1, hcz61_2, hcz61_3, hcz61_4, hcz61_5, hcz61_6, hcz61_7, hcz61_8, hcz61_9, hcz61_10, hcz61_11, hcz61_12, hcz61_13, hcz61_14, hcz61_15⟩ := Gv.c16 BK207.out
              go_wp2_with (first | ((with_reducible refine gate_callee (f := 55) rfl ?_); refine goesL_ (some 85) rfl rfl Try.func55 (by kernel_rfl) rfl #[.agg #[.int .i64 a0_0, .slice (some ad206) l0_1.length c0_1], .agg #[.int .i64 ((rd_T75 l0_1 x4_2).f1.f0), .int .i64 ((rd_T75 l0_1 x4_2).f1.f1.f0.f0), .int .i64 ((rd_T75 l0_1 x4_2).f1.f1.f0.f1), .int .i64 ((rd_T75 l0_1 x4_2).f1.f1.f0.f2), .int .i64 ((rd_T75 l0_1 x4_2).f1.f1.f0.f3), .int .i64 ((rd_T75 l0_1 x4_2).f1.f1.f0.f4), .int .i64 ((rd_T75 l0_1 x4_2).f1.f1.f1.f0), .int .i64 ((rd_T75 l0_1 x4_2).f1.f1.f1.f1), .int .i64 ((rd_T75 l0_1 x4_2).f1.f1.f1.f2), .int .i64 ((rd_T75 l0_1 x4_2).f1.f1.f1.f3), .int .i64 ((rd_T75 l0_1 x4_2).f1.f1.f1.f4), .int .i64 ((rd_T75 l0_1 x4_2).f1.f1.f2), .int .i64 ((rd_T75 l0_1 x4_2).f1.f1.f3), .int .i64 ((rd_T75 l0_1 x4_2).f1.f1.f4)]] rfl Gv.lm ?_; (with_reducible refine (spec_l11Home.calls kj29 a0_0 _ _ l0_1 _ _ _ _ _ _ _ _ _ _ _ _ _ _ t210 _ ?side1 ?side2 A58.out).mono ?_); (case side1 => repeat (first | exact (Kd.C_below HR0_1.out HB.out) | (with_reducible refine Kd.C_alloc ?_ _) | (with_reducible refine Kd.C_drewN ?_ _) | (with_reducible refine Kd.C_drew ?_))); (case side2 => exact HC0_1.out); rintro e w62 ⟨rfl, hb⟩; refine ⟨_, rfl, ?_⟩; have n0_ := Gv.a0 (Gv.bb BK204.out hb); have n1_ := Gv.a0 (Gv.bb BK207.out hb); have n2_ := Gv.a0 (below_step Gv.bw hb); clear BK204; clear BK207; clear HB; have BK204 := n0_; have BK207 := n1_; have HB := n2_; clear n0_ n1_ n2_; (try clear hb); (try clear hb2); (try clear hk); (try clear hi)) | ((with_reducible refine Gv.gate_load (t := 75) rfl ?_); (try (refine gate_guard (by rfl) ?_; dsimp only)); refine wpList_load_row rfl 75 _ rfl gb207 rfl 75 _ _ _ (by first | exact Gv.kb0 BK207.out | exact Gv.kb1 (Gv.kb0 BK207.out)) Try.underlying75 rfl (by kernel_rfl) ?_))
              go_loopg [6] kj29 (fun kq v6 w' => ∃ (x6_4 : Int), v6 = .int .i64 x6_4 ∧ Aside0 (spec_TableOk.l1 kq (l0_1.length : Int) x4_2 x6_4 a0_0 l0_1 = some r) ∧ Aside0 (kq ≤ kj29) ∧ Aside0 (w'.heap[gb204]? = some (.cells #[.int .i64 a0_0, (.slice (some ad206) l0_1.length c0_1)] 40 (0, 0))) ∧ Aside0 (w'.heap[gb207]? = some (.cells #[.bool true, .int .i64 ((rd_T75 l0_1 x4_2).f1.f0), .int .i64 ((rd_T75 l0_1 x4_2).f1.f1.f0.f0), .int .i64 ((rd_T75 l0_1 x4_2).f1.f1.f0.f1), .int .i64 ((rd_T75 l0_1 x4_2).f1.f1.f0.f2), .int .i64 ((rd_T75 l0_1 x4_2).f1.f1.f0.f3), .int .i64 ((rd_T75 l0_1 x4_2).f1.f1.f0.f4), .int .i64 ((rd_T75 l0_1 x4_2).f1.f1.f1.f0), .int .i64 ((rd_T75 l0_1 x4_2).f1.f1.f1.f1), .int .i64 ((rd_T75 l0_1 x4_2).f1.f1.f1.f2), .int .i64 ((rd_T75 l0_1 x4_2).f1.f1.f1.f3), .int .i64 ((rd_T75 l0_1 x4_2).f1.f1.f1.f4), .int .i64 ((rd_T75 l0_1 x4_2).f1.f1.f2), .int .i64 ((rd_T75 l0_1 x4_2).f1.f1.f3), .int .i64 ((rd_T75 l0_1 x4_2).f1.f1.f4), .int .i64 ((rd_T75 l0_1 x4_2).f2)] 75 (0, 0))) ∧ Aside0 (Below w.heap.size w w'))
              case atStart => exact ⟨(t210), Gv.rq, H', ⟨Nat.le_refl _⟩, ⟨by (with_reducible repeat (first | refine blk_drewN ?_ _ | refine blk_drew ?_ | refine blk_alloc ?_ _)); exact BK204.out⟩, ⟨by (with_reducible repeat (first | refine blk_drewN ?_ _ | refine blk_drew ?_ | refine blk_alloc ?_ _)); exact BK207.out⟩, ⟨Gv.bw⟩⟩
              case round =>
               clear H'
               try clear c1
               try clear c2
               try clear p2
               try clear q2
               try clear hx2
               try clear c3
               try clear c4
               try clear c5
               try clear c5b0
               try clear p6
               try clear c7
               try clear c7b0
               try clear c9
               try clear c9b0
               try clear c9b1
               try clear c11
               try clear c11b0
               try clear c11b1
               try clear c13
               try clear c13b0
               try clear c13b1
               try clear c15
               try clear c15b0
               try clear c15b1
               try clear c18
               try clear c20
               try clear c20b0
               try clear p20
               try clear q20
               try clear hx20
               try clear c24
               try clear c25
               try clear c25b0
               try clear c26
               try clear c26b0
               try clear c27
               try clear c27b0
               try clear q28
               try clear c29
               try clear c33
               try clear c36
               try clear c37
               try clear c37b0
               try clear c38
               try clear c42
               try clear c42b0
               try clear c43
               try clear c48
               try clear c53
               try clear c54
               try clear c55
               try clear c57
               try clear c59
               try clear hcz10_0 hcz10_1
               try clear hcz12_0 hcz12_1
               try clear hcz14_0 hcz14_1
               try clear hcz16_0 hcz16_1
               try clear hcz17_0 hcz17_1
               try clear hcz21_0 hcz21_1
               try clear hcz23_0 hcz23_1
               try clear hcz31_0 hcz31_1
               try clear hcz34_0 hcz34_1
               try clear hcz34_10 hcz34_11 hcz34_12 hcz34_13 hcz34_14 hcz34_15
               try clear hcz34_2 hcz34_3 hcz34_4 hcz34_5 hcz34_6 hcz34_7 hcz34_8 hcz34_9
               try clear hcz39_0 hcz39_1
               try clear hcz39_10 hcz39_11 hcz39_12 hcz39_13 hcz39_14 hcz39_15
               try clear hcz39_2 hcz39_3 hcz39_4 hcz39_5 hcz39_6 hcz39_7 hcz39_8 hcz39_9
               try clear hcz41_0 hcz41_1
               try clear hcz41_10 hcz41_11 hcz41_12 hcz41_13 hcz41_14 hcz41_15
               try clear hcz41_2 hcz41_3 hcz41_4 hcz41_5 hcz41_6 hcz41_7 hcz41_8 hcz41_9
               try clear hcz44_0 hcz44_1
               try clear hcz44_10 hcz44_11 hcz44_12 hcz44_13 hcz44_14 hcz44_15
               try clear hcz44_2 hcz44_3 hcz44_4 hcz44_5 hcz44_6 hcz44_7 hcz44_8 hcz44_9
               try clear hcz46_0 hcz46_1
               try clear hcz46_10 hcz46_11 hcz46_12 hcz46_13 hcz46_14 hcz46_15
               try clear hcz46_2 hcz46_3 hcz46_4 hcz46_5 hcz46_6 hcz46_7 hcz46_8 hcz46_9
               try clear hcz49_0 hcz49_1
               try clear hcz49_10 hcz49_11 hcz49_12 hcz49_13 hcz49_14 hcz49_15
               try clear hcz49_2 hcz49_3 hcz49_4 hcz49_5 hcz49_6 hcz49_7 hcz49_8 hcz49_9
               try clear hcz4_0 hcz4_1
               try clear hcz51_0 hcz51_1
               try clear hcz51_10 hcz51_11 hcz51_12 hcz51_13 hcz51_14 hcz51_15
               try clear hcz51_2 hcz51_3 hcz51_4 hcz51_5 hcz51_6 hcz51_7 hcz51_8 hcz51_9
               try clear hcz52_0 hcz52_1
               try clear hcz55_0 hcz55_1
               try clear hcz55_10 hcz55_11 hcz55_12 hcz55_13 hcz55_14 hcz55_15
               try clear hcz55_2 hcz55_3 hcz55_4 hcz55_5 hcz55_6 hcz55_7 hcz55_8 hcz55_9
               try clear hcz60_0 hcz60_1
               try clear hcz61_0 hcz61_1
               try clear hcz61_10 hcz61_11 hcz61_12 hcz61_13 hcz61_14 hcz61_15
               try clear hcz61_2 hcz61_3 hcz61_4 hcz61_5 hcz61_6 hcz61_7 hcz61_8 hcz61_9
               try clear hcz6_0 hcz6_1
               try clear hcz8_0 hcz8_1
               try clear hfz10_0 hfz10_1
               try clear hfz12_0 hfz12_1
               try clear hfz14_0 hfz14_1
               try clear hfz16_0 hfz16_1
               try clear hfz17_0 hfz17_1
               try clear hfz21_0 hfz21_1
               try clear hfz23_0 hfz23_1
               try clear hfz31_0 hfz31_1
               try clear hfz34_0 hfz34_1
               try clear hfz34_10 hfz34_11 hfz34_12 hfz34_13 hfz34_14 hfz34_15
               try clear hfz34_2 hfz34_3 hfz34_4 hfz34_5 hfz34_6 hfz34_7 hfz34_8 hfz34_9
               try clear hfz39_0 hfz39_1
               try clear hfz39_10 hfz39_11 hfz39_12 hfz39_13 hfz39_14 hfz39_15
               try clear hfz39_2 hfz39_3 hfz39_4 hfz39_5 hfz39_6 hfz39_7 hfz39_8 hfz39_9
               try clear hfz41_0 hfz41_1
               try clear hfz41_10 hfz41_11 hfz41_12 hfz41_13 hfz41_14 hfz41_15
               try clear hfz41_2 hfz41_3 hfz41_4 hfz41_5 hfz41_6 hfz41_7 hfz41_8 hfz41_9
               try clear hfz44_0 hfz44_1
               try clear hfz44_10 hfz44_11 hfz44_12 hfz44_13 hfz44_14 hfz44_15
               try clear hfz44_2 hfz44_3 hfz44_4 hfz44_5 hfz44_6 hfz44_7 hfz44_8 hfz44_9
               try clear hfz46_0 hfz46_1
               try clear hfz46_10 hfz46_11 hfz46_12 hfz46_13 hfz46_14 hfz46_15
               try clear hfz46_2 hfz46_3 hfz46_4 hfz46_5 hfz46_6 hfz46_7 hfz46_8 hfz46_9
               try clear hfz49_0 hfz49_1
               try clear hfz49_10 hfz49_11 hfz49_12 hfz49_13 hfz49_14 hfz49_15
               try clear hfz49_2 hfz49_3 hfz49_4 hfz49_5 hfz49_6 hfz49_7 hfz49_8 hfz49_9
               try clear hfz4_0 hfz4_1
               try clear hfz51_0 hfz51_1
               try clear hfz51_10 hfz51_11 hfz51_12 hfz51_13 hfz51_14 hfz51_15
               try clear hfz51_2 hfz51_3 hfz51_4 hfz51_5 hfz51_6 hfz51_7 hfz51_8 hfz51_9
               try clear hfz52_0 hfz52_1
               try clear hfz55_0 hfz55_1
               try clear hfz55_10 hfz55_11 hfz55_12 hfz55_13 hfz55_14 hfz55_15
               try clear hfz55_2 hfz55_3 hfz55_4 hfz55_5 hfz55_6 hfz55_7 hfz55_8 hfz55_9
               try clear hfz60_0 hfz60_1
               try clear hfz61_0 hfz61_1
               try clear hfz61_10 hfz61_11 hfz61_12 hfz61_13 hfz61_14 hfz61_15
               try clear hfz61_2 hfz61_3 hfz61_4 hfz61_5 hfz61_6 hfz61_7 hfz61_8 hfz61_9
               try clear hfz6_0 hfz6_1
               try clear hfz8_0 hfz8_1
               try clear hx206_0
               try clear hx206_1
               try clear hx206_10
               try clear hx206_11
               try clear hx206_12
               try clear hx206_13
               try clear hx206_14
               try clear hx206_15
               try clear hx206_2
               try clear hx206_3
               try clear hx206_4
               try clear hx206_5
               try clear hx206_6
               try clear hx206_7
               try clear hx206_8
               try clear hx206_9
               try clear p2
               try clear p20
               try clear p206
               try clear p6
               try clear q2
               try clear q20
               try clear q206
               try clear q28
               obtain ⟨x6_4, rfl, HA, HK4, BK204, BK207, HB⟩ := hrel
               cases gk with
               | zero => exact absurd HA.out (by simp [spec_TableOk.l1])
               | succ k4 =>
                have H := HA.out
                clear HA
                simp only [spec_TableOk.l1] at H
                by_cases c63 : x6_4 = x4_2
                ·rw [if_pos c63] at H
                 have c63b0 : (x6_4 == x4_2) = true := beq_iff_eq.mpr c63
                 have c63b1 : (x6_4 != x4_2) = false := bne_eq_false_iff_eq.mpr c63
                 clear c63
                 have H' := Gv.a0 H
                 clear H
                 go_wp2_with (first | ((with_reducible refine Gv.gate_load (t := 75) rfl ?_); (try (refine gate_guard (by rfl) ?_; dsimp only)); refine wpList_load_row rfl 75 _ rfl gb207 rfl 75 _ _ _ (by first | exact Gv.kb0 BK207.out | exact Gv.kb1 (Gv.kb0 BK207.out)) Try.underlying75 rfl (by kernel_rfl) ?_))
                 go_roundg k4
                 case measure => have := HJ1.out; have := HK2.out; have := HJ29.out; have := HK4.out; omega
                 case rel => exact ⟨(wrap64 (x4_2 + 1)), Gv.rq, H', ⟨by have := HJ1.out; have := HK2.out; have := HJ29.out; have := HK4.out; omega⟩, ⟨by (with_reducible repeat (first | refine blk_drewN ?_ _ | refine blk_drew ?_ | refine blk_alloc ?_ _)); exact BK204.out⟩, ⟨Gv.bw⟩⟩
                ·rw [if_neg c63] at H
                 have c63b0 : (x6_4 == x4_2) = false := beq_eq_false_iff_ne.mpr c63
                 have c63b1 : (x6_4 != x4_2) = true := bne_iff_ne.mpr c63
                 by_cases c64 : 0 ≤ x6_4
                 ·rw [if_pos c64] at H
                  have c64b0 : decide (0 ≤ x6_4) = true := decide_eq_true c64
                  clear c64
                  by_cases c65 : x6_4 < (l0_1.length : Int)
                  ·rw [if_pos c65] at H
                   have c65b0 : decide (x6_4 < (l0_1.length : Int)) = true := decide_eq_true c65
                   clear c65
                   obtain ⟨bq66, hbq66⟩ : ∃ b_ : Bool, b_ = ((rd_T75 l0_1 x6_4).f0) := ⟨_, rfl⟩
                   replace H : (if (bq66 = true) then (if (l0_1.length : Int) = 0 then (none) else (spec_TableOk.l1 k4 (l0_1.length : Int) x4_2 (Int.tmod (wrap64 (x6_4 + 1)) (l0_1.length : Int)) a0_0 l0_1)) else (some false)) = some r := by rw [← hbq66] at H; exact H
                   have Nbq66 := Gv.a0 hbq66
                   clear hbq66
                   by_cases c67 : (bq66 = true)
                   ·subst c67
                    have H1 : (if (l0_1.length : Int) = 0 then (none) else (spec_TableOk.l1 k4 (l0_1.length : Int) x4_2 (Int.tmod (wrap64 (x6_4 + 1)) (l0_1.length : Int)) a0_0 l0_1)) = some r := by rw [if_pos rfl] at H; exact H
                    clear H
                    have H := H1
                    clear H1
                    by_cases c68 : (l0_1.length : Int) = 0
                    ·rw [if_pos c68] at H
                     exact absurd H (by simp)
                    ·rw [if_neg c68] at H
                     have c68b0 : ((l0_1.length : Int) == 0) = false := beq_eq_false_iff_ne.mpr c68
                     have c68b1 : ((l0_1.length : Int) != 0) = true := bne_iff_ne.mpr c68
                     have c68b2 : ¬ (l0_1 = []) := fun h_ => c68 (by rw [h_]; rfl)
                     have H' := Gv.a0 H
                     clear H
                     have hnb69 := NB204_207.out
                     have hnc69 := NB207_204.out
                     have hcz70_0 : wr.cell? ⟨gb204, 0, none⟩ = some (.int .i64 a0_0) := (blk_cell BK204.out 0).trans rfl
                     have hcz70_1 : wr.cell? ⟨gb204, 1, none⟩ = some (.slice (some ad206) l0_1.length c0_1) := (blk_cell BK204.out 1).trans rfl
                     have hfz70_0 := blk_frozen BK204.out 0
                     have hfz70_1 := blk_frozen BK204.out 1
                     have p211 : 0 ≤ (x6_4 : Int) := of_decide_eq_true (by first | (with_reducible assumption) | assumption)
                     have q211 : x6_4 < (l0_1.length : Int) := of_decide_eq_true (by first | (with_reducible assumption) | assumption)
                     obtain ⟨ad211, e211, hx211_0, _, _, _, _, _, _, _, _, _, _, _, _, _, _, _⟩ := at_T75 HR0_1.out x6_4 p211 q211
                     (try rw [← Nbq28.out] at hx211_0)
                     (try rw [← Nbq66.out] at hx211_0)
                     obtain rfl : ad206 = ad211 := (by injection e211)
                     replace hx211_0 := Gv.bx HB.out hx211_0
                     replace p211 := eq_true p211
                     replace q211 := eq_true q211
                     go_wp2_with (first | ((with_reducible refine Gv.gate_load (t := 75) rfl ?_); (try (refine gate_guard (by rfl) ?_; dsimp only)); refine wpList_load_row rfl 75 _ rfl gb207 rfl 75 _ _ _ (by first | exact Gv.kb0 BK207.out | exact Gv.kb1 (Gv.kb0 BK207.out)) Try.underlying75 rfl (by kernel_rfl) ?_))
                     go_roundg k4
                     case measure => have := HJ1.out; have := HK2.out; have := HJ29.out; have := HK4.out; omega
                     case rel => exact ⟨(Int.tmod (wrap64 (x6_4 + 1)) (l0_1.length : Int)), Gv.rq, H', ⟨by have := HJ1.out; have := HK2.out; have := HJ29.out; have := HK4.out; omega⟩, ⟨by (with_reducible repeat (first | refine blk_drewN ?_ _ | refine blk_drew ?_ | refine blk_alloc ?_ _)); exact BK204.out⟩, ⟨by (with_reducible repeat (first | refine blk_drewN ?_ _ | refine blk_drew ?_ | refine blk_alloc ?_ _)); exact BK207.out⟩, ⟨Gv.bw⟩⟩
                   ·replace c67 := Bool.eq_false_iff.mpr c67
                    subst c67
                    have H1 : (some false) = some r := by rw [if_neg (show ¬ (false = true) by decide)] at H; exact H
                    clear H
                    have H := H1
                    clear H1
                    obtain rfl := Option.some.inj H
                    have hnb71 := NB204_207.out
                    have hnc71 := NB207_204.out
                    have hcz72_0 : wr.cell? ⟨gb204, 0, none⟩ = some (.int .i64 a0_0) := (blk_cell BK204.out 0).trans rfl
                    have hcz72_1 : wr.cell? ⟨gb204, 1, none⟩ = some (.slice (some ad206) l0_1.length c0_1) := (blk_cell BK204.out 1).trans rfl
                    have hfz72_0 := blk_frozen BK204.out 0
                    have hfz72_1 := blk_frozen BK204.out 1
                    have p211 : 0 ≤ (x6_4 : Int) := of_decide_eq_true (by first | (with_reducible assumption) | assumption)
                    have q211 : x6_4 < (l0_1.length : Int) := of_decide_eq_true (by first | (with_reducible assumption) | assumption)
                    obtain ⟨ad211, e211, hx211_0, _, _, _, _, _, _, _, _, _, _, _, _, _, _, _⟩ := at_T75 HR0_1.out x6_4 p211 q211
                    (try rw [← Nbq28.out] at hx211_0)
                    (try rw [← Nbq66.out] at hx211_0)
                    obtain rfl : ad206 = ad211 := (by injection e211)
                    replace hx211_0 := Gv.bx HB.out hx211_0
                    replace p211 := eq_true p211
                    replace q211 := eq_true q211
                    go_wp2_with (first | ((with_reducible refine Gv.gate_load (t := 75) rfl ?_); (try (refine gate_guard (by rfl) ?_; dsimp only)); refine wpList_load_row rfl 75 _ rfl gb207 rfl 75 _ _ _ (by first | exact Gv.kb0 BK207.out | exact Gv.kb1 (Gv.kb0 BK207.out)) Try.underlying75 rfl (by kernel_rfl) ?_))
                    go_ret
                    exact ⟨Gv.rt, Gv.bw⟩
                  ·rw [if_neg c65] at H
                   exact absurd H (by simp)
                 ·rw [if_neg c64] at H
                  exact absurd H (by simp)
          ·replace c29 := Bool.eq_false_iff.mpr c29
           subst c29
           have H1 : (if (((!(((rd_T75 l0_1 x4_2).f1.f0) == 0) || (((!(((rd_T75 l0_1 x4_2).f1.f1.f0.f0) == 0) || (!(((rd_T75 l0_1 x4_2).f1.f1.f0.f1) == 0) || (!(((rd_T75 l0_1 x4_2).f1.f1.f0.f2) == 0) || (!(((rd_T75 l0_1 x4_2).f1.f1.f0.f3) == 0) || (!(((rd_T75 l0_1 x4_2).f1.f1.f0.f4) == 0)))))) || ((!(((rd_T75 l0_1 x4_2).f1.f1.f1.f0) == 0) || (!(((rd_T75 l0_1 x4_2).f1.f1.f1.f1) == 0) || (!(((rd_T75 l0_1 x4_2).f1.f1.f1.f2) == 0) || (!(((rd_T75 l0_1 x4_2).f1.f1.f1.f3) == 0) || (!(((rd_T75 l0_1 x4_2).f1.f1.f1.f4) == 0)))))) || (!(((rd_T75 l0_1 x4_2).f1.f1.f2) == 0) || (!(((rd_T75 l0_1 x4_2).f1.f1.f3) == 0) || (!(((rd_T75 l0_1 x4_2).f1.f1.f4) == 0)))))))) || (!(((rd_T75 l0_1 x4_2).f2) == 0)))) = true then (some false) else (spec_TableOk.l0 k2 (l0_1.length : Int) (wrap64 (x4_2 + 1)) a0_0 l0_1)) = some r := by rw [if_neg (show ¬ (false = true) by decide)] at H; exact H
           clear H
           have H := H1
           clear H1
           by_cases c73 : (((!(((rd_T75 l0_1 x4_2).f1.f0) == 0) || (((!(((rd_T75 l0_1 x4_2).f1.f1.f0.f0) == 0) || (!(((rd_T75 l0_1 x4_2).f1.f1.f0.f1) == 0) || (!(((rd_T75 l0_1 x4_2).f1.f1.f0.f2) == 0) || (!(((rd_T75 l0_1 x4_2).f1.f1.f0.f3) == 0) || (!(((rd_T75 l0_1 x4_2).f1.f1.f0.f4) == 0)))))) || ((!(((rd_T75 l0_1 x4_2).f1.f1.f1.f0) == 0) || (!(((rd_T75 l0_1 x4_2).f1.f1.f1.f1) == 0) || (!(((rd_T75 l0_1 x4_2).f1.f1.f1.f2) == 0) || (!(((rd_T75 l0_1 x4_2).f1.f1.f1.f3) == 0) || (!(((rd_T75 l0_1 x4_2).f1.f1.f1.f4) == 0)))))) || (!(((rd_T75 l0_1 x4_2).f1.f1.f2) == 0) || (!(((rd_T75 l0_1 x4_2).f1.f1.f3) == 0) || (!(((rd_T75 l0_1 x4_2).f1.f1.f4) == 0)))))))) || (!(((rd_T75 l0_1 x4_2).f2) == 0)))) = true
           ·rw [if_pos c73] at H
            have c73b0 : (((!(((rd_T75 l0_1 x4_2).f1.f0) == 0) || (((!(((rd_T75 l0_1 x4_2).f1.f1.f0.f0) == 0) || (!(((rd_T75 l0_1 x4_2).f1.f1.f0.f1) == 0) || (!(((rd_T75 l0_1 x4_2).f1.f1.f0.f2) == 0) || (!(((rd_T75 l0_1 x4_2).f1.f1.f0.f3) == 0) || (!(((rd_T75 l0_1 x4_2).f1.f1.f0.f4) == 0)))))) || ((!(((rd_T75 l0_1 x4_2).f1.f1.f1.f0) == 0) || (!(((rd_T75 l0_1 x4_2).f1.f1.f1.f1) == 0) || (!(((rd_T75 l0_1 x4_2).f1.f1.f1.f2) == 0) || (!(((rd_T75 l0_1 x4_2).f1.f1.f1.f3) == 0) || (!(((rd_T75 l0_1 x4_2).f1.f1.f1.f4) == 0)))))) || (!(((rd_T75 l0_1 x4_2).f1.f1.f2) == 0) || (!(((rd_T75 l0_1 x4_2).f1.f1.f3) == 0) || (!(((rd_T75 l0_1 x4_2).f1.f1.f4) == 0)))))))) || (!(((rd_T75 l0_1 x4_2).f2) == 0)))) = true := c73
            clear c73
            obtain rfl := Option.some.inj H
            have hcz74_0 : wr.cell? ⟨gb204, 0, none⟩ = some (.int .i64 a0_0) := (blk_cell BK204.out 0).trans rfl
            have hcz74_1 : wr.cell? ⟨gb204, 1, none⟩ = some (.slice A0_1 l0_1.length c0_1) := (blk_cell BK204.out 1).trans rfl
            have hfz74_0 := blk_frozen BK204.out 0
            have hfz74_1 := blk_frozen BK204.out 1
            have p206 : 0 ≤ (x4_2 : Int) := of_decide_eq_true (by first | (with_reducible assumption) | assumption)
            have q206 : x4_2 < (l0_1.length : Int) := of_decide_eq_true (by first | (with_reducible assumption) | assumption)
            obtain ⟨ad206, e206, hx206_0, hx206_1, hx206_2, hx206_3, hx206_4, hx206_5, hx206_6, hx206_7, hx206_8, hx206_9, hx206_10, hx206_11, hx206_12, hx206_13, hx206_14, hx206_15⟩ := at_T75 HR0_1.out x4_2 p206 q206
            (try rw [← Nbq28.out] at hx206_0)
            cases e206
            replace hx206_0 := Gv.bx HB.out hx206_0
            replace hx206_1 := Gv.bx HB.out hx206_1
            replace hx206_2 := Gv.bx HB.out hx206_2
            replace hx206_3 := Gv.bx HB.out hx206_3
            replace hx206_4 := Gv.bx HB.out hx206_4
            replace hx206_5 := Gv.bx HB.out hx206_5
            replace hx206_6 := Gv.bx HB.out hx206_6
            replace hx206_7 := Gv.bx HB.out hx206_7
            replace hx206_8 := Gv.bx HB.out hx206_8
            replace hx206_9 := Gv.bx HB.out hx206_9
            replace hx206_10 := Gv.bx HB.out hx206_10
            replace hx206_11 := Gv.bx HB.out hx206_11
            replace hx206_12 := Gv.bx HB.out hx206_12
            replace hx206_13 := Gv.bx HB.out hx206_13
            replace hx206_14 := Gv.bx HB.out hx206_14
            replace hx206_15 := Gv.bx HB.out hx206_15
            replace p206 := eq_true p206
            replace q206 := eq_true q206
            go_wp2_with (first | ((with_reducible refine gate_dst (N := 5) rfl ?_); refine box_event ?hg (N := 5) ?hd (cs := #[.bool false, .int .i64 0, .int .i64 0, .int .i64 0, .int .i64 0, .int .i64 0, .int .i64 0, .int .i64 0, .int .i64 0, .int .i64 0, .int .i64 0, .int .i64 0, .int .i64 0, .int .i64 0, .int .i64 0, .int .i64 0]) (t := 75) ?hr ?_; (case hd => rfl); (case hg => rfl); (case hr => first | (go_simp; done) | (go_simp; rfl)); intro gb207 hg w75 hbox hb; have n0_ := Gv.a0 (Gv.bb BK204.out hb); have n1_ := Gv.a0 (below_step Gv.bw hb); have n2_ := Gv.a0 (hbox); have n3_ := Gv.a0 ((Gv.ble hg Gv.bw : w.heap.size ≤ gb207)); have n4_ := Gv.a0 ((Gv.ble hg Gv.bw : w.heap.size ≤ gb207)); have n5_ := Gv.a0 ((Gv.nlt hg (Gv.kb BK204.out) : gb204 ≠ gb207)); have n6_ := Gv.a0 ((Gv.ngt hg (Gv.kb BK204.out) : gb207 ≠ gb204)); clear BK204; clear HB; have BK204 := n0_; have HB := n1_; have BK207 := n2_; have GW207 := n3_; have GE207 := n4_; have NB204_207 := n5_; have NB207_204 := n6_; clear n0_ n1_ n2_ n3_ n4_ n5_ n6_; clear hb hbox hg; have hnb76 := NB207_204.out; have hnc76 := NB204_207.out; obtain ⟨hcz77_0, hcz77_1, hcz77_2, hcz77_3, hcz77_4, hcz77_5, hcz77_6, hcz77_7, hcz77_8, hcz77_9, hcz77_10, hcz77_11, hcz77_12, hcz77_13, hcz77_14, hcz77_15⟩ := Gv.c16 BK207.out) | ((with_reducible refine gate_store (t := 75) (p := 5) rfl ?_); refine Gv.store_event rfl rfl rfl rfl rfl (Gv.kb BK207.out) (by kernel_rfl) rfl (by simp; and_intros <;> rfl) ?_; intro w75s hbox hoth hbel; have n0_ := Gv.a0 (hbox); have n1_ := Gv.a0 (hbel w Gv.bw GE207.out); have n2_ := Gv.a0 ((hoth gb204 NB204_207.out).trans (Gv.kb BK204.out)); clear BK207 HB BK204; have BK207 := n0_; have HB := n1_; have BK204 := n2_; clear n0_ n1_ n2_ hbox hoth hbel; (try clear hcz77_0 hcz77_1 hcz77_2 hcz77_3 hcz77_4 hcz77_5 hcz77_6 hcz77_7 hcz77_8 hcz77_9 hcz77_10 hcz77_11 hcz77_12 hcz77_13 hcz77_14 hcz77_15 hfz77_0 hfz77_1 hfz77_2 hfz77_3 hfz77_4 hfz77_5 hfz77_6 hfz77_7 hfz77_8 hfz77_9 hfz77_10 hfz77_11 hfz77_12 hfz77_13 hfz77_14 hfz77_15); obtain ⟨hcz77_0, hcz77_1, hcz77_2, hcz77_3, hcz77_4, hcz77_5, hcz77_6, hcz77_7, hcz77_8, hcz77_9, hcz77_10, hcz77_11, hcz77_12, hcz77_13, hcz77_14, hcz77_15⟩ := Gv.c16 BK207.out) | ((with_reducible refine Gv.gate_load (t := 75) rfl ?_); (try (refine gate_guard (by rfl) ?_; dsimp only)); refine wpList_load_row rfl 75 _ rfl gb207 rfl 75 _ _ _ (by first | exact Gv.kb0 BK207.out | exact Gv.kb1 (Gv.kb0 BK207.out)) Try.underlying75 rfl (by kernel_rfl) ?_) | ((with_reducible refine Gv.gate_load (t := 75) rfl ?_); refine Gv.load_event (cs := [_, _, _, _, _, _, _, _, _, _, _, _, _, _, _, _]) rfl rfl rfl ⟨hx206_0, hx206_1, hx206_2, hx206_3, hx206_4, hx206_5, hx206_6, hx206_7, hx206_8, hx206_9, hx206_10, hx206_11, hx206_12, hx206_13, hx206_14, hx206_15, trivial⟩ Try.underlying75 rfl (by kernel_rfl) ?_))
            go_ret
            exact ⟨Gv.rt, Gv.bw⟩
           ·rw [if_neg c73] at H
            have c73b0 : (((!(((rd_T75 l0_1 x4_2).f1.f0) == 0) || (((!(((rd_T75 l0_1 x4_2).f1.f1.f0.f0) == 0) || (!(((rd_T75 l0_1 x4_2).f1.f1.f0.f1) == 0) || (!(((rd_T75 l0_1 x4_2).f1.f1.f0.f2) == 0) || (!(((rd_T75 l0_1 x4_2).f1.f1.f0.f3) == 0) || (!(((rd_T75 l0_1 x4_2).f1.f1.f0.f4) == 0)))))) || ((!(((rd_T75 l0_1 x4_2).f1.f1.f1.f0) == 0) || (!(((rd_T75 l0_1 x4_2).f1.f1.f1.f1) == 0) || (!(((rd_T75 l0_1 x4_2).f1.f1.f1.f2) == 0) || (!(((rd_T75 l0_1 x4_2).f1.f1.f1.f3) == 0) || (!(((rd_T75 l0_1 x4_2).f1.f1.f1.f4) == 0)))))) || (!(((rd_T75 l0_1 x4_2).f1.f1.f2) == 0) || (!(((rd_T75 l0_1 x4_2).f1.f1.f3) == 0) || (!(((rd_T75 l0_1 x4_2).f1.f1.f4) == 0)))))))) || (!(((rd_T75 l0_1 x4_2).f2) == 0)))) = false := by simpa using c73
            clear c73
            have H' := Gv.a0 H
            clear H
            have hcz78_0 : wr.cell? ⟨gb204, 0, none⟩ = some (.int .i64 a0_0) := (blk_cell BK204.out 0).trans rfl
            have hcz78_1 : wr.cell? ⟨gb204, 1, none⟩ = some (.slice A0_1 l0_1.length c0_1) := (blk_cell BK204.out 1).trans rfl
            have hfz78_0 := blk_frozen BK204.out 0
            have hfz78_1 := blk_frozen BK204.out 1
            have p206 : 0 ≤ (x4_2 : Int) := of_decide_eq_true (by first | (with_reducible assumption) | assumption)
            have q206 : x4_2 < (l0_1.length : Int) := of_decide_eq_true (by first | (with_reducible assumption) | assumption)
            obtain ⟨ad206, e206, hx206_0, hx206_1, hx206_2, hx206_3, hx206_4, hx206_5, hx206_6, hx206_7, hx206_8, hx206_9, hx206_10, hx206_11, hx206_12, hx206_13, hx206_14, hx206_15⟩ := at_T75 HR0_1.out x4_2 p206 q206
            (try rw [← Nbq28.out] at hx206_0)
            cases e206
            replace hx206_0 := Gv.bx HB.out hx206_0
            replace hx206_1 := Gv.bx HB.out hx206_1
            replace hx206_2 := Gv.bx HB.out hx206_2
            replace hx206_3 := Gv.bx HB.out hx206_3
            replace hx206_4 := Gv.bx HB.out hx206_4
            replace hx206_5 := Gv.bx HB.out hx206_5
            replace hx206_6 := Gv.bx HB.out hx206_6
            replace hx206_7 := Gv.bx HB.out hx206_7
            replace hx206_8 := Gv.bx HB.out hx206_8
            replace hx206_9 := Gv.bx HB.out hx206_9
            replace hx206_10 := Gv.bx HB.out hx206_10
            replace hx206_11 := Gv.bx HB.out hx206_11
            replace hx206_12 := Gv.bx HB.out hx206_12
            replace hx206_13 := Gv.bx HB.out hx206_13
            replace hx206_14 := Gv.bx HB.out hx206_14
            replace hx206_15 := Gv.bx HB.out hx206_15
            replace p206 := eq_true p206
            replace q206 := eq_true q206
            go_wp2_with (first | ((with_reducible refine gate_dst (N := 5) rfl ?_); refine box_event ?hg (N := 5) ?hd (cs := #[.bool false, .int .i64 0, .int .i64 0, .int .i64 0, .int .i64 0, .int .i64 0, .int .i64 0, .int .i64 0, .int .i64 0, .int .i64 0, .int .i64 0, .int .i64 0, .int .i64 0, .int .i64 0, .int .i64 0, .int .i64 0]) (t := 75) ?hr ?_; (case hd => rfl); (case hg => rfl); (case hr => first | (go_simp; done) | (go_simp; rfl)); intro gb207 hg w79 hbox hb; have n0_ := Gv.a0 (Gv.bb BK204.out hb); have n1_ := Gv.a0 (below_step Gv.bw hb); have n2_ := Gv.a0 (hbox); have n3_ := Gv.a0 ((Gv.ble hg Gv.bw : w.heap.size ≤ gb207)); have n4_ := Gv.a0 ((Gv.ble hg Gv.bw : w.heap.size ≤ gb207)); have n5_ := Gv.a0 ((Gv.nlt hg (Gv.kb BK204.out) : gb204 ≠ gb207)); have n6_ := Gv.a0 ((Gv.ngt hg (Gv.kb BK204.out) : gb207 ≠ gb204)); clear BK204; clear HB; have BK204 := n0_; have HB := n1_; have BK207 := n2_; have GW207 := n3_; have GE207 := n4_; have NB204_207 := n5_; have NB207_204 := n6_; clear n0_ n1_ n2_ n3_ n4_ n5_ n6_; clear hb hbox hg; have hnb80 := NB207_204.out; have hnc80 := NB204_207.out; obtain ⟨hcz81_0, hcz81_1, hcz81_2, hcz81_3, hcz81_4, hcz81_5, hcz81_6, hcz81_7, hcz81_8, hcz81_9, hcz81_10, hcz81_11, hcz81_12, hcz81_13, hcz81_14, hcz81_15⟩ := Gv.c16 BK207.out) | ((with_reducible refine gate_store (t := 75) (p := 5) rfl ?_); refine Gv.store_event rfl rfl rfl rfl rfl (Gv.kb BK207.out) (by kernel_rfl) rfl (by simp; and_intros <;> rfl) ?_; intro w79s hbox hoth hbel; have n0_ := Gv.a0 (hbox); have n1_ := Gv.a0 (hbel w Gv.bw GE207.out); have n2_ := Gv.a0 ((hoth gb204 NB204_207.out).trans (Gv.kb BK204.out)); clear BK207 HB BK204; have BK207 := n0_; have HB := n1_; have BK204 := n2_; clear n0_ n1_ n2_ hbox hoth hbel; (try clear hcz81_0 hcz81_1 hcz81_2 hcz81_3 hcz81_4 hcz81_5 hcz81_6 hcz81_7 hcz81_8 hcz81_9 hcz81_10 hcz81_11 hcz81_12 hcz81_13 hcz81_14 hcz81_15 hfz81_0 hfz81_1 hfz81_2 hfz81_3 hfz81_4 hfz81_5 hfz81_6 hfz81_7 hfz81_8 hfz81_9 hfz81_10 hfz81_11 hfz81_12 hfz81_13 hfz81_14 hfz81_15); obtain ⟨hcz81_0, hcz81_1, hcz81_2, hcz81_3, hcz81_4, hcz81_5, hcz81_6, hcz81_7, hcz81_8, hcz81_9, hcz81_10, hcz81_11, hcz81_12, hcz81_13, hcz81_14, hcz81_15⟩ := Gv.c16 BK207.out) | ((with_reducible refine Gv.gate_load (t := 75) rfl ?_); (try (refine gate_guard (by rfl) ?_; dsimp only)); refine wpList_load_row rfl 75 _ rfl gb207 rfl 75 _ _ _ (by first | exact Gv.kb0 BK207.out | exact Gv.kb1 (Gv.kb0 BK207.out)) Try.underlying75 rfl (by kernel_rfl) ?_) | ((with_reducible refine Gv.gate_load (t := 75) rfl ?_); refine Gv.load_event (cs := [_, _, _, _, _, _, _, _, _, _, _, _, _, _, _, _]) rfl rfl rfl ⟨hx206_0, hx206_1, hx206_2, hx206_3, hx206_4, hx206_5, hx206_6, hx206_7, hx206_8, hx206_9, hx206_10, hx206_11, hx206_12, hx206_13, hx206_14, hx206_15, trivial⟩ Try.underlying75 rfl (by kernel_rfl) ?_))
            go_roundg k2
            case measure => have := HJ1.out; have := HK2.out; omega
            case rel => exact ⟨(wrap64 (x4_2 + 1)), Gv.rq, H', ⟨by have := HJ1.out; have := HK2.out; omega⟩, ⟨by (with_reducible repeat (first | refine blk_drewN ?_ _ | refine blk_drew ?_ | refine blk_alloc ?_ _)); (repeat (refine blk_far ?_ NB204_207.out _; (with_reducible repeat (first | refine blk_drewN ?_ _ | refine blk_drew ?_ | refine blk_alloc ?_ _)))); (with_reducible repeat (first | refine blk_drewN ?_ _ | refine blk_drew ?_ | refine blk_alloc ?_ _)); exact BK204.out⟩, ⟨Gv.bw⟩⟩
         ·rw [if_neg c27] at H
          exact absurd H (by simp)
        ·rw [if_neg c26] at H
         exact absurd H (by simp)
       ·rw [if_neg c25] at H
        have c25b0 : decide (x4_2 < (l0_1.length : Int)) = false := decide_eq_false c25
        clear c25
        obtain rfl := Option.some.inj H
        go_wp2_with (first | ((with_reducible refine Gv.gate_load (t := 75) rfl ?_); (try (refine gate_guard (by rfl) ?_; dsimp only)); refine wpList_load_row rfl 75 _ rfl gb207 rfl 75 _ _ _ (by first | exact Gv.kb0 BK207.out | exact Gv.kb1 (Gv.kb0 BK207.out)) Try.underlying75 rfl (by kernel_rfl) ?_))
        go_ret
        exact ⟨Gv.rt, Gv.bw⟩

/-! ### spec_TableNew: function 18 -/
def spec_TableNew.j0 : Nat → Int → Int → Bool → Option (Int × (List (S75)))
 | 0, _, _, _ => none
 | k + 1, x0, x1, x11 => if x11 = true then (some (0, ([] : List (S75)))) else (if 0 ≤ x1 then (if (x1 : Int).toNat ≤ 2199023255552 then ((some (List.replicate (x1 : Int).toNat z75 : List (S75))).bind fun y213 => ((spec_TableOk.f k x0 y213).bind fun t217 => (if t217 = true then (some (x0, y213)) else (some (0, ([] : List (S75))))))) else (none)) else (none))
def spec_TableNew.f (k : Nat) (a0 : Int) (a1 : Int) : Option (Int × (List (S75))) := if a1 < 4 then (spec_TableNew.j0 k a0 a1 true) else (spec_TableNew.j0 k a0 a1 (decide (a1 > 64)))
theorem spec_TableNew.mono_l : ∀ k, (∀ y0 y1 y2, LeO (spec_TableNew.j0 k y0 y1 y2) (spec_TableNew.j0 (k + 1) y0 y1 y2))
 | 0 => fun _ _ _ r h => by simp [spec_TableNew.j0] at h
 | k + 1 => by
  have ih0 := spec_TableNew.mono_l k
  ·intro y0 y1 y2
   unfold spec_TableNew.j0
   repeat' first
   | (with_reducible exact ih0 _ _ _)
   | (with_reducible exact spec_TableOk.mono _ _ _)
   | (with_reducible exact LeO.refl _)
   | (with_reducible exact LeO.none _)
   | (with_reducible refine LeO.ite ?_ ?_)
   | (with_reducible refine LeO.bind ?_ (fun _ => ?_))
   | exact ih0 _ _ _
   | exact spec_TableOk.mono _ _ _
   | exact LeO.none _
   | refine LeO.ite ?_ ?_
   | refine LeO.bind ?_ (fun _ => ?_)
theorem spec_TableNew.mono : ∀ a0 a1 k, LeO (spec_TableNew.f k a0 a1) (spec_TableNew.f (k + 1) a0 a1) := by
 intro a0 a1 k
 have ih0 := spec_TableNew.mono_l k
 unfold spec_TableNew.f
 repeat' first
   | (with_reducible exact ih0 _ _ _)
   | (with_reducible exact spec_TableOk.mono _ _ _)
   | (with_reducible exact LeO.refl _)
   | (with_reducible exact LeO.none _)
   | (with_reducible refine LeO.ite ?_ ?_)
   | (with_reducible refine LeO.bind ?_ (fun _ => ?_))
   | exact ih0 _ _ _
   | exact spec_TableOk.mono _ _ _
   | exact LeO.none _
   | refine LeO.ite ?_ ?_
   | refine LeO.bind ?_ (fun _ => ?_)
set_option maxHeartbeats 8000000 in
set_option maxRecDepth 100000 in
theorem spec_TableNew.calls (k : Nat) (a0 : Int) (a1 : Int) (r1 : Int) (r2 : List (S75)) (w : World) (h : spec_TableNew.f k a0 a1 = some (r1, r2)) :
  Calls Try.prog 18 #[.int .i64 a0, .int .i64 a1] w fun e w' => ∃ v1_ : Value, e = .returned (.agg #[.int .i64 r1, v1_]) ∧ Kd.R k75 75 w' w.heap.size (fun _ => True) v1_ r2 ∧ Below w.heap.size w w' := by
 have hu40 := Try.underlying40
 have HB := Gv.a0 (Below.refl w.heap.size w)
 have H : (if a1 < 4 then (spec_TableNew.j0 k a0 a1 true) else (spec_TableNew.j0 k a0 a1 (decide (a1 > 64)))) = some (r1, r2) := h
 clear h
 have HC3 := Gv.a0 H
 clear H
 go_enter Try.func18, Try.ntmps18
 go_upto_region 1 with (first | ((with_reducible refine gate_dst (N := 4) rfl ?_); refine box_event ?hg (N := 4) ?hd (cs := #[.int .i64 0, .slice none 0 0]) (t := 40) ?hr ?_; (case hd => rfl); (case hg => rfl); (case hr => first | (go_simp; done) | (go_simp; rfl)); intro gb212 hg w4 hbox hb; have n0_ := Gv.a0 (below_step Gv.bw hb); have n1_ := Gv.a0 (hbox); have n2_ := Gv.a0 ((Gv.ble hg Gv.bw : w.heap.size ≤ gb212)); have n3_ := Gv.a0 ((Gv.ble hg Gv.bw : w.heap.size ≤ gb212)); clear HB; have HB := n0_; have BK212 := n1_; have GW212 := n2_; have GE212 := n3_; clear n0_ n1_ n2_ n3_; clear hb hbox hg))
 (try simp only [Act.put, List.setIfInBounds_toArray, List.set_cons_zero, List.set_cons_succ])
 go_cut [11] (fun v11 wc => ∃ (kq : Nat) (x11_2 : Bool), v11 = .bool x11_2 ∧ Aside0 (spec_TableNew.j0 kq a0 a1 x11_2 = some (r1, r2)) ∧ Aside0 (kq ≤ k) ∧ Aside0 (wc.heap[gb212]? = some (.cells #[.int .i64 0, (.slice none 0 0)] 40 (0, 0))) ∧ Aside0 (Below w.heap.size w wc))
 case first =>
  have H := HC3.out
  clear HC3
  by_cases c5 : a1 < 4
  ·rw [if_pos c5] at H
   have c5b0 : decide (a1 < 4) = true := decide_eq_true c5
   clear c5
   (first | rw [c5b0] | (simp only [i64_w, i32_w]; rw [c5b0]) | skip)
   have H' := Gv.a0 H
   clear H
   go_wp2
   go_meet
   case rel => exact ⟨_, (true), Gv.rq, H', ⟨by first | omega | exact Nat.le_refl _⟩, ⟨by (with_reducible repeat (first | refine blk_drewN ?_ _ | refine blk_drew ?_ | refine blk_alloc ?_ _)); exact BK212.out⟩, ⟨Gv.bw⟩⟩
  ·rw [if_neg c5] at H
   have c5b0 : decide (a1 < 4) = false := decide_eq_false c5
   clear c5
   (first | rw [c5b0] | (simp only [i64_w, i32_w]; rw [c5b0]) | skip)
   have H' := Gv.a0 H
   clear H
   go_wp2
   go_meet
   case rel => exact ⟨_, (decide (a1 > 64)), Gv.rq, H', ⟨by first | omega | exact Nat.le_refl _⟩, ⟨by (with_reducible repeat (first | refine blk_drewN ?_ _ | refine blk_drew ?_ | refine blk_alloc ?_ _)); exact BK212.out⟩, ⟨Gv.bw⟩⟩
 case rest =>
  clear HC3
  try clear c1
  try clear p2
  try clear c5
  try clear c5b0
  obtain ⟨kq, x11_2, rfl, HA, HJ2, BK212, HB⟩ := hcut
  cases kq with
  | zero => exact absurd HA.out (by simp [spec_TableNew.j0])
  | succ kj2 =>
   have H := HA.out
   clear HA
   simp only [spec_TableNew.j0] at H
   by_cases c6 : x11_2 = true
   ·subst c6
    have H1 : (some (0, ([] : List (S75)))) = some (r1, r2) := by rw [if_pos rfl] at H; exact H
    clear H
    have H := H1
    clear H1
    simp only [Option.some.injEq, Prod.mk.injEq] at H
    obtain ⟨rfl, rfl⟩ := H
    have hcz7_0 : wc.cell? ⟨gb212, 0, none⟩ = some (.int .i64 0) := (blk_cell BK212.out 0).trans rfl
    have hcz7_1 : wc.cell? ⟨gb212, 1, none⟩ = some (.slice none 0 0) := (blk_cell BK212.out 1).trans rfl
    have hfz7_0 := blk_frozen BK212.out 0
    have hfz7_1 := blk_frozen BK212.out 1
    go_wp2
    refine bodyPost_ret (results_cell_row rfl _ _ gb212 40 #[.int .i64 0, .slice none 0 0] (0, 0) _ rfl (by (with_reducible repeat (first | refine blk_drewN ?_ _ | refine blk_drew ?_ | refine blk_alloc ?_ _)); refine blk_put (cs := #[.int .i64 0, .slice none 0 0]) ?_ 1 _ rfl; (with_reducible repeat (first | refine blk_drewN ?_ _ | refine blk_drew ?_ | refine blk_alloc ?_ _)); refine blk_put (cs := #[.int .i64 0, .slice none 0 0]) ?_ 0 _ rfl; (with_reducible repeat (first | refine blk_drewN ?_ _ | refine blk_drew ?_ | refine blk_alloc ?_ _)); exact BK212.out) Try.underlying40 rfl (by kernel_rfl)) rfl ?_
    exact ⟨_, Gv.rt, by first | exact Kd.R_nil _ _ _ _ _ | exact Kd.N_nil _ _ _ _ _ | exact Kd.V_nil _ _ _ _ _ | exact Kd.Q_nil _ _ _ _ _ | exact Kd.S_nil _ _ _ _ _, Gv.bw⟩
   ·replace c6 := Bool.eq_false_iff.mpr c6
    subst c6
    have H1 : (if 0 ≤ a1 then (if (a1 : Int).toNat ≤ 2199023255552 then ((some (List.replicate (a1 : Int).toNat z75 : List (S75))).bind fun y213 => ((spec_TableOk.f kj2 a0 y213).bind fun t217 => (if t217 = true then (some (a0, y213)) else (some (0, ([] : List (S75))))))) else (none)) else (none)) = some (r1, r2) := by rw [if_neg (show ¬ (false = true) by decide)] at H; exact H
    clear H
    have H := H1
    clear H1
    by_cases c8 : 0 ≤ a1
    ·rw [if_pos c8] at H
     have c8b0 := eq_true c8
     have c8b1 : decide (0 ≤ a1) = true := decide_eq_true c8
     clear c8
     by_cases c9 : (a1 : Int).toNat ≤ 2199023255552
     ·rw [if_pos c9] at H
      have c9b0 := eq_true c9
      have c9b1 : decide ((a1 : Int).toNat ≤ 2199023255552) = true := decide_eq_true c9
      clear c9
      obtain ⟨y213, hy213⟩ : ∃ y_ : List (S75), y_ = (List.replicate (a1 : Int).toNat z75) := ⟨_, rfl⟩
      replace H : ((spec_TableOk.f kj2 a0 y213).bind fun t217 => (if t217 = true then (some (a0, y213)) else (some (0, ([] : List (S75)))))) = some (r1, r2) := by first | (rw [hy213]; with_reducible exact H) | (have H2_ := (Option.bind_some _ _).symm.trans H; rw [hy213]; with_reducible exact H2_) | (have H2_ := (Option.bind_some _ _).symm.trans H; with_reducible exact H2_) | with_reducible exact H | (rw [hy213]; exact H) | exact H
      have Ny213 := Gv.a0 hy213
      clear hy213
      replace H := Option.bind_eq_some_iff.mp H
      obtain ⟨t217, A100, H⟩ := H
      replace H : (if t217 = true then (some (a0, y213)) else (some (0, ([] : List (S75))))) = some (r1, r2) := H
      have A10 := Gv.a0 A100
      clear A100
      by_cases c11 : t217 = true
      ·subst c11
       have H1 : (some (a0, y213)) = some (r1, r2) := by rw [if_pos rfl] at H; exact H
       clear H
       have H := H1
       clear H1
       simp only [Option.some.injEq, Prod.mk.injEq] at H
       obtain ⟨rfl, rfl⟩ := H
       go_wp2_with (first | ((with_reducible refine gate_dst (N := 15) rfl ?_); refine Kd.R_make k75 _ 75 rfl (N := 15) rfl 38 _ _ rfl a1 rfl rfl Try.underlying38 (.agg #[(.bool false), (.int .i64 0), (.int .i64 0), (.int .i64 0), (.int .i64 0), (.int .i64 0), (.int .i64 0), (.int .i64 0), (.int .i64 0), (.int .i64 0), (.int .i64 0), (.int .i64 0), (.int .i64 0), (.int .i64 0), (.int .i64 0), (.int .i64 0)]) 128 info75 rfl (by decide) (by omega) z75 (ok := fun _ => True) (okp := fun _ => True) (k75_mkM _ _ _ z75 ) (fun _ hk => hk) trivial (of_decide_eq_true (by first | (with_reducible assumption) | assumption)) (Nat.le_trans (Nat.mul_le_mul_right _ (of_decide_eq_true (by first | (with_reducible assumption) | assumption) : a1.toNat ≤ 2199023255552)) (by omega)) (Below.refl _ _) (Nat.le_refl _) ?_; intro v214 w12 ho13 hb hg_ hnew_; clear hg_ hnew_; (first | rw [← Ny213.out] at ho13 | (simp only [Int.reduceToNat] at ho13; rw [← Ny213.out] at ho13)); have n0_ := Gv.a0 (Kd.R_lower ho13 (below_size Gv.bw)); have n1_ := Gv.a0 (Gv.bb BK212.out hb); have n2_ := Gv.a0 (below_step Gv.bw hb); clear BK212; clear HB; have HO215 := n0_; have BK212 := n1_; have HB := n2_; clear n0_ n1_ n2_; clear hb ho13; obtain ⟨Ao14, co14, eo14⟩ := Kd.R_slice HO215.out; subst eo14) | ((with_reducible refine gate_dst (N := 5) rfl ?_); refine box_event ?hg (N := 5) ?hd (cs := #[.int .i64 0, .slice none 0 0]) (t := 40) ?hr ?_; (case hd => rfl); (case hg => rfl); (case hr => first | (go_simp; done) | (go_simp; rfl)); intro gb216 hg w15 hbox hb; have n0_ := Gv.a0 (Kd.R_below (Gv.kr HO215.out) hb); have n1_ := Gv.a0 (Gv.bb BK212.out hb); have n2_ := Gv.a0 (below_step Gv.bw hb); have n3_ := Gv.a0 (hbox); have n4_ := Gv.a0 ((Gv.ble hg Gv.bw : w.heap.size ≤ gb216)); have n5_ := Gv.a0 ((Gv.ble hg Gv.bw : w.heap.size ≤ gb216)); have n6_ := Gv.a0 ((Gv.nlt hg (Gv.kb BK212.out) : gb212 ≠ gb216)); have n7_ := Gv.a0 ((Gv.ngt hg (Gv.kb BK212.out) : gb216 ≠ gb212)); clear HO215; clear BK212; clear HB; have HO215 := n0_; have BK212 := n1_; have HB := n2_; have BK216 := n3_; have GW216 := n4_; have GE216 := n5_; have NB212_216 := n6_; have NB216_212 := n7_; clear n0_ n1_ n2_ n3_ n4_ n5_ n6_ n7_; clear hb hbox hg; have hnb16 := NB216_212.out; have hnc16 := NB212_216.out; have hcz17_0 : w15.cell? ⟨gb216, 0, none⟩ = some (.int .i64 0) := (blk_cell BK216.out 0).trans rfl; have hcz17_1 : w15.cell? ⟨gb216, 1, none⟩ = some (.slice none 0 0) := (blk_cell BK216.out 1).trans rfl; have hfz17_0 := blk_frozen BK216.out 0; have hfz17_1 := blk_frozen BK216.out 1) | ((with_reducible refine gate_callee (f := 24) rfl ?_); refine goesL_ (some 18) rfl rfl Try.func24 (by kernel_rfl) rfl #[.agg #[.int .i64 a0, .slice Ao14 y213.length co14]] rfl Gv.lm ?_; (with_reducible refine (spec_TableOk.calls kj2 a0 _ _ y213 true _ ?side1 ?side2 A10.out).mono ?_); (case side1 => refine (Kd.R_reads' (e := 75) (base := w.heap.size) (ok := fun k_ => True) (n := y213.length) (c := co14) ?_).2.2; exact (by (with_reducible repeat (first | apply Kd.R_alloc | apply Kd.R_drewN | apply Kd.R_drew)); exact (Kd.R_mono (Kd.R_far (p := ⟨gb216, 1, none⟩) (Kd.R_far (p := ⟨gb216, 0, none⟩) (Kd.R_types HO215.out BK216.out (by decide)) (fun _ hk => hk.2) (.int .i64 a0)) (fun _ hk => hk.2) (.slice Ao14 y213.length co14)) (fun _ h_ => h_.1)))); (case side2 => exact (Kd.R_reads' HO215.out).2.1); rintro e w18 ⟨rfl, hb⟩; refine ⟨_, rfl, ?_⟩; have n0_ := Gv.a0 (Kd.R_below (by (with_reducible repeat (first | apply Kd.R_alloc | apply Kd.R_drewN | apply Kd.R_drew)); exact (Kd.R_mono (Kd.R_far (p := ⟨gb216, 1, none⟩) (Kd.R_far (p := ⟨gb216, 0, none⟩) (Kd.R_types HO215.out BK216.out (by decide)) (fun _ hk => hk.2) (.int .i64 a0)) (fun _ hk => hk.2) (.slice Ao14 y213.length co14)) (fun _ h_ => h_.1))) hb); have n1_ := Gv.a0 (blk_below (g := gb212) (o := .cells #[.int .i64 0, .slice none 0 0] 40 (0, 0)) Gv.bkf hb); have n2_ := Gv.a0 (blk_below (g := gb216) (o := .cells #[.int .i64 a0, .slice Ao14 y213.length co14] 40 (0, 0)) (by (with_reducible repeat (first | refine blk_drewN ?_ _ | refine blk_drew ?_ | refine blk_alloc ?_ _)); refine blk_put (cs := #[.int .i64 a0, .slice none 0 0]) ?_ 1 _ rfl; (with_reducible repeat (first | refine blk_drewN ?_ _ | refine blk_drew ?_ | refine blk_alloc ?_ _)); refine blk_put (cs := #[.int .i64 0, .slice none 0 0]) ?_ 0 _ rfl; (with_reducible repeat (first | refine blk_drewN ?_ _ | refine blk_drew ?_ | refine blk_alloc ?_ _)); exact BK216.out) hb); have n3_ := Gv.a0 (below_step Gv.bw hb); clear HO215; clear BK212; clear BK216; clear HB; have HO215 := n0_; have BK212 := n1_; have BK216 := n2_; have HB := n3_; clear n0_ n1_ n2_ n3_; (try clear hb); (try clear hb2); (try clear hk); (try clear hi); have hcz19_0 : w18.cell? ⟨gb216, 0, none⟩ = some (.int .i64 a0) := (blk_cell BK216.out 0).trans rfl; have hcz19_1 : w18.cell? ⟨gb216, 1, none⟩ = some (.slice Ao14 y213.length co14) := (blk_cell BK216.out 1).trans rfl; have hfz19_0 := blk_frozen BK216.out 0; have hfz19_1 := blk_frozen BK216.out 1; have hcz20_0 : w18.cell? ⟨gb212, 0, none⟩ = some (.int .i64 0) := (blk_cell BK212.out 0).trans rfl; have hcz20_1 : w18.cell? ⟨gb212, 1, none⟩ = some (.slice none 0 0) := (blk_cell BK212.out 1).trans rfl; have hfz20_0 := blk_frozen BK212.out 0; have hfz20_1 := blk_frozen BK212.out 1))
       refine bodyPost_ret (results_cell_row rfl _ _ gb212 40 #[.int .i64 a0, .slice Ao14 y213.length co14] (0, 0) _ rfl (by (with_reducible repeat (first | refine blk_drewN ?_ _ | refine blk_drew ?_ | refine blk_alloc ?_ _)); refine blk_put (cs := #[.int .i64 a0, .slice none 0 0]) ?_ 1 _ rfl; (with_reducible repeat (first | refine blk_drewN ?_ _ | refine blk_drew ?_ | refine blk_alloc ?_ _)); refine blk_put (cs := #[.int .i64 0, .slice none 0 0]) ?_ 0 _ rfl; (with_reducible repeat (first | refine blk_drewN ?_ _ | refine blk_drew ?_ | refine blk_alloc ?_ _)); exact BK212.out) Try.underlying40 rfl (by kernel_rfl)) rfl ?_
       exact ⟨_, Gv.rt, by (with_reducible repeat (first | apply Kd.R_alloc | apply Kd.R_drewN | apply Kd.R_drew)); exact Kd.R_mono (Kd.R_far (p := ⟨gb212, 1, none⟩) (Kd.R_far (p := ⟨gb212, 0, none⟩) (Kd.R_types HO215.out BK212.out (by decide)) (fun _ hk => hk.2) (.int .i64 a0)) (fun _ hk => hk.2) (.slice Ao14 y213.length co14)) (fun _ hk => trivial), Gv.bw⟩
      ·replace c11 := Bool.eq_false_iff.mpr c11
       subst c11
       have H1 : (some (0, ([] : List (S75)))) = some (r1, r2) := by rw [if_neg (show ¬ (false = true) by decide)] at H; exact H
       clear H
       have H := H1
       clear H1
       simp only [Option.some.injEq, Prod.mk.injEq] at H
       obtain ⟨rfl, rfl⟩ := H
       go_wp2_with (first | ((with_reducible refine gate_dst (N := 15) rfl ?_); refine Kd.R_make k75 _ 75 rfl (N := 15) rfl 38 _ _ rfl a1 rfl rfl Try.underlying38 (.agg #[(.bool false), (.int .i64 0), (.int .i64 0), (.int .i64 0), (.int .i64 0), (.int .i64 0), (.int .i64 0), (.int .i64 0), (.int .i64 0), (.int .i64 0), (.int .i64 0), (.int .i64 0), (.int .i64 0), (.int .i64 0), (.int .i64 0), (.int .i64 0)]) 128 info75 rfl (by decide) (by omega) z75 (ok := fun _ => True) (okp := fun _ => True) (k75_mkM _ _ _ z75 ) (fun _ hk => hk) trivial (of_decide_eq_true (by first | (with_reducible assumption) | assumption)) (Nat.le_trans (Nat.mul_le_mul_right _ (of_decide_eq_true (by first | (with_reducible assumption) | assumption) : a1.toNat ≤ 2199023255552)) (by omega)) (Below.refl _ _) (Nat.le_refl _) ?_; intro v214 w21 ho22 hb hg_ hnew_; clear hg_ hnew_; (first | rw [← Ny213.out] at ho22 | (simp only [Int.reduceToNat] at ho22; rw [← Ny213.out] at ho22)); have n0_ := Gv.a0 (Kd.R_lower ho22 (below_size Gv.bw)); have n1_ := Gv.a0 (Gv.bb BK212.out hb); have n2_ := Gv.a0 (below_step Gv.bw hb); clear BK212; clear HB; have HO215 := n0_; have BK212 := n1_; have HB := n2_; clear n0_ n1_ n2_; clear hb ho22; obtain ⟨Ao23, co23, eo23⟩ := Kd.R_slice HO215.out; subst eo23) | ((with_reducible refine gate_dst (N := 5) rfl ?_); refine box_event ?hg (N := 5) ?hd (cs := #[.int .i64 0, .slice none 0 0]) (t := 40) ?hr ?_; (case hd => rfl); (case hg => rfl); (case hr => first | (go_simp; done) | (go_simp; rfl)); intro gb216 hg w24 hbox hb; have n0_ := Gv.a0 (Kd.R_below (Gv.kr HO215.out) hb); have n1_ := Gv.a0 (Gv.bb BK212.out hb); have n2_ := Gv.a0 (below_step Gv.bw hb); have n3_ := Gv.a0 (hbox); have n4_ := Gv.a0 ((Gv.ble hg Gv.bw : w.heap.size ≤ gb216)); have n5_ := Gv.a0 ((Gv.ble hg Gv.bw : w.heap.size ≤ gb216)); have n6_ := Gv.a0 ((Gv.nlt hg (Gv.kb BK212.out) : gb212 ≠ gb216)); have n7_ := Gv.a0 ((Gv.ngt hg (Gv.kb BK212.out) : gb216 ≠ gb212)); clear HO215; clear BK212; clear HB; have HO215 := n0_; have BK212 := n1_; have HB := n2_; have BK216 := n3_; have GW216 := n4_; have GE216 := n5_; have NB212_216 := n6_; have NB216_212 := n7_; clear n0_ n1_ n2_ n3_ n4_ n5_ n6_ n7_; clear hb hbox hg; have hnb25 := NB216_212.out; have hnc25 := NB212_216.out; have hcz26_0 : w24.cell? ⟨gb216, 0, none⟩ = some (.int .i64 0) := (blk_cell BK216.out 0).trans rfl; have hcz26_1 : w24.cell? ⟨gb216, 1, none⟩ = some (.slice none 0 0) := (blk_cell BK216.out 1).trans rfl; have hfz26_0 := blk_frozen BK216.out 0; have hfz26_1 := blk_frozen BK216.out 1) | ((with_reducible refine gate_callee (f := 24) rfl ?_); refine goesL_ (some 18) rfl rfl Try.func24 (by kernel_rfl) rfl #[.agg #[.int .i64 a0, .slice Ao23 y213.length co23]] rfl Gv.lm ?_; (with_reducible refine (spec_TableOk.calls kj2 a0 _ _ y213 false _ ?side1 ?side2 A10.out).mono ?_); (case side1 => refine (Kd.R_reads' (e := 75) (base := w.heap.size) (ok := fun k_ => True) (n := y213.length) (c := co23) ?_).2.2; exact (by (with_reducible repeat (first | apply Kd.R_alloc | apply Kd.R_drewN | apply Kd.R_drew)); exact (Kd.R_mono (Kd.R_far (p := ⟨gb216, 1, none⟩) (Kd.R_far (p := ⟨gb216, 0, none⟩) (Kd.R_types HO215.out BK216.out (by decide)) (fun _ hk => hk.2) (.int .i64 a0)) (fun _ hk => hk.2) (.slice Ao23 y213.length co23)) (fun _ h_ => h_.1)))); (case side2 => exact (Kd.R_reads' HO215.out).2.1); rintro e w27 ⟨rfl, hb⟩; refine ⟨_, rfl, ?_⟩; have n0_ := Gv.a0 (Kd.R_below (by (with_reducible repeat (first | apply Kd.R_alloc | apply Kd.R_drewN | apply Kd.R_drew)); exact (Kd.R_mono (Kd.R_far (p := ⟨gb216, 1, none⟩) (Kd.R_far (p := ⟨gb216, 0, none⟩) (Kd.R_types HO215.out BK216.out (by decide)) (fun _ hk => hk.2) (.int .i64 a0)) (fun _ hk => hk.2) (.slice Ao23 y213.length co23)) (fun _ h_ => h_.1))) hb); have n1_ := Gv.a0 (blk_below (g := gb212) (o := .cells #[.int .i64 0, .slice none 0 0] 40 (0, 0)) Gv.bkf hb); have n2_ := Gv.a0 (blk_below (g := gb216) (o := .cells #[.int .i64 a0, .slice Ao23 y213.length co23] 40 (0, 0)) (by (with_reducible repeat (first | refine blk_drewN ?_ _ | refine blk_drew ?_ | refine blk_alloc ?_ _)); refine blk_put (cs := #[.int .i64 a0, .slice none 0 0]) ?_ 1 _ rfl; (with_reducible repeat (first | refine blk_drewN ?_ _ | refine blk_drew ?_ | refine blk_alloc ?_ _)); refine blk_put (cs := #[.int .i64 0, .slice none 0 0]) ?_ 0 _ rfl; (with_reducible repeat (first | refine blk_drewN ?_ _ | refine blk_drew ?_ | refine blk_alloc ?_ _)); exact BK216.out) hb); have n3_ := Gv.a0 (below_step Gv.bw hb); clear HO215; clear BK212; clear BK216; clear HB; have HO215 := n0_; have BK212 := n1_; have BK216 := n2_; have HB := n3_; clear n0_ n1_ n2_ n3_; (try clear hb); (try clear hb2); (try clear hk); (try clear hi); have hcz28_0 : w27.cell? ⟨gb212, 0, none⟩ = some (.int .i64 0) := (blk_cell BK212.out 0).trans rfl; have hcz28_1 : w27.cell? ⟨gb212, 1, none⟩ = some (.slice none 0 0) := (blk_cell BK212.out 1).trans rfl; have hfz28_0 := blk_frozen BK212.out 0; have hfz28_1 := blk_frozen BK212.out 1))
       refine bodyPost_ret (results_cell_row rfl _ _ gb212 40 #[.int .i64 0, .slice none 0 0] (0, 0) _ rfl (by (with_reducible repeat (first | refine blk_drewN ?_ _ | refine blk_drew ?_ | refine blk_alloc ?_ _)); refine blk_put (cs := #[.int .i64 0, .slice none 0 0]) ?_ 1 _ rfl; (with_reducible repeat (first | refine blk_drewN ?_ _ | refine blk_drew ?_ | refine blk_alloc ?_ _)); refine blk_put (cs := #[.int .i64 0, .slice none 0 0]) ?_ 0 _ rfl; (with_reducible repeat (first | refine blk_drewN ?_ _ | refine blk_drew ?_ | refine blk_alloc ?_ _)); exact BK212.out) Try.underlying40 rfl (by kernel_rfl)) rfl ?_
       exact ⟨_, Gv.rt, by first | exact Kd.R_nil _ _ _ _ _ | exact Kd.N_nil _ _ _ _ _ | exact Kd.V_nil _ _ _ _ _ | exact Kd.Q_nil _ _ _ _ _ | exact Kd.S_nil _ _ _ _ _, Gv.bw⟩
     ·rw [if_neg c9] at H
      exact absurd H (by simp)
    ·rw [if_neg c8] at H
     exact absurd H (by simp)

/-! ### impl_within: function 44 -/
def impl_within.f (a0 : Int) (a1 : Int) (a2 : Int) : Option (Bool) := if a0 ≥ a1 then (some (decide (a0 ≤ a2))) else (some false)
set_option maxHeartbeats 8000000 in
set_option maxRecDepth 100000 in
theorem impl_within.calls (a0 : Int) (a1 : Int) (a2 : Int) (r : Bool) (w : World) (h : impl_within.f a0 a1 a2 = some r) :
  Calls Try.prog 44 #[.int .i64 a0, .int .i64 a1, .int .i64 a2] w fun e w' => e = .returned (.bool r) ∧ Drawn0 w w' := by
 have H : (if a0 ≥ a1 then (some (decide (a0 ≤ a2))) else (some false)) = some r := h
 clear h
 by_cases c4 : a0 ≥ a1
 ·rw [if_pos c4] at H
  have c4b0 : decide (a1 ≤ a0) = true := decide_eq_true c4
  clear c4
  obtain rfl := Option.some.inj H
  go_enter Try.func44, Try.ntmps44
  go_wp2
  go_ret
  exact ⟨by first | rfl | (simp; done) | (simp [Int.tdiv_eq_ediv_of_nonneg]; done) | (simp [*]; done), by repeat (first | exact Drawn0.refl _ | apply Drawn0.step)⟩
 ·rw [if_neg c4] at H
  have c4b0 : decide (a1 ≤ a0) = false := decide_eq_false c4
  clear c4
  obtain rfl := Option.some.inj H
  go_enter Try.func44, Try.ntmps44
  go_wp2
  go_ret
  exact ⟨by first | rfl | (simp; done) | (simp [Int.tdiv_eq_ediv_of_nonneg]; done) | (simp [*]; done), by repeat (first | exact Drawn0.refl _ | apply Drawn0.step)⟩

/-! ### impl_isCells: function 48 -/
def impl_isCells.f (a0 : Int) : Option (Bool) := if a0 = 4 then (some true) else (if a0 = 8 then (some true) else (if a0 = 16 then (some true) else (if a0 = 32 then (some true) else (some (a0 == 64)))))
set_option maxHeartbeats 8000000 in
set_option maxRecDepth 100000 in
theorem impl_isCells.calls (a0 : Int) (r : Bool) (w : World) (h : impl_isCells.f a0 = some r) :
  Calls Try.prog 48 #[.int .i64 a0] w fun e w' => e = .returned (.bool r) ∧ Drawn0 w w' := by
 have H : (if a0 = 4 then (some true) else (if a0 = 8 then (some true) else (if a0 = 16 then (some true) else (if a0 = 32 then (some true) else (some (a0 == 64)))))) = some r := h
 clear h
 by_cases c2 : a0 = 4
 ·rw [if_pos c2] at H
  have c2b0 : (a0 == 4) = true := beq_iff_eq.mpr c2
  have c2b1 : (a0 != 4) = false := bne_eq_false_iff_eq.mpr c2
  clear c2
  obtain rfl := Option.some.inj H
  go_enter Try.func48, Try.ntmps48
  go_wp2
  go_ret
  exact ⟨by first | rfl | (simp; done) | (simp [Int.tdiv_eq_ediv_of_nonneg]; done) | (simp [*]; done), by repeat (first | exact Drawn0.refl _ | apply Drawn0.step)⟩
 ·rw [if_neg c2] at H
  have c2b0 : (a0 == 4) = false := beq_eq_false_iff_ne.mpr c2
  have c2b1 : (a0 != 4) = true := bne_iff_ne.mpr c2
  by_cases c3 : a0 = 8
  ·rw [if_pos c3] at H
   have c3b0 : (a0 == 8) = true := beq_iff_eq.mpr c3
   have c3b1 : (a0 != 8) = false := bne_eq_false_iff_eq.mpr c3
   clear c3
   obtain rfl := Option.some.inj H
   go_enter Try.func48, Try.ntmps48
   go_wp2
   go_ret
   exact ⟨by first | rfl | (simp; done) | (simp [Int.tdiv_eq_ediv_of_nonneg]; done) | (simp [*]; done), by repeat (first | exact Drawn0.refl _ | apply Drawn0.step)⟩
  ·rw [if_neg c3] at H
   have c3b0 : (a0 == 8) = false := beq_eq_false_iff_ne.mpr c3
   have c3b1 : (a0 != 8) = true := bne_iff_ne.mpr c3
   by_cases c4 : a0 = 16
   ·rw [if_pos c4] at H
    have c4b0 : (a0 == 16) = true := beq_iff_eq.mpr c4
    have c4b1 : (a0 != 16) = false := bne_eq_false_iff_eq.mpr c4
    clear c4
    obtain rfl := Option.some.inj H
    go_enter Try.func48, Try.ntmps48
    go_wp2
    go_ret
    exact ⟨by first | rfl | (simp; done) | (simp [Int.tdiv_eq_ediv_of_nonneg]; done) | (simp [*]; done), by repeat (first | exact Drawn0.refl _ | apply Drawn0.step)⟩
   ·rw [if_neg c4] at H
    have c4b0 : (a0 == 16) = false := beq_eq_false_iff_ne.mpr c4
    have c4b1 : (a0 != 16) = true := bne_iff_ne.mpr c4
    by_cases c5 : a0 = 32
    ·rw [if_pos c5] at H
     have c5b0 : (a0 == 32) = true := beq_iff_eq.mpr c5
     have c5b1 : (a0 != 32) = false := bne_eq_false_iff_eq.mpr c5
     clear c5
     obtain rfl := Option.some.inj H
     go_enter Try.func48, Try.ntmps48
     go_wp2
     go_ret
     exact ⟨by first | rfl | (simp; done) | (simp [Int.tdiv_eq_ediv_of_nonneg]; done) | (simp [*]; done), by repeat (first | exact Drawn0.refl _ | apply Drawn0.step)⟩
    ·rw [if_neg c5] at H
     have c5b0 : (a0 == 32) = false := beq_eq_false_iff_ne.mpr c5
     have c5b1 : (a0 != 32) = true := bne_iff_ne.mpr c5
     obtain rfl := Option.some.inj H
     go_enter Try.func48, Try.ntmps48
     go_wp2
     go_ret
     exact ⟨by first | rfl | (simp; done) | (simp [Int.tdiv_eq_ediv_of_nonneg]; done) | (simp [*]; done), by repeat (first | exact Drawn0.refl _ | apply Drawn0.step)⟩

/-! ### impl_TableNew: function 19 -/
def impl_TableNew.f (a0 : Int) (a1 : Int) : Option (Int × (List (S75))) := (impl_within.f a0 0 4294967295).bind fun t219 => (if t219 = true then ((impl_isCells.f a1).bind fun t220 => (if t220 = true then (if 0 ≤ a1 then (if (a1 : Int).toNat ≤ 2199023255552 then (some (a0, (List.replicate (a1 : Int).toNat z75))) else (none)) else (none)) else (some (0, ([] : List (S75)))))) else (some (0, ([] : List (S75)))))
set_option maxHeartbeats 8000000 in
set_option maxRecDepth 100000 in
theorem impl_TableNew.calls (a0 : Int) (a1 : Int) (r1 : Int) (r2 : List (S75)) (w : World) (h : impl_TableNew.f a0 a1 = some (r1, r2)) :
  Calls Try.prog 19 #[.int .i64 a0, .int .i64 a1] w fun e w' => ∃ v1_ : Value, e = .returned (.agg #[.int .i64 r1, v1_]) ∧ Kd.R k75 75 w' w.heap.size (fun _ => True) v1_ r2 ∧ Below w.heap.size w w' := by
 have hu40 := Try.underlying40
 have HB := Gv.a0 (Below.refl w.heap.size w)
 have H : ((impl_within.f a0 0 4294967295).bind fun t219 => (if t219 = true then ((impl_isCells.f a1).bind fun t220 => (if t220 = true then (if 0 ≤ a1 then (if (a1 : Int).toNat ≤ 2199023255552 then (some (a0, (List.replicate (a1 : Int).toNat z75))) else (none)) else (none)) else (some (0, ([] : List (S75)))))) else (some (0, ([] : List (S75)))))) = some (r1, r2) := h
 clear h
 replace H := Option.bind_eq_some_iff.mp H
 obtain ⟨t219, A30, H⟩ := H
 replace H : (if t219 = true then ((impl_isCells.f a1).bind fun t220 => (if t220 = true then (if 0 ≤ a1 then (if (a1 : Int).toNat ≤ 2199023255552 then (some (a0, (List.replicate (a1 : Int).toNat z75))) else (none)) else (none)) else (some (0, ([] : List (S75)))))) else (some (0, ([] : List (S75))))) = some (r1, r2) := H
 have A3 := Gv.a0 A30
 clear A30
 by_cases c4 : t219 = true
 ·subst c4
  have H1 : ((impl_isCells.f a1).bind fun t220 => (if t220 = true then (if 0 ≤ a1 then (if (a1 : Int).toNat ≤ 2199023255552 then (some (a0, (List.replicate (a1 : Int).toNat z75))) else (none)) else (none)) else (some (0, ([] : List (S75)))))) = some (r1, r2) := by rw [if_pos rfl] at H; exact H
  clear H
  have H := H1
  clear H1
  replace H := Option.bind_eq_some_iff.mp H
  obtain ⟨t220, A50, H⟩ := H
  replace H : (if t220 = true then (if 0 ≤ a1 then (if (a1 : Int).toNat ≤ 2199023255552 then (some (a0, (List.replicate (a1 : Int).toNat z75))) else (none)) else (none)) else (some (0, ([] : List (S75))))) = some (r1, r2) := H
  have A5 := Gv.a0 A50
  clear A50
  by_cases c6 : t220 = true
  ·subst c6
   have H1 : (if 0 ≤ a1 then (if (a1 : Int).toNat ≤ 2199023255552 then (some (a0, (List.replicate (a1 : Int).toNat z75))) else (none)) else (none)) = some (r1, r2) := by rw [if_pos rfl] at H; exact H
   clear H
   have H := H1
   clear H1
   by_cases c7 : 0 ≤ a1
   ·rw [if_pos c7] at H
    have c7b0 := eq_true c7
    have c7b1 : decide (0 ≤ a1) = true := decide_eq_true c7
    clear c7
    by_cases c8 : (a1 : Int).toNat ≤ 2199023255552
    ·rw [if_pos c8] at H
     have c8b0 := eq_true c8
     have c8b1 : decide ((a1 : Int).toNat ≤ 2199023255552) = true := decide_eq_true c8
     clear c8
     obtain ⟨y221, hy221⟩ : ∃ y_ : List (S75), y_ = (List.replicate (a1 : Int).toNat z75) := ⟨_, rfl⟩
     replace H : (some (a0, y221)) = some (r1, r2) := by first | (rw [hy221]; with_reducible exact H) | (have H2_ := (Option.bind_some _ _).symm.trans H; rw [hy221]; with_reducible exact H2_) | (have H2_ := (Option.bind_some _ _).symm.trans H; with_reducible exact H2_) | with_reducible exact H | (rw [hy221]; exact H) | exact H
     have Ny221 := Gv.a0 hy221
     clear hy221
     simp only [Option.some.injEq, Prod.mk.injEq] at H
     obtain ⟨rfl, rfl⟩ := H
     go_enter Try.func19, Try.ntmps19
     go_wp2_with (first | ((with_reducible refine gate_dst (N := 4) rfl ?_); refine box_event ?hg (N := 4) ?hd (cs := #[.int .i64 0, .slice none 0 0]) (t := 40) ?hr ?_; (case hd => rfl); (case hg => rfl); (case hr => first | (go_simp; done) | (go_simp; rfl)); intro gb218 hg w9 hbox hb; have n0_ := Gv.a0 (below_step Gv.bw hb); have n1_ := Gv.a0 (hbox); have n2_ := Gv.a0 ((Gv.ble hg Gv.bw : w.heap.size ≤ gb218)); have n3_ := Gv.a0 ((Gv.ble hg Gv.bw : w.heap.size ≤ gb218)); clear HB; have HB := n0_; have BK218 := n1_; have GW218 := n2_; have GE218 := n3_; clear n0_ n1_ n2_ n3_; clear hb hbox hg) | ((with_reducible refine gate_callee (f := 44) rfl ?_); refine goesL_ (some 6) rfl rfl Try.func44 (by kernel_rfl) rfl #[.int .i64 a0, .int .i64 0, .int .i64 4294967295] rfl Gv.lm ?_; (with_reducible refine (impl_within.calls a0 0 4294967295 true _ A3.out).mono ?_); rintro e w' ⟨rfl, ⟨nd, rfl⟩⟩; refine ⟨_, rfl, ?_⟩; (try (rw [drewN_self w9]; generalize hq_ : World.drewN w9 _ = w9; have n0_ : Aside0 (w9.heap[gb218]? = some (.cells #[.int .i64 0, .slice none 0 0] 40 (0, 0))) := ⟨by rw [← hq_]; exact Gv.bk⟩; have n1_ : Aside0 (Below w.heap.size w w9) := ⟨by rw [← hq_]; exact Gv.bw⟩; clear BK218 HB hq_; have BK218 := n0_; have HB := n1_; clear n0_ n1_))) | (go_at_call 48; (with_reducible refine (impl_isCells.calls a1 true _ A5.out).mono ?_); rintro e w' ⟨rfl, ⟨nd, rfl⟩⟩; (try (rw [drewN_self w9]; generalize hq_ : World.drewN w9 _ = w9; have n0_ : Aside0 (w9.heap[gb218]? = some (.cells #[.int .i64 0, .slice none 0 0] 40 (0, 0))) := ⟨by rw [← hq_]; exact Gv.bk⟩; have n1_ : Aside0 (Below w.heap.size w w9) := ⟨by rw [← hq_]; exact Gv.bw⟩; clear BK218 HB hq_; have BK218 := n0_; have HB := n1_; clear n0_ n1_))) | ((with_reducible refine gate_dst (N := 16) rfl ?_); refine Kd.R_make k75 _ 75 rfl (N := 16) rfl 38 _ _ rfl a1 rfl rfl Try.underlying38 (.agg #[(.bool false), (.int .i64 0), (.int .i64 0), (.int .i64 0), (.int .i64 0), (.int .i64 0), (.int .i64 0), (.int .i64 0), (.int .i64 0), (.int .i64 0), (.int .i64 0), (.int .i64 0), (.int .i64 0), (.int .i64 0), (.int .i64 0), (.int .i64 0)]) 128 info75 rfl (by decide) (by omega) z75 (ok := fun _ => True) (okp := fun _ => True) (k75_mkM _ _ _ z75 ) (fun _ hk => hk) trivial (of_decide_eq_true (by first | (with_reducible assumption) | assumption)) (Nat.le_trans (Nat.mul_le_mul_right _ (of_decide_eq_true (by first | (with_reducible assumption) | assumption) : a1.toNat ≤ 2199023255552)) (by omega)) (Below.refl _ _) (Nat.le_refl _) ?_; intro v222 w10 ho11 hb hg_ hnew_; clear hg_ hnew_; (first | rw [← Ny221.out] at ho11 | (simp only [Int.reduceToNat] at ho11; rw [← Ny221.out] at ho11)); have n0_ := Gv.a0 (Kd.R_lower ho11 (below_size Gv.bw)); have n1_ := Gv.a0 (Gv.bb BK218.out hb); have n2_ := Gv.a0 (below_step Gv.bw hb); clear BK218; clear HB; have HO223 := n0_; have BK218 := n1_; have HB := n2_; clear n0_ n1_ n2_; clear hb ho11; obtain ⟨Ao12, co12, eo12⟩ := Kd.R_slice HO223.out; subst eo12; have hcz13_0 : w10.cell? ⟨gb218, 0, none⟩ = some (.int .i64 0) := (blk_cell BK218.out 0).trans rfl; have hcz13_1 : w10.cell? ⟨gb218, 1, none⟩ = some (.slice none 0 0) := (blk_cell BK218.out 1).trans rfl; have hfz13_0 := blk_frozen BK218.out 0; have hfz13_1 := blk_frozen BK218.out 1))
     refine bodyPost_ret (results_cell_row rfl _ _ gb218 40 #[.int .i64 a0, .slice Ao12 y221.length co12] (0, 0) _ rfl (by (with_reducible repeat (first | refine blk_drewN ?_ _ | refine blk_drew ?_ | refine blk_alloc ?_ _)); refine blk_put (cs := #[.int .i64 a0, .slice none 0 0]) ?_ 1 _ rfl; (with_reducible repeat (first | refine blk_drewN ?_ _ | refine blk_drew ?_ | refine blk_alloc ?_ _)); refine blk_put (cs := #[.int .i64 0, .slice none 0 0]) ?_ 0 _ rfl; (with_reducible repeat (first | refine blk_drewN ?_ _ | refine blk_drew ?_ | refine blk_alloc ?_ _)); exact BK218.out) Try.underlying40 rfl (by kernel_rfl)) rfl ?_
     exact ⟨_, Gv.rt, by (with_reducible repeat (first | apply Kd.R_alloc | apply Kd.R_drewN | apply Kd.R_drew)); exact Kd.R_mono (Kd.R_far (p := ⟨gb218, 1, none⟩) (Kd.R_far (p := ⟨gb218, 0, none⟩) (Kd.R_types HO223.out BK218.out (by decide)) (fun _ hk => hk.2) (.int .i64 a0)) (fun _ hk => hk.2) (.slice Ao12 y221.length co12)) (fun _ hk => trivial), Gv.bw⟩
    ·rw [if_neg c8] at H
     exact absurd H (by simp)
   ·rw [if_neg c7] at H
    exact absurd H (by simp)
  ·replace c6 := Bool.eq_false_iff.mpr c6
   subst c6
   have H1 : (some (0, ([] : List (S75)))) = some (r1, r2) := by rw [if_neg (show ¬ (false = true) by decide)] at H; exact H
   clear H
   have H := H1
   clear H1
   simp only [Option.some.injEq, Prod.mk.injEq] at H
   obtain ⟨rfl, rfl⟩ := H
   go_enter Try.func19, Try.ntmps19
   go_wp2_with (first | ((with_reducible refine gate_dst (N := 4) rfl ?_); refine box_event ?hg (N := 4) ?hd (cs := #[.int .i64 0, .slice none 0 0]) (t := 40) ?hr ?_; (case hd => rfl); (case hg => rfl); (case hr => first | (go_simp; done) | (go_simp; rfl)); intro gb218 hg w14 hbox hb; have n0_ := Gv.a0 (below_step Gv.bw hb); have n1_ := Gv.a0 (hbox); have n2_ := Gv.a0 ((Gv.ble hg Gv.bw : w.heap.size ≤ gb218)); have n3_ := Gv.a0 ((Gv.ble hg Gv.bw : w.heap.size ≤ gb218)); clear HB; have HB := n0_; have BK218 := n1_; have GW218 := n2_; have GE218 := n3_; clear n0_ n1_ n2_ n3_; clear hb hbox hg) | ((with_reducible refine gate_callee (f := 44) rfl ?_); refine goesL_ (some 6) rfl rfl Try.func44 (by kernel_rfl) rfl #[.int .i64 a0, .int .i64 0, .int .i64 4294967295] rfl Gv.lm ?_; (with_reducible refine (impl_within.calls a0 0 4294967295 true _ A3.out).mono ?_); rintro e w' ⟨rfl, ⟨nd, rfl⟩⟩; refine ⟨_, rfl, ?_⟩; (try (rw [drewN_self w14]; generalize hq_ : World.drewN w14 _ = w14; have n0_ : Aside0 (w14.heap[gb218]? = some (.cells #[.int .i64 0, .slice none 0 0] 40 (0, 0))) := ⟨by rw [← hq_]; exact Gv.bk⟩; have n1_ : Aside0 (Below w.heap.size w w14) := ⟨by rw [← hq_]; exact Gv.bw⟩; clear BK218 HB hq_; have BK218 := n0_; have HB := n1_; clear n0_ n1_))) | (go_at_call 48; (with_reducible refine (impl_isCells.calls a1 false _ A5.out).mono ?_); rintro e w' ⟨rfl, ⟨nd, rfl⟩⟩; (try (rw [drewN_self w14]; generalize hq_ : World.drewN w14 _ = w14; have n0_ : Aside0 (w14.heap[gb218]? = some (.cells #[.int .i64 0, .slice none 0 0] 40 (0, 0))) := ⟨by rw [← hq_]; exact Gv.bk⟩; have n1_ : Aside0 (Below w.heap.size w w14) := ⟨by rw [← hq_]; exact Gv.bw⟩; clear BK218 HB hq_; have BK218 := n0_; have HB := n1_; clear n0_ n1_)); have hcz15_0 : w14.cell? ⟨gb218, 0, none⟩ = some (.int .i64 0) := (blk_cell BK218.out 0).trans rfl; have hcz15_1 : w14.cell? ⟨gb218, 1, none⟩ = some (.slice none 0 0) := (blk_cell BK218.out 1).trans rfl; have hfz15_0 := blk_frozen BK218.out 0; have hfz15_1 := blk_frozen BK218.out 1))
   refine bodyPost_ret (results_cell_row rfl _ _ gb218 40 #[.int .i64 0, .slice none 0 0] (0, 0) _ rfl (by (with_reducible repeat (first | refine blk_drewN ?_ _ | refine blk_drew ?_ | refine blk_alloc ?_ _)); refine blk_put (cs := #[.int .i64 0, .slice none 0 0]) ?_ 1 _ rfl; (with_reducible repeat (first | refine blk_drewN ?_ _ | refine blk_drew ?_ | refine blk_alloc ?_ _)); refine blk_put (cs := #[.int .i64 0, .slice none 0 0]) ?_ 0 _ rfl; (with_reducible repeat (first | refine blk_drewN ?_ _ | refine blk_drew ?_ | refine blk_alloc ?_ _)); exact BK218.out) Try.underlying40 rfl (by kernel_rfl)) rfl ?_
   exact ⟨_, Gv.rt, by first | exact Kd.R_nil _ _ _ _ _ | exact Kd.N_nil _ _ _ _ _ | exact Kd.V_nil _ _ _ _ _ | exact Kd.Q_nil _ _ _ _ _ | exact Kd.S_nil _ _ _ _ _, Gv.bw⟩
 ·replace c4 := Bool.eq_false_iff.mpr c4
  subst c4
  have H1 : (some (0, ([] : List (S75)))) = some (r1, r2) := by rw [if_neg (show ¬ (false = true) by decide)] at H; exact H
  clear H
  have H := H1
  clear H1
  simp only [Option.some.injEq, Prod.mk.injEq] at H
  obtain ⟨rfl, rfl⟩ := H
  go_enter Try.func19, Try.ntmps19
  go_wp2_with (first | ((with_reducible refine gate_dst (N := 4) rfl ?_); refine box_event ?hg (N := 4) ?hd (cs := #[.int .i64 0, .slice none 0 0]) (t := 40) ?hr ?_; (case hd => rfl); (case hg => rfl); (case hr => first | (go_simp; done) | (go_simp; rfl)); intro gb218 hg w16 hbox hb; have n0_ := Gv.a0 (below_step Gv.bw hb); have n1_ := Gv.a0 (hbox); have n2_ := Gv.a0 ((Gv.ble hg Gv.bw : w.heap.size ≤ gb218)); have n3_ := Gv.a0 ((Gv.ble hg Gv.bw : w.heap.size ≤ gb218)); clear HB; have HB := n0_; have BK218 := n1_; have GW218 := n2_; have GE218 := n3_; clear n0_ n1_ n2_ n3_; clear hb hbox hg) | ((with_reducible refine gate_callee (f := 44) rfl ?_); refine goesL_ (some 6) rfl rfl Try.func44 (by kernel_rfl) rfl #[.int .i64 a0, .int .i64 0, .int .i64 4294967295] rfl Gv.lm ?_; (with_reducible refine (impl_within.calls a0 0 4294967295 false _ A3.out).mono ?_); rintro e w' ⟨rfl, ⟨nd, rfl⟩⟩; refine ⟨_, rfl, ?_⟩; (try (rw [drewN_self w16]; generalize hq_ : World.drewN w16 _ = w16; have n0_ : Aside0 (w16.heap[gb218]? = some (.cells #[.int .i64 0, .slice none 0 0] 40 (0, 0))) := ⟨by rw [← hq_]; exact Gv.bk⟩; have n1_ : Aside0 (Below w.heap.size w w16) := ⟨by rw [← hq_]; exact Gv.bw⟩; clear BK218 HB hq_; have BK218 := n0_; have HB := n1_; clear n0_ n1_)); have hcz17_0 : w16.cell? ⟨gb218, 0, none⟩ = some (.int .i64 0) := (blk_cell BK218.out 0).trans rfl; have hcz17_1 : w16.cell? ⟨gb218, 1, none⟩ = some (.slice none 0 0) := (blk_cell BK218.out 1).trans rfl; have hfz17_0 := blk_frozen BK218.out 0; have hfz17_1 := blk_frozen BK218.out 1))
  refine bodyPost_ret (results_cell_row rfl _ _ gb218 40 #[.int .i64 0, .slice none 0 0] (0, 0) _ rfl (by (with_reducible repeat (first | refine blk_drewN ?_ _ | refine blk_drew ?_ | refine blk_alloc ?_ _)); refine blk_put (cs := #[.int .i64 0, .slice none 0 0]) ?_ 1 _ rfl; (with_reducible repeat (first | refine blk_drewN ?_ _ | refine blk_drew ?_ | refine blk_alloc ?_ _)); refine blk_put (cs := #[.int .i64 0, .slice none 0 0]) ?_ 0 _ rfl; (with_reducible repeat (first | refine blk_drewN ?_ _ | refine blk_drew ?_ | refine blk_alloc ?_ _)); exact BK218.out) Try.underlying40 rfl (by kernel_rfl)) rfl ?_
  exact ⟨_, Gv.rt, by first | exact Kd.R_nil _ _ _ _ _ | exact Kd.N_nil _ _ _ _ _ | exact Kd.V_nil _ _ _ _ _ | exact Kd.Q_nil _ _ _ _ _ | exact Kd.S_nil _ _ _ _ _, Gv.bw⟩

/-! ### laws_eqAddr: function 88 -/
def laws_eqAddr.f (a0_0 : Int) (a0_1 : Int) (a0_2 : Int) (a0_3 : Int) (a0_4 : Int) (a1_0 : Int) (a1_1 : Int) (a1_2 : Int) (a1_3 : Int) (a1_4 : Int) : Option (Bool) := if a0_0 = a1_0 then (if a0_1 = a1_1 then (if a0_2 = a1_2 then (if a0_3 = a1_3 then (if a0_4 = a1_4 then (some true) else (none)) else (none)) else (none)) else (none)) else (none)
set_option maxHeartbeats 8000000 in
set_option maxRecDepth 100000 in
theorem laws_eqAddr.calls (a0_0 : Int) (a0_1 : Int) (a0_2 : Int) (a0_3 : Int) (a0_4 : Int) (a1_0 : Int) (a1_1 : Int) (a1_2 : Int) (a1_3 : Int) (a1_4 : Int) (r : Bool) (w : World) (h : laws_eqAddr.f a0_0 a0_1 a0_2 a0_3 a0_4 a1_0 a1_1 a1_2 a1_3 a1_4 = some r) :
  Calls Try.prog 88 #[.agg #[.int .i64 a0_0, .int .i64 a0_1, .int .i64 a0_2, .int .i64 a0_3, .int .i64 a0_4], .agg #[.int .i64 a1_0, .int .i64 a1_1, .int .i64 a1_2, .int .i64 a1_3, .int .i64 a1_4]] w fun e w' => e = .returned (.bool r) ∧ Below w.heap.size w w' := by
 have hu29 := Try.underlying29
 have HB := Gv.a0 (Below.refl w.heap.size w)
 have H : (if a0_0 = a1_0 then (if a0_1 = a1_1 then (if a0_2 = a1_2 then (if a0_3 = a1_3 then (if a0_4 = a1_4 then (some true) else (none)) else (none)) else (none)) else (none)) else (none)) = some r := h
 clear h
 by_cases c3 : a0_0 = a1_0
 ·rw [if_pos c3] at H
  have c3b0 : (a0_0 == a1_0) = true := beq_iff_eq.mpr c3
  have c3b1 : (a0_0 != a1_0) = false := bne_eq_false_iff_eq.mpr c3
  clear c3
  by_cases c4 : a0_1 = a1_1
  ·rw [if_pos c4] at H
   have c4b0 : (a0_1 == a1_1) = true := beq_iff_eq.mpr c4
   have c4b1 : (a0_1 != a1_1) = false := bne_eq_false_iff_eq.mpr c4
   clear c4
   by_cases c5 : a0_2 = a1_2
   ·rw [if_pos c5] at H
    have c5b0 : (a0_2 == a1_2) = true := beq_iff_eq.mpr c5
    have c5b1 : (a0_2 != a1_2) = false := bne_eq_false_iff_eq.mpr c5
    clear c5
    by_cases c6 : a0_3 = a1_3
    ·rw [if_pos c6] at H
     have c6b0 : (a0_3 == a1_3) = true := beq_iff_eq.mpr c6
     have c6b1 : (a0_3 != a1_3) = false := bne_eq_false_iff_eq.mpr c6
     clear c6
     by_cases c7 : a0_4 = a1_4
     ·rw [if_pos c7] at H
      have c7b0 : (a0_4 == a1_4) = true := beq_iff_eq.mpr c7
      have c7b1 : (a0_4 != a1_4) = false := bne_eq_false_iff_eq.mpr c7
      clear c7
      obtain rfl := Option.some.inj H
      go_enter Try.func88, Try.ntmps88
      go_wp2_with (first | ((with_reducible refine gate_dst (N := 2) rfl ?_); refine box_event ?hg (N := 2) ?hd (cs := #[.int .i64 a0_0, .int .i64 a0_1, .int .i64 a0_2, .int .i64 a0_3, .int .i64 a0_4]) (t := 29) ?hr ?_; (case hd => rfl); (case hg => rfl); (case hr => first | (go_simp; done) | (go_simp; rfl)); intro gb224 hg w8 hbox hb; have n0_ := Gv.a0 (below_step Gv.bw hb); have n1_ := Gv.a0 (hbox); have n2_ := Gv.a0 ((Gv.ble hg Gv.bw : w.heap.size ≤ gb224)); have n3_ := Gv.a0 ((Gv.ble hg Gv.bw : w.heap.size ≤ gb224)); clear HB; have HB := n0_; have BK224 := n1_; have GW224 := n2_; have GE224 := n3_; clear n0_ n1_ n2_ n3_; clear hb hbox hg) | ((with_reducible refine gate_dst (N := 3) rfl ?_); refine box_event ?hg (N := 3) ?hd (cs := #[.int .i64 a1_0, .int .i64 a1_1, .int .i64 a1_2, .int .i64 a1_3, .int .i64 a1_4]) (t := 29) ?hr ?_; (case hd => rfl); (case hg => rfl); (case hr => first | (go_simp; done) | (go_simp; rfl)); intro gb225 hg w9 hbox hb; have n0_ := Gv.a0 (Gv.bb BK224.out hb); have n1_ := Gv.a0 (below_step Gv.bw hb); have n2_ := Gv.a0 (hbox); have n3_ := Gv.a0 ((Gv.ble hg Gv.bw : w.heap.size ≤ gb225)); have n4_ := Gv.a0 ((Gv.ble hg Gv.bw : w.heap.size ≤ gb225)); have n5_ := Gv.a0 ((Gv.nlt hg (Gv.kb BK224.out) : gb224 ≠ gb225)); have n6_ := Gv.a0 ((Gv.ngt hg (Gv.kb BK224.out) : gb225 ≠ gb224)); clear BK224; clear HB; have BK224 := n0_; have HB := n1_; have BK225 := n2_; have GW225 := n3_; have GE225 := n4_; have NB224_225 := n5_; have NB225_224 := n6_; clear n0_ n1_ n2_ n3_ n4_ n5_ n6_; clear hb hbox hg; have hnb10 := NB224_225.out; have hnc10 := NB225_224.out; obtain ⟨hcz11_0, hcz11_1, hcz11_2, hcz11_3, hcz11_4⟩ := Gv.c5 BK224.out; obtain ⟨hfz11_0, hfz11_1, hfz11_2, hfz11_3, hfz11_4⟩ := Gv.f5 BK224.out; obtain ⟨hcz12_0, hcz12_1, hcz12_2, hcz12_3, hcz12_4⟩ := Gv.c5 BK225.out; obtain ⟨hfz12_0, hfz12_1, hfz12_2, hfz12_3, hfz12_4⟩ := Gv.f5 BK225.out))
      go_ret
      exact ⟨Gv.rt, Gv.bw⟩
     ·rw [if_neg c7] at H
      exact absurd H (by simp)
    ·rw [if_neg c6] at H
     exact absurd H (by simp)
   ·rw [if_neg c5] at H
    exact absurd H (by simp)
  ·rw [if_neg c4] at H
   exact absurd H (by simp)
 ·rw [if_neg c3] at H
  exact absurd H (by simp)

/-! ### laws_eqKey: function 78 -/
def laws_eqKey.f (a0_0 : Int) (a0_1 : Int) (a0_2 : Int) (a0_3 : Int) (a0_4 : Int) (a0_5 : Int) (a0_6 : Int) (a0_7 : Int) (a0_8 : Int) (a0_9 : Int) (a0_10 : Int) (a0_11 : Int) (a0_12 : Int) (a1_0 : Int) (a1_1 : Int) (a1_2 : Int) (a1_3 : Int) (a1_4 : Int) (a1_5 : Int) (a1_6 : Int) (a1_7 : Int) (a1_8 : Int) (a1_9 : Int) (a1_10 : Int) (a1_11 : Int) (a1_12 : Int) : Option (Bool) := (laws_eqAddr.f a0_0 a0_1 a0_2 a0_3 a0_4 a1_0 a1_1 a1_2 a1_3 a1_4).bind fun t228 => (if t228 = true then ((laws_eqAddr.f a0_5 a0_6 a0_7 a0_8 a0_9 a1_5 a1_6 a1_7 a1_8 a1_9).bind fun t229 => (if t229 = true then (if a0_10 = a1_10 then (if a0_11 = a1_11 then (if a0_12 = a1_12 then (some true) else (none)) else (none)) else (none)) else (none))) else (none))
set_option maxHeartbeats 8000000 in
set_option maxRecDepth 100000 in
theorem laws_eqKey.calls (a0_0 : Int) (a0_1 : Int) (a0_2 : Int) (a0_3 : Int) (a0_4 : Int) (a0_5 : Int) (a0_6 : Int) (a0_7 : Int) (a0_8 : Int) (a0_9 : Int) (a0_10 : Int) (a0_11 : Int) (a0_12 : Int) (a1_0 : Int) (a1_1 : Int) (a1_2 : Int) (a1_3 : Int) (a1_4 : Int) (a1_5 : Int) (a1_6 : Int) (a1_7 : Int) (a1_8 : Int) (a1_9 : Int) (a1_10 : Int) (a1_11 : Int) (a1_12 : Int) (r : Bool) (w : World) (h : laws_eqKey.f a0_0 a0_1 a0_2 a0_3 a0_4 a0_5 a0_6 a0_7 a0_8 a0_9 a0_10 a0_11 a0_12 a1_0 a1_1 a1_2 a1_3 a1_4 a1_5 a1_6 a1_7 a1_8 a1_9 a1_10 a1_11 a1_12 = some r) :
  Calls Try.prog 78 #[.agg #[.int .i64 a0_0, .int .i64 a0_1, .int .i64 a0_2, .int .i64 a0_3, .int .i64 a0_4, .int .i64 a0_5, .int .i64 a0_6, .int .i64 a0_7, .int .i64 a0_8, .int .i64 a0_9, .int .i64 a0_10, .int .i64 a0_11, .int .i64 a0_12], .agg #[.int .i64 a1_0, .int .i64 a1_1, .int .i64 a1_2, .int .i64 a1_3, .int .i64 a1_4, .int .i64 a1_5, .int .i64 a1_6, .int .i64 a1_7, .int .i64 a1_8, .int .i64 a1_9, .int .i64 a1_10, .int .i64 a1_11, .int .i64 a1_12]] w fun e w' => e = .returned (.bool r) ∧ Below w.heap.size w w' := by
 have hu31 := Try.underlying31
 have hu29 := Try.underlying29
 have HB := Gv.a0 (Below.refl w.heap.size w)
 have H : ((laws_eqAddr.f a0_0 a0_1 a0_2 a0_3 a0_4 a1_0 a1_1 a1_2 a1_3 a1_4).bind fun t228 => (if t228 = true then ((laws_eqAddr.f a0_5 a0_6 a0_7 a0_8 a0_9 a1_5 a1_6 a1_7 a1_8 a1_9).bind fun t229 => (if t229 = true then (if a0_10 = a1_10 then (if a0_11 = a1_11 then (if a0_12 = a1_12 then (some true) else (none)) else (none)) else (none)) else (none))) else (none))) = some r := h
 clear h
 replace H := Option.bind_eq_some_iff.mp H
 obtain ⟨t228, A30, H⟩ := H
 replace H : (if t228 = true then ((laws_eqAddr.f a0_5 a0_6 a0_7 a0_8 a0_9 a1_5 a1_6 a1_7 a1_8 a1_9).bind fun t229 => (if t229 = true then (if a0_10 = a1_10 then (if a0_11 = a1_11 then (if a0_12 = a1_12 then (some true) else (none)) else (none)) else (none)) else (none))) else (none)) = some r := H
 have A3 := Gv.a0 A30
 clear A30
 by_cases c4 : t228 = true
 ·subst c4
  have H1 : ((laws_eqAddr.f a0_5 a0_6 a0_7 a0_8 a0_9 a1_5 a1_6 a1_7 a1_8 a1_9).bind fun t229 => (if t229 = true then (if a0_10 = a1_10 then (if a0_11 = a1_11 then (if a0_12 = a1_12 then (some true) else (none)) else (none)) else (none)) else (none))) = some r := by rw [if_pos rfl] at H; exact H
  clear H
  have H := H1
  clear H1
  replace H := Option.bind_eq_some_iff.mp H
  obtain ⟨t229, A50, H⟩ := H
  replace H : (if t229 = true then (if a0_10 = a1_10 then (if a0_11 = a1_11 then (if a0_12 = a1_12 then (some true) else (none)) else (none)) else (none)) else (none)) = some r := H
  have A5 := Gv.a0 A50
  clear A50
  by_cases c6 : t229 = true
  ·subst c6
   have H1 : (if a0_10 = a1_10 then (if a0_11 = a1_11 then (if a0_12 = a1_12 then (some true) else (none)) else (none)) else (none)) = some r := by rw [if_pos rfl] at H; exact H
   clear H
   have H := H1
   clear H1
   by_cases c7 : a0_10 = a1_10
   ·rw [if_pos c7] at H
    have c7b0 : (a0_10 == a1_10) = true := beq_iff_eq.mpr c7
    have c7b1 : (a0_10 != a1_10) = false := bne_eq_false_iff_eq.mpr c7
    clear c7
    by_cases c8 : a0_11 = a1_11
    ·rw [if_pos c8] at H
     have c8b0 : (a0_11 == a1_11) = true := beq_iff_eq.mpr c8
     have c8b1 : (a0_11 != a1_11) = false := bne_eq_false_iff_eq.mpr c8
     clear c8
     by_cases c9 : a0_12 = a1_12
     ·rw [if_pos c9] at H
      have c9b0 : (a0_12 == a1_12) = true := beq_iff_eq.mpr c9
      have c9b1 : (a0_12 != a1_12) = false := bne_eq_false_iff_eq.mpr c9
      clear c9
      obtain rfl := Option.some.inj H
      go_enter Try.func78, Try.ntmps78
      go_wp2_with (first | ((with_reducible refine gate_dst (N := 2) rfl ?_); refine box_event ?hg (N := 2) ?hd (cs := #[.int .i64 a0_0, .int .i64 a0_1, .int .i64 a0_2, .int .i64 a0_3, .int .i64 a0_4, .int .i64 a0_5, .int .i64 a0_6, .int .i64 a0_7, .int .i64 a0_8, .int .i64 a0_9, .int .i64 a0_10, .int .i64 a0_11, .int .i64 a0_12]) (t := 31) ?hr ?_; (case hd => rfl); (case hg => rfl); (case hr => first | (go_simp; done) | (go_simp; rfl)); intro gb226 hg w10 hbox hb; have n0_ := Gv.a0 (below_step Gv.bw hb); have n1_ := Gv.a0 (hbox); have n2_ := Gv.a0 ((Gv.ble hg Gv.bw : w.heap.size ≤ gb226)); have n3_ := Gv.a0 ((Gv.ble hg Gv.bw : w.heap.size ≤ gb226)); clear HB; have HB := n0_; have BK226 := n1_; have GW226 := n2_; have GE226 := n3_; clear n0_ n1_ n2_ n3_; clear hb hbox hg) | ((with_reducible refine gate_dst (N := 3) rfl ?_); refine box_event ?hg (N := 3) ?hd (cs := #[.int .i64 a1_0, .int .i64 a1_1, .int .i64 a1_2, .int .i64 a1_3, .int .i64 a1_4, .int .i64 a1_5, .int .i64 a1_6, .int .i64 a1_7, .int .i64 a1_8, .int .i64 a1_9, .int .i64 a1_10, .int .i64 a1_11, .int .i64 a1_12]) (t := 31) ?hr ?_; (case hd => rfl); (case hg => rfl); (case hr => first | (go_simp; done) | (go_simp; rfl)); intro gb227 hg w11 hbox hb; have n0_ := Gv.a0 (Gv.bb BK226.out hb); have n1_ := Gv.a0 (below_step Gv.bw hb); have n2_ := Gv.a0 (hbox); have n3_ := Gv.a0 ((Gv.ble hg Gv.bw : w.heap.size ≤ gb227)); have n4_ := Gv.a0 ((Gv.ble hg Gv.bw : w.heap.size ≤ gb227)); have n5_ := Gv.a0 ((Gv.nlt hg (Gv.kb BK226.out) : gb226 ≠ gb227)); have n6_ := Gv.a0 ((Gv.ngt hg (Gv.kb BK226.out) : gb227 ≠ gb226)); clear BK226; clear HB; have BK226 := n0_; have HB := n1_; have BK227 := n2_; have GW227 := n3_; have GE227 := n4_; have NB226_227 := n5_; have NB227_226 := n6_; clear n0_ n1_ n2_ n3_ n4_ n5_ n6_; clear hb hbox hg; have hnb12 := NB226_227.out; have hnc12 := NB227_226.out; obtain ⟨hcz13_0, hcz13_1, hcz13_2, hcz13_3, hcz13_4, hcz13_5, hcz13_6, hcz13_7, hcz13_8, hcz13_9, hcz13_10, hcz13_11, hcz13_12⟩ := Gv.c13 BK226.out; obtain ⟨hfz13_0, hfz13_1, hfz13_2, hfz13_3, hfz13_4, hfz13_5, hfz13_6, hfz13_7, hfz13_8, hfz13_9, hfz13_10, hfz13_11, hfz13_12⟩ := Gv.f13 BK226.out; obtain ⟨hcz14_0, hcz14_1, hcz14_2, hcz14_3, hcz14_4, hcz14_5, hcz14_6, hcz14_7, hcz14_8, hcz14_9, hcz14_10, hcz14_11, hcz14_12⟩ := Gv.c13 BK227.out; obtain ⟨hfz14_0, hfz14_1, hfz14_2, hfz14_3, hfz14_4, hfz14_5, hfz14_6, hfz14_7, hfz14_8, hfz14_9, hfz14_10, hfz14_11, hfz14_12⟩ := Gv.f13 BK227.out) | ((with_reducible refine gate_callee (f := 88) rfl ?_); refine goesL_ (some 9) rfl rfl Try.func88 (by kernel_rfl) rfl #[.agg #[.int .i64 a0_0, .int .i64 a0_1, .int .i64 a0_2, .int .i64 a0_3, .int .i64 a0_4], .agg #[.int .i64 a1_0, .int .i64 a1_1, .int .i64 a1_2, .int .i64 a1_3, .int .i64 a1_4]] rfl Gv.lm ?_; (with_reducible refine (laws_eqAddr.calls a0_0 a0_1 a0_2 a0_3 a0_4 a1_0 a1_1 a1_2 a1_3 a1_4 true _ A3.out).mono ?_); rintro e w15 ⟨rfl, hb⟩; refine ⟨_, rfl, ?_⟩; have n0_ := Gv.a0 (Gv.bb BK226.out hb); have n1_ := Gv.a0 (Gv.bb BK227.out hb); have n2_ := Gv.a0 (below_step Gv.bw hb); clear BK226; clear BK227; clear HB; have BK226 := n0_; have BK227 := n1_; have HB := n2_; clear n0_ n1_ n2_; (try clear hb); (try clear hb2); (try clear hk); (try clear hi); obtain ⟨hcz16_0, hcz16_1, hcz16_2, hcz16_3, hcz16_4, hcz16_5, hcz16_6, hcz16_7, hcz16_8, hcz16_9, hcz16_10, hcz16_11, hcz16_12⟩ := Gv.c13 BK226.out; obtain ⟨hfz16_0, hfz16_1, hfz16_2, hfz16_3, hfz16_4, hfz16_5, hfz16_6, hfz16_7, hfz16_8, hfz16_9, hfz16_10, hfz16_11, hfz16_12⟩ := Gv.f13 BK226.out; obtain ⟨hcz17_0, hcz17_1, hcz17_2, hcz17_3, hcz17_4, hcz17_5, hcz17_6, hcz17_7, hcz17_8, hcz17_9, hcz17_10, hcz17_11, hcz17_12⟩ := Gv.c13 BK227.out; obtain ⟨hfz17_0, hfz17_1, hfz17_2, hfz17_3, hfz17_4, hfz17_5, hfz17_6, hfz17_7, hfz17_8, hfz17_9, hfz17_10, hfz17_11, hfz17_12⟩ := Gv.f13 BK227.out) | ((with_reducible refine gate_callee (f := 88) rfl ?_); refine goesL_ (some 15) rfl rfl Try.func88 (by kernel_rfl) rfl #[.agg #[.int .i64 a0_5, .int .i64 a0_6, .int .i64 a0_7, .int .i64 a0_8, .int .i64 a0_9], .agg #[.int .i64 a1_5, .int .i64 a1_6, .int .i64 a1_7, .int .i64 a1_8, .int .i64 a1_9]] rfl Gv.lm ?_; (with_reducible refine (laws_eqAddr.calls a0_5 a0_6 a0_7 a0_8 a0_9 a1_5 a1_6 a1_7 a1_8 a1_9 true _ A5.out).mono ?_); rintro e w18 ⟨rfl, hb⟩; refine ⟨_, rfl, ?_⟩; have n0_ := Gv.a0 (Gv.bb BK226.out hb); have n1_ := Gv.a0 (Gv.bb BK227.out hb); have n2_ := Gv.a0 (below_step Gv.bw hb); clear BK226; clear BK227; clear HB; have BK226 := n0_; have BK227 := n1_; have HB := n2_; clear n0_ n1_ n2_; (try clear hb); (try clear hb2); (try clear hk); (try clear hi); obtain ⟨hcz19_0, hcz19_1, hcz19_2, hcz19_3, hcz19_4, hcz19_5, hcz19_6, hcz19_7, hcz19_8, hcz19_9, hcz19_10, hcz19_11, hcz19_12⟩ := Gv.c13 BK226.out; obtain ⟨hfz19_0, hfz19_1, hfz19_2, hfz19_3, hfz19_4, hfz19_5, hfz19_6, hfz19_7, hfz19_8, hfz19_9, hfz19_10, hfz19_11, hfz19_12⟩ := Gv.f13 BK226.out; obtain ⟨hcz20_0, hcz20_1, hcz20_2, hcz20_3, hcz20_4, hcz20_5, hcz20_6, hcz20_7, hcz20_8, hcz20_9, hcz20_10, hcz20_11, hcz20_12⟩ := Gv.c13 BK227.out; obtain ⟨hfz20_0, hfz20_1, hfz20_2, hfz20_3, hfz20_4, hfz20_5, hfz20_6, hfz20_7, hfz20_8, hfz20_9, hfz20_10, hfz20_11, hfz20_12⟩ := Gv.f13 BK227.out))
      go_ret
      exact ⟨Gv.rt, Gv.bw⟩
     ·rw [if_neg c9] at H
      exact absurd H (by simp)
    ·rw [if_neg c8] at H
     exact absurd H (by simp)
   ·rw [if_neg c7] at H
    exact absurd H (by simp)
  ·replace c6 := Bool.eq_false_iff.mpr c6
   subst c6
   have H1 : (none) = some r := by rw [if_neg (show ¬ (false = true) by decide)] at H; exact H
   clear H
   have H := H1
   clear H1
   exact absurd H (by simp)
 ·replace c4 := Bool.eq_false_iff.mpr c4
  subst c4
  have H1 : (none) = some r := by rw [if_neg (show ¬ (false = true) by decide)] at H; exact H
  clear H
  have H := H1
  clear H1
  exact absurd H (by simp)

/-! ### laws_eqFlowKey: function 61 -/
def laws_eqFlowKey.f (a0_0 : Int) (a0_1 : Int) (a0_2 : Int) (a0_3 : Int) (a0_4 : Int) (a0_5 : Int) (a0_6 : Int) (a0_7 : Int) (a0_8 : Int) (a0_9 : Int) (a0_10 : Int) (a0_11 : Int) (a0_12 : Int) (a0_13 : Int) (a1_0 : Int) (a1_1 : Int) (a1_2 : Int) (a1_3 : Int) (a1_4 : Int) (a1_5 : Int) (a1_6 : Int) (a1_7 : Int) (a1_8 : Int) (a1_9 : Int) (a1_10 : Int) (a1_11 : Int) (a1_12 : Int) (a1_13 : Int) : Option (Bool) := if a0_0 = a1_0 then ((laws_eqKey.f a0_1 a0_2 a0_3 a0_4 a0_5 a0_6 a0_7 a0_8 a0_9 a0_10 a0_11 a0_12 a0_13 a1_1 a1_2 a1_3 a1_4 a1_5 a1_6 a1_7 a1_8 a1_9 a1_10 a1_11 a1_12 a1_13).bind fun t232 => (if t232 = true then (some true) else (none))) else (none)
set_option maxHeartbeats 8000000 in
set_option maxRecDepth 100000 in
theorem laws_eqFlowKey.calls (a0_0 : Int) (a0_1 : Int) (a0_2 : Int) (a0_3 : Int) (a0_4 : Int) (a0_5 : Int) (a0_6 : Int) (a0_7 : Int) (a0_8 : Int) (a0_9 : Int) (a0_10 : Int) (a0_11 : Int) (a0_12 : Int) (a0_13 : Int) (a1_0 : Int) (a1_1 : Int) (a1_2 : Int) (a1_3 : Int) (a1_4 : Int) (a1_5 : Int) (a1_6 : Int) (a1_7 : Int) (a1_8 : Int) (a1_9 : Int) (a1_10 : Int) (a1_11 : Int) (a1_12 : Int) (a1_13 : Int) (r : Bool) (w : World) (h : laws_eqFlowKey.f a0_0 a0_1 a0_2 a0_3 a0_4 a0_5 a0_6 a0_7 a0_8 a0_9 a0_10 a0_11 a0_12 a0_13 a1_0 a1_1 a1_2 a1_3 a1_4 a1_5 a1_6 a1_7 a1_8 a1_9 a1_10 a1_11 a1_12 a1_13 = some r) :
  Calls Try.prog 61 #[.agg #[.int .i64 a0_0, .int .i64 a0_1, .int .i64 a0_2, .int .i64 a0_3, .int .i64 a0_4, .int .i64 a0_5, .int .i64 a0_6, .int .i64 a0_7, .int .i64 a0_8, .int .i64 a0_9, .int .i64 a0_10, .int .i64 a0_11, .int .i64 a0_12, .int .i64 a0_13], .agg #[.int .i64 a1_0, .int .i64 a1_1, .int .i64 a1_2, .int .i64 a1_3, .int .i64 a1_4, .int .i64 a1_5, .int .i64 a1_6, .int .i64 a1_7, .int .i64 a1_8, .int .i64 a1_9, .int .i64 a1_10, .int .i64 a1_11, .int .i64 a1_12, .int .i64 a1_13]] w fun e w' => e = .returned (.bool r) ∧ Below w.heap.size w w' := by
 have hu33 := Try.underlying33
 have hu31 := Try.underlying31
 have HB := Gv.a0 (Below.refl w.heap.size w)
 have H : (if a0_0 = a1_0 then ((laws_eqKey.f a0_1 a0_2 a0_3 a0_4 a0_5 a0_6 a0_7 a0_8 a0_9 a0_10 a0_11 a0_12 a0_13 a1_1 a1_2 a1_3 a1_4 a1_5 a1_6 a1_7 a1_8 a1_9 a1_10 a1_11 a1_12 a1_13).bind fun t232 => (if t232 = true then (some true) else (none))) else (none)) = some r := h
 clear h
 by_cases c3 : a0_0 = a1_0
 ·rw [if_pos c3] at H
  have c3b0 : (a0_0 == a1_0) = true := beq_iff_eq.mpr c3
  have c3b1 : (a0_0 != a1_0) = false := bne_eq_false_iff_eq.mpr c3
  clear c3
  replace H := Option.bind_eq_some_iff.mp H
  obtain ⟨t232, A40, H⟩ := H
  replace H : (if t232 = true then (some true) else (none)) = some r := H
  have A4 := Gv.a0 A40
  clear A40
  by_cases c5 : t232 = true
  ·subst c5
   have H1 : (some true) = some r := by rw [if_pos rfl] at H; exact H
   clear H
   have H := H1
   clear H1
   obtain rfl := Option.some.inj H
   go_enter Try.func61, Try.ntmps61
   go_wp2_with (first | ((with_reducible refine gate_dst (N := 2) rfl ?_); refine box_event ?hg (N := 2) ?hd (cs := #[.int .i64 a0_0, .int .i64 a0_1, .int .i64 a0_2, .int .i64 a0_3, .int .i64 a0_4, .int .i64 a0_5, .int .i64 a0_6, .int .i64 a0_7, .int .i64 a0_8, .int .i64 a0_9, .int .i64 a0_10, .int .i64 a0_11, .int .i64 a0_12, .int .i64 a0_13]) (t := 33) ?hr ?_; (case hd => rfl); (case hg => rfl); (case hr => first | (go_simp; done) | (go_simp; rfl)); intro gb230 hg w6 hbox hb; have n0_ := Gv.a0 (below_step Gv.bw hb); have n1_ := Gv.a0 (hbox); have n2_ := Gv.a0 ((Gv.ble hg Gv.bw : w.heap.size ≤ gb230)); have n3_ := Gv.a0 ((Gv.ble hg Gv.bw : w.heap.size ≤ gb230)); clear HB; have HB := n0_; have BK230 := n1_; have GW230 := n2_; have GE230 := n3_; clear n0_ n1_ n2_ n3_; clear hb hbox hg) | ((with_reducible refine gate_dst (N := 3) rfl ?_); refine box_event ?hg (N := 3) ?hd (cs := #[.int .i64 a1_0, .int .i64 a1_1, .int .i64 a1_2, .int .i64 a1_3, .int .i64 a1_4, .int .i64 a1_5, .int .i64 a1_6, .int .i64 a1_7, .int .i64 a1_8, .int .i64 a1_9, .int .i64 a1_10, .int .i64 a1_11, .int .i64 a1_12, .int .i64 a1_13]) (t := 33) ?hr ?_; (case hd => rfl); (case hg => rfl); (case hr => first | (go_simp; done) | (go_simp; rfl)); intro gb231 hg w7 hbox hb; have n0_ := Gv.a0 (Gv.bb BK230.out hb); have n1_ := Gv.a0 (below_step Gv.bw hb); have n2_ := Gv.a0 (hbox); have n3_ := Gv.a0 ((Gv.ble hg Gv.bw : w.heap.size ≤ gb231)); have n4_ := Gv.a0 ((Gv.ble hg Gv.bw : w.heap.size ≤ gb231)); have n5_ := Gv.a0 ((Gv.nlt hg (Gv.kb BK230.out) : gb230 ≠ gb231)); have n6_ := Gv.a0 ((Gv.ngt hg (Gv.kb BK230.out) : gb231 ≠ gb230)); clear BK230; clear HB; have BK230 := n0_; have HB := n1_; have BK231 := n2_; have GW231 := n3_; have GE231 := n4_; have NB230_231 := n5_; have NB231_230 := n6_; clear n0_ n1_ n2_ n3_ n4_ n5_ n6_; clear hb hbox hg; have hnb8 := NB230_231.out; have hnc8 := NB231_230.out; obtain ⟨hcz9_0, hcz9_1, hcz9_2, hcz9_3, hcz9_4, hcz9_5, hcz9_6, hcz9_7, hcz9_8, hcz9_9, hcz9_10, hcz9_11, hcz9_12, hcz9_13⟩ := Gv.c14 BK230.out; obtain ⟨hfz9_0, hfz9_1, hfz9_2, hfz9_3, hfz9_4, hfz9_5, hfz9_6, hfz9_7, hfz9_8, hfz9_9, hfz9_10, hfz9_11, hfz9_12, hfz9_13⟩ := Gv.f14 BK230.out; obtain ⟨hcz10_0, hcz10_1, hcz10_2, hcz10_3, hcz10_4, hcz10_5, hcz10_6, hcz10_7, hcz10_8, hcz10_9, hcz10_10, hcz10_11, hcz10_12, hcz10_13⟩ := Gv.c14 BK231.out; obtain ⟨hfz10_0, hfz10_1, hfz10_2, hfz10_3, hfz10_4, hfz10_5, hfz10_6, hfz10_7, hfz10_8, hfz10_9, hfz10_10, hfz10_11, hfz10_12, hfz10_13⟩ := Gv.f14 BK231.out) | ((with_reducible refine gate_callee (f := 78) rfl ?_); refine goesL_ (some 14) rfl rfl Try.func78 (by kernel_rfl) rfl #[.agg #[.int .i64 a0_1, .int .i64 a0_2, .int .i64 a0_3, .int .i64 a0_4, .int .i64 a0_5, .int .i64 a0_6, .int .i64 a0_7, .int .i64 a0_8, .int .i64 a0_9, .int .i64 a0_10, .int .i64 a0_11, .int .i64 a0_12, .int .i64 a0_13], .agg #[.int .i64 a1_1, .int .i64 a1_2, .int .i64 a1_3, .int .i64 a1_4, .int .i64 a1_5, .int .i64 a1_6, .int .i64 a1_7, .int .i64 a1_8, .int .i64 a1_9, .int .i64 a1_10, .int .i64 a1_11, .int .i64 a1_12, .int .i64 a1_13]] rfl Gv.lm ?_; (with_reducible refine (laws_eqKey.calls a0_1 a0_2 a0_3 a0_4 a0_5 a0_6 a0_7 a0_8 a0_9 a0_10 a0_11 a0_12 a0_13 a1_1 a1_2 a1_3 a1_4 a1_5 a1_6 a1_7 a1_8 a1_9 a1_10 a1_11 a1_12 a1_13 true _ A4.out).mono ?_); rintro e w11 ⟨rfl, hb⟩; refine ⟨_, rfl, ?_⟩; have n0_ := Gv.a0 (Gv.bb BK230.out hb); have n1_ := Gv.a0 (Gv.bb BK231.out hb); have n2_ := Gv.a0 (below_step Gv.bw hb); clear BK230; clear BK231; clear HB; have BK230 := n0_; have BK231 := n1_; have HB := n2_; clear n0_ n1_ n2_; (try clear hb); (try clear hb2); (try clear hk); (try clear hi)))
   go_ret
   exact ⟨Gv.rt, Gv.bw⟩
  ·replace c5 := Bool.eq_false_iff.mpr c5
   subst c5
   have H1 : (none) = some r := by rw [if_neg (show ¬ (false = true) by decide)] at H; exact H
   clear H
   have H := H1
   clear H1
   exact absurd H (by simp)
 ·rw [if_neg c3] at H
  exact absurd H (by simp)

/-! ### laws_eqCell: function 76 -/
def laws_eqCell.f (a0_0 : Bool) (a0_1 : Int) (a0_2 : Int) (a0_3 : Int) (a0_4 : Int) (a0_5 : Int) (a0_6 : Int) (a0_7 : Int) (a0_8 : Int) (a0_9 : Int) (a0_10 : Int) (a0_11 : Int) (a0_12 : Int) (a0_13 : Int) (a0_14 : Int) (a0_15 : Int) (a1_0 : Bool) (a1_1 : Int) (a1_2 : Int) (a1_3 : Int) (a1_4 : Int) (a1_5 : Int) (a1_6 : Int) (a1_7 : Int) (a1_8 : Int) (a1_9 : Int) (a1_10 : Int) (a1_11 : Int) (a1_12 : Int) (a1_13 : Int) (a1_14 : Int) (a1_15 : Int) : Option (Bool) := if (a0_0 != a1_0) = true then (none) else ((laws_eqFlowKey.f a0_1 a0_2 a0_3 a0_4 a0_5 a0_6 a0_7 a0_8 a0_9 a0_10 a0_11 a0_12 a0_13 a0_14 a1_1 a1_2 a1_3 a1_4 a1_5 a1_6 a1_7 a1_8 a1_9 a1_10 a1_11 a1_12 a1_13 a1_14).bind fun t235 => (if t235 = true then (if a0_15 = a1_15 then (some true) else (none)) else (none)))
set_option maxHeartbeats 8000000 in
set_option maxRecDepth 100000 in
theorem laws_eqCell.calls (a0_0 : Bool) (a0_1 : Int) (a0_2 : Int) (a0_3 : Int) (a0_4 : Int) (a0_5 : Int) (a0_6 : Int) (a0_7 : Int) (a0_8 : Int) (a0_9 : Int) (a0_10 : Int) (a0_11 : Int) (a0_12 : Int) (a0_13 : Int) (a0_14 : Int) (a0_15 : Int) (a1_0 : Bool) (a1_1 : Int) (a1_2 : Int) (a1_3 : Int) (a1_4 : Int) (a1_5 : Int) (a1_6 : Int) (a1_7 : Int) (a1_8 : Int) (a1_9 : Int) (a1_10 : Int) (a1_11 : Int) (a1_12 : Int) (a1_13 : Int) (a1_14 : Int) (a1_15 : Int) (r : Bool) (w : World) (h : laws_eqCell.f a0_0 a0_1 a0_2 a0_3 a0_4 a0_5 a0_6 a0_7 a0_8 a0_9 a0_10 a0_11 a0_12 a0_13 a0_14 a0_15 a1_0 a1_1 a1_2 a1_3 a1_4 a1_5 a1_6 a1_7 a1_8 a1_9 a1_10 a1_11 a1_12 a1_13 a1_14 a1_15 = some r) :
  Calls Try.prog 76 #[.agg #[.bool a0_0, .int .i64 a0_1, .int .i64 a0_2, .int .i64 a0_3, .int .i64 a0_4, .int .i64 a0_5, .int .i64 a0_6, .int .i64 a0_7, .int .i64 a0_8, .int .i64 a0_9, .int .i64 a0_10, .int .i64 a0_11, .int .i64 a0_12, .int .i64 a0_13, .int .i64 a0_14, .int .i64 a0_15], .agg #[.bool a1_0, .int .i64 a1_1, .int .i64 a1_2, .int .i64 a1_3, .int .i64 a1_4, .int .i64 a1_5, .int .i64 a1_6, .int .i64 a1_7, .int .i64 a1_8, .int .i64 a1_9, .int .i64 a1_10, .int .i64 a1_11, .int .i64 a1_12, .int .i64 a1_13, .int .i64 a1_14, .int .i64 a1_15]] w fun e w' => e = .returned (.bool r) ∧ Below w.heap.size w w' := by
 have hu75 := Try.underlying75
 have hu33 := Try.underlying33
 have HB := Gv.a0 (Below.refl w.heap.size w)
 have H : (if (a0_0 != a1_0) = true then (none) else ((laws_eqFlowKey.f a0_1 a0_2 a0_3 a0_4 a0_5 a0_6 a0_7 a0_8 a0_9 a0_10 a0_11 a0_12 a0_13 a0_14 a1_1 a1_2 a1_3 a1_4 a1_5 a1_6 a1_7 a1_8 a1_9 a1_10 a1_11 a1_12 a1_13 a1_14).bind fun t235 => (if t235 = true then (if a0_15 = a1_15 then (some true) else (none)) else (none)))) = some r := h
 clear h
 by_cases c3 : (a0_0 != a1_0) = true
 ·rw [if_pos c3] at H
  exact absurd H (by simp)
 ·rw [if_neg c3] at H
  have c3b0 : (a0_0 != a1_0) = false := by simpa using c3
  (try (have c3b1 : decide (a0_0 = a1_0) = true := by simpa using c3))
  (try (have c3b2 : (a0_0 == a1_0) = true := by simpa using c3))
  clear c3
  replace H := Option.bind_eq_some_iff.mp H
  obtain ⟨t235, A40, H⟩ := H
  replace H : (if t235 = true then (if a0_15 = a1_15 then (some true) else (none)) else (none)) = some r := H
  have A4 := Gv.a0 A40
  clear A40
  by_cases c5 : t235 = true
  ·subst c5
   have H1 : (if a0_15 = a1_15 then (some true) else (none)) = some r := by rw [if_pos rfl] at H; exact H
   clear H
   have H := H1
   clear H1
   by_cases c6 : a0_15 = a1_15
   ·rw [if_pos c6] at H
    have c6b0 : (a0_15 == a1_15) = true := beq_iff_eq.mpr c6
    have c6b1 : (a0_15 != a1_15) = false := bne_eq_false_iff_eq.mpr c6
    clear c6
    obtain rfl := Option.some.inj H
    go_enter Try.func76, Try.ntmps76
    go_wp2_with (first | ((with_reducible refine gate_dst (N := 2) rfl ?_); refine box_event ?hg (N := 2) ?hd (cs := #[.bool a0_0, .int .i64 a0_1, .int .i64 a0_2, .int .i64 a0_3, .int .i64 a0_4, .int .i64 a0_5, .int .i64 a0_6, .int .i64 a0_7, .int .i64 a0_8, .int .i64 a0_9, .int .i64 a0_10, .int .i64 a0_11, .int .i64 a0_12, .int .i64 a0_13, .int .i64 a0_14, .int .i64 a0_15]) (t := 75) ?hr ?_; (case hd => rfl); (case hg => rfl); (case hr => first | (go_simp; done) | (go_simp; rfl)); intro gb233 hg w7 hbox hb; have n0_ := Gv.a0 (below_step Gv.bw hb); have n1_ := Gv.a0 (hbox); have n2_ := Gv.a0 ((Gv.ble hg Gv.bw : w.heap.size ≤ gb233)); have n3_ := Gv.a0 ((Gv.ble hg Gv.bw : w.heap.size ≤ gb233)); clear HB; have HB := n0_; have BK233 := n1_; have GW233 := n2_; have GE233 := n3_; clear n0_ n1_ n2_ n3_; clear hb hbox hg) | ((with_reducible refine gate_dst (N := 3) rfl ?_); refine box_event ?hg (N := 3) ?hd (cs := #[.bool a1_0, .int .i64 a1_1, .int .i64 a1_2, .int .i64 a1_3, .int .i64 a1_4, .int .i64 a1_5, .int .i64 a1_6, .int .i64 a1_7, .int .i64 a1_8, .int .i64 a1_9, .int .i64 a1_10, .int .i64 a1_11, .int .i64 a1_12, .int .i64 a1_13, .int .i64 a1_14, .int .i64 a1_15]) (t := 75) ?hr ?_; (case hd => rfl); (case hg => rfl); (case hr => first | (go_simp; done) | (go_simp; rfl)); intro gb234 hg w8 hbox hb; have n0_ := Gv.a0 (Gv.bb BK233.out hb); have n1_ := Gv.a0 (below_step Gv.bw hb); have n2_ := Gv.a0 (hbox); have n3_ := Gv.a0 ((Gv.ble hg Gv.bw : w.heap.size ≤ gb234)); have n4_ := Gv.a0 ((Gv.ble hg Gv.bw : w.heap.size ≤ gb234)); have n5_ := Gv.a0 ((Gv.nlt hg (Gv.kb BK233.out) : gb233 ≠ gb234)); have n6_ := Gv.a0 ((Gv.ngt hg (Gv.kb BK233.out) : gb234 ≠ gb233)); clear BK233; clear HB; have BK233 := n0_; have HB := n1_; have BK234 := n2_; have GW234 := n3_; have GE234 := n4_; have NB233_234 := n5_; have NB234_233 := n6_; clear n0_ n1_ n2_ n3_ n4_ n5_ n6_; clear hb hbox hg; have hnb9 := NB233_234.out; have hnc9 := NB234_233.out; obtain ⟨hcz10_0, hcz10_1, hcz10_2, hcz10_3, hcz10_4, hcz10_5, hcz10_6, hcz10_7, hcz10_8, hcz10_9, hcz10_10, hcz10_11, hcz10_12, hcz10_13, hcz10_14, hcz10_15⟩ := Gv.c16 BK233.out; obtain ⟨hfz10_0, hfz10_1, hfz10_2, hfz10_3, hfz10_4, hfz10_5, hfz10_6, hfz10_7, hfz10_8, hfz10_9, hfz10_10, hfz10_11, hfz10_12, hfz10_13, hfz10_14, hfz10_15⟩ := Gv.f16 BK233.out; obtain ⟨hcz11_0, hcz11_1, hcz11_2, hcz11_3, hcz11_4, hcz11_5, hcz11_6, hcz11_7, hcz11_8, hcz11_9, hcz11_10, hcz11_11, hcz11_12, hcz11_13, hcz11_14, hcz11_15⟩ := Gv.c16 BK234.out; obtain ⟨hfz11_0, hfz11_1, hfz11_2, hfz11_3, hfz11_4, hfz11_5, hfz11_6, hfz11_7, hfz11_8, hfz11_9, hfz11_10, hfz11_11, hfz11_12, hfz11_13, hfz11_14, hfz11_15⟩ := Gv.f16 BK234.out) | ((with_reducible refine gate_callee (f := 61) rfl ?_); refine goesL_ (some 14) rfl rfl Try.func61 (by kernel_rfl) rfl #[.agg #[.int .i64 a0_1, .int .i64 a0_2, .int .i64 a0_3, .int .i64 a0_4, .int .i64 a0_5, .int .i64 a0_6, .int .i64 a0_7, .int .i64 a0_8, .int .i64 a0_9, .int .i64 a0_10, .int .i64 a0_11, .int .i64 a0_12, .int .i64 a0_13, .int .i64 a0_14], .agg #[.int .i64 a1_1, .int .i64 a1_2, .int .i64 a1_3, .int .i64 a1_4, .int .i64 a1_5, .int .i64 a1_6, .int .i64 a1_7, .int .i64 a1_8, .int .i64 a1_9, .int .i64 a1_10, .int .i64 a1_11, .int .i64 a1_12, .int .i64 a1_13, .int .i64 a1_14]] rfl Gv.lm ?_; (with_reducible refine (laws_eqFlowKey.calls a0_1 a0_2 a0_3 a0_4 a0_5 a0_6 a0_7 a0_8 a0_9 a0_10 a0_11 a0_12 a0_13 a0_14 a1_1 a1_2 a1_3 a1_4 a1_5 a1_6 a1_7 a1_8 a1_9 a1_10 a1_11 a1_12 a1_13 a1_14 true _ A4.out).mono ?_); rintro e w12 ⟨rfl, hb⟩; refine ⟨_, rfl, ?_⟩; have n0_ := Gv.a0 (Gv.bb BK233.out hb); have n1_ := Gv.a0 (Gv.bb BK234.out hb); have n2_ := Gv.a0 (below_step Gv.bw hb); clear BK233; clear BK234; clear HB; have BK233 := n0_; have BK234 := n1_; have HB := n2_; clear n0_ n1_ n2_; (try clear hb); (try clear hb2); (try clear hk); (try clear hi); obtain ⟨hcz13_0, hcz13_1, hcz13_2, hcz13_3, hcz13_4, hcz13_5, hcz13_6, hcz13_7, hcz13_8, hcz13_9, hcz13_10, hcz13_11, hcz13_12, hcz13_13, hcz13_14, hcz13_15⟩ := Gv.c16 BK233.out; obtain ⟨hfz13_0, hfz13_1, hfz13_2, hfz13_3, hfz13_4, hfz13_5, hfz13_6, hfz13_7, hfz13_8, hfz13_9, hfz13_10, hfz13_11, hfz13_12, hfz13_13, hfz13_14, hfz13_15⟩ := Gv.f16 BK233.out; obtain ⟨hcz14_0, hcz14_1, hcz14_2, hcz14_3, hcz14_4, hcz14_5, hcz14_6, hcz14_7, hcz14_8, hcz14_9, hcz14_10, hcz14_11, hcz14_12, hcz14_13, hcz14_14, hcz14_15⟩ := Gv.c16 BK234.out; obtain ⟨hfz14_0, hfz14_1, hfz14_2, hfz14_3, hfz14_4, hfz14_5, hfz14_6, hfz14_7, hfz14_8, hfz14_9, hfz14_10, hfz14_11, hfz14_12, hfz14_13, hfz14_14, hfz14_15⟩ := Gv.f16 BK234.out))
    go_ret
    exact ⟨Gv.rt, Gv.bw⟩
   ·rw [if_neg c6] at H
    exact absurd H (by simp)
  ·replace c5 := Bool.eq_false_iff.mpr c5
   subst c5
   have H1 : (none) = some r := by rw [if_neg (show ¬ (false = true) by decide)] at H; exact H
   clear H
   have H := H1
   clear H1
   exact absurd H (by simp)

/-! ### laws_eqCellS: function 49 -/
def laws_eqCellS.l0 : Nat → List (S75) → List (S75) → Int → Option (Bool)
 | 0, _, _, _ => none
 | k + 1, x0, x1, x5 => if x5 < (x0.length : Int) then (if 0 ≤ x5 then (if x5 < (x1.length : Int) then ((laws_eqCell.f ((rd_T75 x0 x5).f0) ((rd_T75 x0 x5).f1.f0) ((rd_T75 x0 x5).f1.f1.f0.f0) ((rd_T75 x0 x5).f1.f1.f0.f1) ((rd_T75 x0 x5).f1.f1.f0.f2) ((rd_T75 x0 x5).f1.f1.f0.f3) ((rd_T75 x0 x5).f1.f1.f0.f4) ((rd_T75 x0 x5).f1.f1.f1.f0) ((rd_T75 x0 x5).f1.f1.f1.f1) ((rd_T75 x0 x5).f1.f1.f1.f2) ((rd_T75 x0 x5).f1.f1.f1.f3) ((rd_T75 x0 x5).f1.f1.f1.f4) ((rd_T75 x0 x5).f1.f1.f2) ((rd_T75 x0 x5).f1.f1.f3) ((rd_T75 x0 x5).f1.f1.f4) ((rd_T75 x0 x5).f2) ((rd_T75 x1 x5).f0) ((rd_T75 x1 x5).f1.f0) ((rd_T75 x1 x5).f1.f1.f0.f0) ((rd_T75 x1 x5).f1.f1.f0.f1) ((rd_T75 x1 x5).f1.f1.f0.f2) ((rd_T75 x1 x5).f1.f1.f0.f3) ((rd_T75 x1 x5).f1.f1.f0.f4) ((rd_T75 x1 x5).f1.f1.f1.f0) ((rd_T75 x1 x5).f1.f1.f1.f1) ((rd_T75 x1 x5).f1.f1.f1.f2) ((rd_T75 x1 x5).f1.f1.f1.f3) ((rd_T75 x1 x5).f1.f1.f1.f4) ((rd_T75 x1 x5).f1.f1.f2) ((rd_T75 x1 x5).f1.f1.f3) ((rd_T75 x1 x5).f1.f1.f4) ((rd_T75 x1 x5).f2)).bind fun t238 => (if t238 = true then (laws_eqCellS.l0 k x0 x1 (wrap64 (x5 + 1))) else (none))) else (none)) else (none)) else (some true)
def laws_eqCellS.f (k : Nat) (l0 : List (S75)) (l1 : List (S75)) : Option (Bool) := if (l0.length : Int) = (l1.length : Int) then (laws_eqCellS.l0 k l0 l1 0) else (none)
theorem laws_eqCellS.mono_l : ∀ k, (∀ y0 y1 y2, LeO (laws_eqCellS.l0 k y0 y1 y2) (laws_eqCellS.l0 (k + 1) y0 y1 y2))
 | 0 => fun _ _ _ r h => by simp [laws_eqCellS.l0] at h
 | k + 1 => by
  have ih0 := laws_eqCellS.mono_l k
  ·intro y0 y1 y2
   unfold laws_eqCellS.l0
   repeat' first
   | (with_reducible exact ih0 _ _ _)
   | (with_reducible exact LeO.refl _)
   | (with_reducible exact LeO.none _)
   | (with_reducible refine LeO.ite ?_ ?_)
   | (with_reducible refine LeO.bind ?_ (fun _ => ?_))
   | exact ih0 _ _ _
   | exact LeO.none _
   | refine LeO.ite ?_ ?_
   | refine LeO.bind ?_ (fun _ => ?_)
theorem laws_eqCellS.mono : ∀ a0 a1 k, LeO (laws_eqCellS.f k a0 a1) (laws_eqCellS.f (k + 1) a0 a1) := by
 intro a0 a1 k
 have ih0 := laws_eqCellS.mono_l k
 unfold laws_eqCellS.f
 repeat' first
   | (with_reducible exact ih0 _ _ _)
   | (with_reducible exact LeO.refl _)
   | (with_reducible exact LeO.none _)
   | (with_reducible refine LeO.ite ?_ ?_)
   | (with_reducible refine LeO.bind ?_ (fun _ => ?_))
   | exact ih0 _ _ _
   | exact LeO.none _
   | refine LeO.ite ?_ ?_
   | refine LeO.bind ?_ (fun _ => ?_)
def laws_eqCellS.T6 : Bool × List (List Nat × List Nat) := (true, [([], []), ([], []), ([0, 1], [0, 1]), ([2], [2]), ([], []), ([], []), ([4, 5], [4, 5]), ([6], [6]), ([3, 7], [3, 7]), ([8], [8])])
def laws_eqCellS.B6 : List Nat := [0, 0, 3, 7, 0, 0, 48, 112, 255, 511]
theorem laws_eqCellS.tab6 : rtab .any (opsOf Try.f49 6) = laws_eqCellS.T6 := by kernel_rfl
theorem laws_eqCellS.bits6 : waitsOk laws_eqCellS.T6.2 laws_eqCellS.B6 = true := by kernel_rfl
set_option maxHeartbeats 8000000 in
set_option maxRecDepth 100000 in
theorem laws_eqCellS.calls (k : Nat) (A0 : Option Addr) (c0 : Nat) (l0 : List (S75)) (A1 : Option Addr) (c1 : Nat) (l1 : List (S75)) (r : Bool) (w : World) (hr0 : Kd.C k75 w A0 l0.length l0) (hc0 : l0.length ≤ c0) (hr1 : Kd.C k75 w A1 l1.length l1) (hc1 : l1.length ≤ c1) (h : laws_eqCellS.f k l0 l1 = some r) :
  Calls Try.prog 49 #[.slice A0 l0.length c0, .slice A1 l1.length c1] w fun e w' => e = .returned (.bool r) ∧ Below w.heap.size w w' := by
 have hu75 := Try.underlying75
 have HR0 := Gv.a0 hr0
 have HC0 := Gv.a0 hc0
 clear hr0 hc0
 have HR1 := Gv.a0 hr1
 have HC1 := Gv.a0 hc1
 clear hr1 hc1
 have HB := Gv.a0 (Below.refl w.heap.size w)
 have H : (if (l0.length : Int) = (l1.length : Int) then (laws_eqCellS.l0 k l0 l1 0) else (none)) = some r := h
 clear h
 by_cases c3 : (l0.length : Int) = (l1.length : Int)
 ·rw [if_pos c3] at H
  have c3b0 : ((l0.length : Int) == (l1.length : Int)) = true := beq_iff_eq.mpr c3
  have c3b1 : ((l0.length : Int) != (l1.length : Int)) = false := bne_eq_false_iff_eq.mpr c3
  have c3b2 : (l0.length == l1.length) = true := by first | simpa using c3 | (simp at c3 ⊢; omega)
  clear c3
  have H' := Gv.a0 H
  clear H
  go_enter Try.func49, Try.ntmps49
  go_wp2
  go_loopg [5] k (fun kq v5 w' => ∃ (x5_1 : Int), v5 = .int .i64 x5_1 ∧ Aside0 (laws_eqCellS.l0 kq l0 l1 x5_1 = some r) ∧ Aside0 (kq ≤ k) ∧ Aside0 (Below w.heap.size w w'))
  case atStart => exact ⟨(0), Gv.rq, H', ⟨Nat.le_refl _⟩, ⟨Gv.bw⟩⟩
  case round =>
   clear H'
   try clear c1
   try clear p2
   try clear c3
   try clear c3b0
   try clear c3b1
   try clear c3b2
   obtain ⟨x5_1, rfl, HA, HK1, HB⟩ := hrel
   cases gk with
   | zero => exact absurd HA.out (by simp [laws_eqCellS.l0])
   | succ k1 =>
    have H := HA.out
    clear HA
    simp only [laws_eqCellS.l0] at H
    by_cases c4 : x5_1 < (l0.length : Int)
    ·rw [if_pos c4] at H
     have c4b0 : decide (x5_1 < (l0.length : Int)) = true := decide_eq_true c4
     clear c4
     by_cases c5 : 0 ≤ x5_1
     ·rw [if_pos c5] at H
      have c5b0 : decide (0 ≤ x5_1) = true := decide_eq_true c5
      clear c5
      by_cases c6 : x5_1 < (l1.length : Int)
      ·rw [if_pos c6] at H
       have c6b0 : decide (x5_1 < (l1.length : Int)) = true := decide_eq_true c6
       clear c6
       replace H := Option.bind_eq_some_iff.mp H
       obtain ⟨t238, A70, H⟩ := H
       replace H : (if t238 = true then (laws_eqCellS.l0 k1 l0 l1 (wrap64 (x5_1 + 1))) else (none)) = some r := H
       have A7 := Gv.a0 A70
       clear A70
       by_cases c8 : t238 = true
       ·subst c8
        have H1 : (laws_eqCellS.l0 k1 l0 l1 (wrap64 (x5_1 + 1))) = some r := by rw [if_pos rfl] at H; exact H
        clear H
        have H := H1
        clear H1
        have H' := Gv.a0 H
        clear H
        try go_wp2
        have n0_ := Gv.a0 (below_drew1 HB.out)
        clear HB
        have HB := n0_
        clear n0_
        have p236 : 0 ≤ (x5_1 : Int) := of_decide_eq_true (by first | (with_reducible assumption) | assumption)
        have q236 : x5_1 < (l0.length : Int) := of_decide_eq_true (by first | (with_reducible assumption) | assumption)
        obtain ⟨ad236, e236, hx236_0, hx236_1, hx236_2, hx236_3, hx236_4, hx236_5, hx236_6, hx236_7, hx236_8, hx236_9, hx236_10, hx236_11, hx236_12, hx236_13, hx236_14, hx236_15⟩ := at_T75 HR0.out x5_1 p236 q236
        have hw236_15 := hx236_15
        have hw236_14 := hx236_14
        have hw236_13 := hx236_13
        have hw236_12 := hx236_12
        have hw236_11 := hx236_11
        have hw236_10 := hx236_10
        have hw236_9 := hx236_9
        have hw236_8 := hx236_8
        have hw236_7 := hx236_7
        have hw236_6 := hx236_6
        have hw236_5 := hx236_5
        have hw236_4 := hx236_4
        have hw236_3 := hx236_3
        have hw236_2 := hx236_2
        have hw236_1 := hx236_1
        have hw236_0 := hx236_0
        cases e236
        replace hx236_0 := Gv.bx HB.out hx236_0
        replace hx236_1 := Gv.bx HB.out hx236_1
        replace hx236_2 := Gv.bx HB.out hx236_2
        replace hx236_3 := Gv.bx HB.out hx236_3
        replace hx236_4 := Gv.bx HB.out hx236_4
        replace hx236_5 := Gv.bx HB.out hx236_5
        replace hx236_6 := Gv.bx HB.out hx236_6
        replace hx236_7 := Gv.bx HB.out hx236_7
        replace hx236_8 := Gv.bx HB.out hx236_8
        replace hx236_9 := Gv.bx HB.out hx236_9
        replace hx236_10 := Gv.bx HB.out hx236_10
        replace hx236_11 := Gv.bx HB.out hx236_11
        replace hx236_12 := Gv.bx HB.out hx236_12
        replace hx236_13 := Gv.bx HB.out hx236_13
        replace hx236_14 := Gv.bx HB.out hx236_14
        replace hx236_15 := Gv.bx HB.out hx236_15
        replace p236 := eq_true p236
        replace q236 := eq_true q236
        have p237 : 0 ≤ (x5_1 : Int) := of_decide_eq_true (by first | (with_reducible assumption) | assumption)
        have q237 : x5_1 < (l1.length : Int) := of_decide_eq_true (by first | (with_reducible assumption) | assumption)
        obtain ⟨ad237, e237, hx237_0, hx237_1, hx237_2, hx237_3, hx237_4, hx237_5, hx237_6, hx237_7, hx237_8, hx237_9, hx237_10, hx237_11, hx237_12, hx237_13, hx237_14, hx237_15⟩ := at_T75 HR1.out x5_1 p237 q237
        have hw237_15 := hx237_15
        have hw237_14 := hx237_14
        have hw237_13 := hx237_13
        have hw237_12 := hx237_12
        have hw237_11 := hx237_11
        have hw237_10 := hx237_10
        have hw237_9 := hx237_9
        have hw237_8 := hx237_8
        have hw237_7 := hx237_7
        have hw237_6 := hx237_6
        have hw237_5 := hx237_5
        have hw237_4 := hx237_4
        have hw237_3 := hx237_3
        have hw237_2 := hx237_2
        have hw237_1 := hx237_1
        have hw237_0 := hx237_0
        cases e237
        replace hx237_0 := Gv.bx HB.out hx237_0
        replace hx237_1 := Gv.bx HB.out hx237_1
        replace hx237_2 := Gv.bx HB.out hx237_2
        replace hx237_3 := Gv.bx HB.out hx237_3
        replace hx237_4 := Gv.bx HB.out hx237_4
        replace hx237_5 := Gv.bx HB.out hx237_5
        replace hx237_6 := Gv.bx HB.out hx237_6
        replace hx237_7 := Gv.bx HB.out hx237_7
        replace hx237_8 := Gv.bx HB.out hx237_8
        replace hx237_9 := Gv.bx HB.out hx237_9
        replace hx237_10 := Gv.bx HB.out hx237_10
        replace hx237_11 := Gv.bx HB.out hx237_11
        replace hx237_12 := Gv.bx HB.out hx237_12
        replace hx237_13 := Gv.bx HB.out hx237_13
        replace hx237_14 := Gv.bx HB.out hx237_14
        replace hx237_15 := Gv.bx HB.out hx237_15
        replace p237 := eq_true p237
        replace q237 := eq_true q237
        refine start_ (n := 10) (S := fun w' => w'.cell? (ad236.add ((x5_1).toNat * 16)) = some (.bool ((rd_T75 l0 x5_1).f0)) ∧ w'.cell? ⟨(ad236.add ((x5_1).toNat * 16)).block, (ad236.add ((x5_1).toNat * 16)).off + 1, none⟩ = some (.int .i64 ((rd_T75 l0 x5_1).f1.f0)) ∧ w'.cell? ⟨(ad236.add ((x5_1).toNat * 16)).block, (ad236.add ((x5_1).toNat * 16)).off + 2, none⟩ = some (.int .i64 ((rd_T75 l0 x5_1).f1.f1.f0.f0)) ∧ w'.cell? ⟨(ad236.add ((x5_1).toNat * 16)).block, (ad236.add ((x5_1).toNat * 16)).off + 3, none⟩ = some (.int .i64 ((rd_T75 l0 x5_1).f1.f1.f0.f1)) ∧ w'.cell? ⟨(ad236.add ((x5_1).toNat * 16)).block, (ad236.add ((x5_1).toNat * 16)).off + 4, none⟩ = some (.int .i64 ((rd_T75 l0 x5_1).f1.f1.f0.f2)) ∧ w'.cell? ⟨(ad236.add ((x5_1).toNat * 16)).block, (ad236.add ((x5_1).toNat * 16)).off + 5, none⟩ = some (.int .i64 ((rd_T75 l0 x5_1).f1.f1.f0.f3)) ∧ w'.cell? ⟨(ad236.add ((x5_1).toNat * 16)).block, (ad236.add ((x5_1).toNat * 16)).off + 6, none⟩ = some (.int .i64 ((rd_T75 l0 x5_1).f1.f1.f0.f4)) ∧ w'.cell? ⟨(ad236.add ((x5_1).toNat * 16)).block, (ad236.add ((x5_1).toNat * 16)).off + 7, none⟩ = some (.int .i64 ((rd_T75 l0 x5_1).f1.f1.f1.f0)) ∧ w'.cell? ⟨(ad236.add ((x5_1).toNat * 16)).block, (ad236.add ((x5_1).toNat * 16)).off + 8, none⟩ = some (.int .i64 ((rd_T75 l0 x5_1).f1.f1.f1.f1)) ∧ w'.cell? ⟨(ad236.add ((x5_1).toNat * 16)).block, (ad236.add ((x5_1).toNat * 16)).off + 9, none⟩ = some (.int .i64 ((rd_T75 l0 x5_1).f1.f1.f1.f2)) ∧ w'.cell? ⟨(ad236.add ((x5_1).toNat * 16)).block, (ad236.add ((x5_1).toNat * 16)).off + 10, none⟩ = some (.int .i64 ((rd_T75 l0 x5_1).f1.f1.f1.f3)) ∧ w'.cell? ⟨(ad236.add ((x5_1).toNat * 16)).block, (ad236.add ((x5_1).toNat * 16)).off + 11, none⟩ = some (.int .i64 ((rd_T75 l0 x5_1).f1.f1.f1.f4)) ∧ w'.cell? ⟨(ad236.add ((x5_1).toNat * 16)).block, (ad236.add ((x5_1).toNat * 16)).off + 12, none⟩ = some (.int .i64 ((rd_T75 l0 x5_1).f1.f1.f2)) ∧ w'.cell? ⟨(ad236.add ((x5_1).toNat * 16)).block, (ad236.add ((x5_1).toNat * 16)).off + 13, none⟩ = some (.int .i64 ((rd_T75 l0 x5_1).f1.f1.f3)) ∧ w'.cell? ⟨(ad236.add ((x5_1).toNat * 16)).block, (ad236.add ((x5_1).toNat * 16)).off + 14, none⟩ = some (.int .i64 ((rd_T75 l0 x5_1).f1.f1.f4)) ∧ w'.cell? ⟨(ad236.add ((x5_1).toNat * 16)).block, (ad236.add ((x5_1).toNat * 16)).off + 15, none⟩ = some (.int .i64 ((rd_T75 l0 x5_1).f2)) ∧ w'.cell? (ad237.add ((x5_1).toNat * 16)) = some (.bool ((rd_T75 l1 x5_1).f0)) ∧ w'.cell? ⟨(ad237.add ((x5_1).toNat * 16)).block, (ad237.add ((x5_1).toNat * 16)).off + 1, none⟩ = some (.int .i64 ((rd_T75 l1 x5_1).f1.f0)) ∧ w'.cell? ⟨(ad237.add ((x5_1).toNat * 16)).block, (ad237.add ((x5_1).toNat * 16)).off + 2, none⟩ = some (.int .i64 ((rd_T75 l1 x5_1).f1.f1.f0.f0)) ∧ w'.cell? ⟨(ad237.add ((x5_1).toNat * 16)).block, (ad237.add ((x5_1).toNat * 16)).off + 3, none⟩ = some (.int .i64 ((rd_T75 l1 x5_1).f1.f1.f0.f1)) ∧ w'.cell? ⟨(ad237.add ((x5_1).toNat * 16)).block, (ad237.add ((x5_1).toNat * 16)).off + 4, none⟩ = some (.int .i64 ((rd_T75 l1 x5_1).f1.f1.f0.f2)) ∧ w'.cell? ⟨(ad237.add ((x5_1).toNat * 16)).block, (ad237.add ((x5_1).toNat * 16)).off + 5, none⟩ = some (.int .i64 ((rd_T75 l1 x5_1).f1.f1.f0.f3)) ∧ w'.cell? ⟨(ad237.add ((x5_1).toNat * 16)).block, (ad237.add ((x5_1).toNat * 16)).off + 6, none⟩ = some (.int .i64 ((rd_T75 l1 x5_1).f1.f1.f0.f4)) ∧ w'.cell? ⟨(ad237.add ((x5_1).toNat * 16)).block, (ad237.add ((x5_1).toNat * 16)).off + 7, none⟩ = some (.int .i64 ((rd_T75 l1 x5_1).f1.f1.f1.f0)) ∧ w'.cell? ⟨(ad237.add ((x5_1).toNat * 16)).block, (ad237.add ((x5_1).toNat * 16)).off + 8, none⟩ = some (.int .i64 ((rd_T75 l1 x5_1).f1.f1.f1.f1)) ∧ w'.cell? ⟨(ad237.add ((x5_1).toNat * 16)).block, (ad237.add ((x5_1).toNat * 16)).off + 9, none⟩ = some (.int .i64 ((rd_T75 l1 x5_1).f1.f1.f1.f2)) ∧ w'.cell? ⟨(ad237.add ((x5_1).toNat * 16)).block, (ad237.add ((x5_1).toNat * 16)).off + 10, none⟩ = some (.int .i64 ((rd_T75 l1 x5_1).f1.f1.f1.f3)) ∧ w'.cell? ⟨(ad237.add ((x5_1).toNat * 16)).block, (ad237.add ((x5_1).toNat * 16)).off + 11, none⟩ = some (.int .i64 ((rd_T75 l1 x5_1).f1.f1.f1.f4)) ∧ w'.cell? ⟨(ad237.add ((x5_1).toNat * 16)).block, (ad237.add ((x5_1).toNat * 16)).off + 12, none⟩ = some (.int .i64 ((rd_T75 l1 x5_1).f1.f1.f2)) ∧ w'.cell? ⟨(ad237.add ((x5_1).toNat * 16)).block, (ad237.add ((x5_1).toNat * 16)).off + 13, none⟩ = some (.int .i64 ((rd_T75 l1 x5_1).f1.f1.f3)) ∧ w'.cell? ⟨(ad237.add ((x5_1).toNat * 16)).block, (ad237.add ((x5_1).toNat * 16)).off + 14, none⟩ = some (.int .i64 ((rd_T75 l1 x5_1).f1.f1.f4)) ∧ w'.cell? ⟨(ad237.add ((x5_1).toNat * 16)).block, (ad237.add ((x5_1).toNat * 16)).off + 15, none⟩ = some (.int .i64 ((rd_T75 l1 x5_1).f2))) (ds := []) #[false, false, false, false, false, false, false, false, false, false] (by kernel_rfl) rfl rfl ⟨(Gv.bx HB.out hw236_0), (Gv.bx HB.out hw236_1), (Gv.bx HB.out hw236_2), (Gv.bx HB.out hw236_3), (Gv.bx HB.out hw236_4), (Gv.bx HB.out hw236_5), (Gv.bx HB.out hw236_6), (Gv.bx HB.out hw236_7), (Gv.bx HB.out hw236_8), (Gv.bx HB.out hw236_9), (Gv.bx HB.out hw236_10), (Gv.bx HB.out hw236_11), (Gv.bx HB.out hw236_12), (Gv.bx HB.out hw236_13), (Gv.bx HB.out hw236_14), (Gv.bx HB.out hw236_15), (Gv.bx HB.out hw237_0), (Gv.bx HB.out hw237_1), (Gv.bx HB.out hw237_2), (Gv.bx HB.out hw237_3), (Gv.bx HB.out hw237_4), (Gv.bx HB.out hw237_5), (Gv.bx HB.out hw237_6), (Gv.bx HB.out hw237_7), (Gv.bx HB.out hw237_8), (Gv.bx HB.out hw237_9), (Gv.bx HB.out hw237_10), (Gv.bx HB.out hw237_11), (Gv.bx HB.out hw237_12), (Gv.bx HB.out hw237_13), (Gv.bx HB.out hw237_14), (Gv.bx HB.out hw237_15)⟩ (fun hHeld => ?_); refine with_tabW laws_eqCellS.tab6 laws_eqCellS.bits6 (fun HT_ HW_ => ?_)
        generalize wr.drew = w9 at HB hx236_0 hx236_1 hx236_10 hx236_11 hx236_12 hx236_13 hx236_14 hx236_15 hx236_2 hx236_3 hx236_4 hx236_5 hx236_6 hx236_7 hx236_8 hx236_9 hx237_0 hx237_1 hx237_10 hx237_11 hx237_12 hx237_13 hx237_14 hx237_15 hx237_2 hx237_3 hx237_4 hx237_5 hx237_6 hx237_7 hx237_8 hx237_9 hHeld ⊢
        refine Gv.pu 0 (some 17) HT_ ?_
        refine Gv.pu 1 (some 18) HT_ ?_
        refine Gv.pu 2 (some 19) HT_ ?_
        refine Gv.pu 4 (some 21) HT_ ?_
        refine Gv.pu 5 (some 22) HT_ ?_
        refine Gv.pu 6 (some 23) HT_ ?_
        refine take_ (i := 3) (N := some 20) (v := ?_) (a' := ?_) #[true, true, true, true, true, true, true, false, false, false] rfl rfl (take_ofW HT_.out HW_.out (by kernel_rfl)) (fun _ _ _ h => h) (Or.inl ⟨by rfl, ?_⟩) hHeld ?_ ?_
        rotate_left
        ·rintro w' ⟨s0, s1, s2, s3, s4, s5, s6, s7, s8, s9, s10, s11, s12, s13, s14, s15, s16, s17, s18, s19, s20, s21, s22, s23, s24, s25, s26, s27, s28, s29, s30, s31⟩
         first | ((refine Gv.load_run (t := 75) (A := ad236.add ((x5_1).toNat * 16)) (cs := [_, _, _, _, _, _, _, _, _, _, _, _, _, _, _, _]) (x := ?xx15_) ?ho15_ ?hx15_ ⟨s0, s1, s2, s3, s4, s5, s6, s7, s8, s9, s10, s11, s12, s13, s14, s15, trivial⟩ Try.underlying75 rfl (by kernel_rfl)); (case ho15_ => rfl); (case hx15_ => rfl)) | ((refine Gv.load_run (t := 75) (A := ad237.add ((x5_1).toNat * 16)) (cs := [_, _, _, _, _, _, _, _, _, _, _, _, _, _, _, _]) (x := ?xx16_) ?ho16_ ?hx16_ ⟨s16, s17, s18, s19, s20, s21, s22, s23, s24, s25, s26, s27, s28, s29, s30, s31, trivial⟩ Try.underlying75 rfl (by kernel_rfl)); (case ho16_ => rfl); (case hx16_ => rfl)) | (go_simp; with_reducible rfl)
        rotate_left
        ·simp only [Act.put, List.setIfInBounds_toArray, List.set_cons_zero, List.set_cons_succ, i64_w, i32_w]
         rfl
        refine take_ (i := 7) (N := some 24) (v := ?_) (a' := ?_) #[true, true, true, true, true, true, true, true, false, false] rfl rfl (take_ofW HT_.out HW_.out (by kernel_rfl)) (fun _ _ _ h => h) (Or.inl ⟨by rfl, ?_⟩) hHeld ?_ ?_
        rotate_left
        ·rintro w' ⟨s0, s1, s2, s3, s4, s5, s6, s7, s8, s9, s10, s11, s12, s13, s14, s15, s16, s17, s18, s19, s20, s21, s22, s23, s24, s25, s26, s27, s28, s29, s30, s31⟩
         first | ((refine Gv.load_run (t := 75) (A := ad236.add ((x5_1).toNat * 16)) (cs := [_, _, _, _, _, _, _, _, _, _, _, _, _, _, _, _]) (x := ?xx18_) ?ho18_ ?hx18_ ⟨s0, s1, s2, s3, s4, s5, s6, s7, s8, s9, s10, s11, s12, s13, s14, s15, trivial⟩ Try.underlying75 rfl (by kernel_rfl)); (case ho18_ => rfl); (case hx18_ => rfl)) | ((refine Gv.load_run (t := 75) (A := ad237.add ((x5_1).toNat * 16)) (cs := [_, _, _, _, _, _, _, _, _, _, _, _, _, _, _, _]) (x := ?xx19_) ?ho19_ ?hx19_ ⟨s16, s17, s18, s19, s20, s21, s22, s23, s24, s25, s26, s27, s28, s29, s30, s31, trivial⟩ Try.underlying75 rfl (by kernel_rfl)); (case ho19_ => rfl); (case hx19_ => rfl)) | (go_simp; with_reducible rfl)
        rotate_left
        ·simp only [Act.put, List.setIfInBounds_toArray, List.set_cons_zero, List.set_cons_succ, i64_w, i32_w]
         rfl
        refine one_ (i := 8) (N := some 25) #[true, true, true, true, true, true, true, true, true, false] rfl rfl (one_of HT_.out (by kernel_rfl)) (by decide) (fun K hK => ?_)
        refine goes_ Try.func76 (by kernel_rfl) rfl #[.agg #[.bool ((rd_T75 l0 x5_1).f0), .int .i64 ((rd_T75 l0 x5_1).f1.f0), .int .i64 ((rd_T75 l0 x5_1).f1.f1.f0.f0), .int .i64 ((rd_T75 l0 x5_1).f1.f1.f0.f1), .int .i64 ((rd_T75 l0 x5_1).f1.f1.f0.f2), .int .i64 ((rd_T75 l0 x5_1).f1.f1.f0.f3), .int .i64 ((rd_T75 l0 x5_1).f1.f1.f0.f4), .int .i64 ((rd_T75 l0 x5_1).f1.f1.f1.f0), .int .i64 ((rd_T75 l0 x5_1).f1.f1.f1.f1), .int .i64 ((rd_T75 l0 x5_1).f1.f1.f1.f2), .int .i64 ((rd_T75 l0 x5_1).f1.f1.f1.f3), .int .i64 ((rd_T75 l0 x5_1).f1.f1.f1.f4), .int .i64 ((rd_T75 l0 x5_1).f1.f1.f2), .int .i64 ((rd_T75 l0 x5_1).f1.f1.f3), .int .i64 ((rd_T75 l0 x5_1).f1.f1.f4), .int .i64 ((rd_T75 l0 x5_1).f2)], .agg #[.bool ((rd_T75 l1 x5_1).f0), .int .i64 ((rd_T75 l1 x5_1).f1.f0), .int .i64 ((rd_T75 l1 x5_1).f1.f1.f0.f0), .int .i64 ((rd_T75 l1 x5_1).f1.f1.f0.f1), .int .i64 ((rd_T75 l1 x5_1).f1.f1.f0.f2), .int .i64 ((rd_T75 l1 x5_1).f1.f1.f0.f3), .int .i64 ((rd_T75 l1 x5_1).f1.f1.f0.f4), .int .i64 ((rd_T75 l1 x5_1).f1.f1.f1.f0), .int .i64 ((rd_T75 l1 x5_1).f1.f1.f1.f1), .int .i64 ((rd_T75 l1 x5_1).f1.f1.f1.f2), .int .i64 ((rd_T75 l1 x5_1).f1.f1.f1.f3), .int .i64 ((rd_T75 l1 x5_1).f1.f1.f1.f4), .int .i64 ((rd_T75 l1 x5_1).f1.f1.f2), .int .i64 ((rd_T75 l1 x5_1).f1.f1.f3), .int .i64 ((rd_T75 l1 x5_1).f1.f1.f4), .int .i64 ((rd_T75 l1 x5_1).f2)]] (by rfl) rfl rfl Gv.lm ?_
        with_reducible refine (laws_eqCell.calls ((rd_T75 l0 x5_1).f0) ((rd_T75 l0 x5_1).f1.f0) ((rd_T75 l0 x5_1).f1.f1.f0.f0) ((rd_T75 l0 x5_1).f1.f1.f0.f1) ((rd_T75 l0 x5_1).f1.f1.f0.f2) ((rd_T75 l0 x5_1).f1.f1.f0.f3) ((rd_T75 l0 x5_1).f1.f1.f0.f4) ((rd_T75 l0 x5_1).f1.f1.f1.f0) ((rd_T75 l0 x5_1).f1.f1.f1.f1) ((rd_T75 l0 x5_1).f1.f1.f1.f2) ((rd_T75 l0 x5_1).f1.f1.f1.f3) ((rd_T75 l0 x5_1).f1.f1.f1.f4) ((rd_T75 l0 x5_1).f1.f1.f2) ((rd_T75 l0 x5_1).f1.f1.f3) ((rd_T75 l0 x5_1).f1.f1.f4) ((rd_T75 l0 x5_1).f2) ((rd_T75 l1 x5_1).f0) ((rd_T75 l1 x5_1).f1.f0) ((rd_T75 l1 x5_1).f1.f1.f0.f0) ((rd_T75 l1 x5_1).f1.f1.f0.f1) ((rd_T75 l1 x5_1).f1.f1.f0.f2) ((rd_T75 l1 x5_1).f1.f1.f0.f3) ((rd_T75 l1 x5_1).f1.f1.f0.f4) ((rd_T75 l1 x5_1).f1.f1.f1.f0) ((rd_T75 l1 x5_1).f1.f1.f1.f1) ((rd_T75 l1 x5_1).f1.f1.f1.f2) ((rd_T75 l1 x5_1).f1.f1.f1.f3) ((rd_T75 l1 x5_1).f1.f1.f1.f4) ((rd_T75 l1 x5_1).f1.f1.f2) ((rd_T75 l1 x5_1).f1.f1.f3) ((rd_T75 l1 x5_1).f1.f1.f4) ((rd_T75 l1 x5_1).f2) true _ A7.out).mono ?_
        rintro e w10 ⟨rfl, hb⟩
        refine ⟨_, rfl, ?_⟩
        have n0_ := Gv.a0 (below_step Gv.bw hb)
        clear HB
        have HB := n0_
        clear n0_
        (try clear hb)
        (try clear hb2)
        (try clear hk)
        (try clear hi)
        refine hK.out _ _ ⟨(Gv.bx HB.out hw236_0), (Gv.bx HB.out hw236_1), (Gv.bx HB.out hw236_2), (Gv.bx HB.out hw236_3), (Gv.bx HB.out hw236_4), (Gv.bx HB.out hw236_5), (Gv.bx HB.out hw236_6), (Gv.bx HB.out hw236_7), (Gv.bx HB.out hw236_8), (Gv.bx HB.out hw236_9), (Gv.bx HB.out hw236_10), (Gv.bx HB.out hw236_11), (Gv.bx HB.out hw236_12), (Gv.bx HB.out hw236_13), (Gv.bx HB.out hw236_14), (Gv.bx HB.out hw236_15), (Gv.bx HB.out hw237_0), (Gv.bx HB.out hw237_1), (Gv.bx HB.out hw237_2), (Gv.bx HB.out hw237_3), (Gv.bx HB.out hw237_4), (Gv.bx HB.out hw237_5), (Gv.bx HB.out hw237_6), (Gv.bx HB.out hw237_7), (Gv.bx HB.out hw237_8), (Gv.bx HB.out hw237_9), (Gv.bx HB.out hw237_10), (Gv.bx HB.out hw237_11), (Gv.bx HB.out hw237_12), (Gv.bx HB.out hw237_13), (Gv.bx HB.out hw237_14), (Gv.bx HB.out hw237_15)⟩ (fun hHeld => ?_)
        clear hK K
        refine norm_ (a' := ?_) ?_ ?_
        rotate_left
        ·show Act.put _ (some 25) _ = _
         simp only [Act.put, List.setIfInBounds_toArray, List.set_cons_zero, List.set_cons_succ, i64_w, i32_w]
         rfl
        refine Gv.pu 9 (some 26) HT_ ?_
        refine done_ (done_of HT_.out (by kernel_rfl)) ?_
        try go_wp2
        go_roundg k1
        case measure => have := HK1.out; omega
        case rel => exact ⟨(wrap64 (x5_1 + 1)), Gv.rq, H', ⟨by have := HK1.out; omega⟩, ⟨Gv.bw⟩⟩
       ·replace c8 := Bool.eq_false_iff.mpr c8
        subst c8
        have H1 : (none) = some r := by rw [if_neg (show ¬ (false = true) by decide)] at H; exact H
        clear H
        have H := H1
        clear H1
        exact absurd H (by simp)
      ·rw [if_neg c6] at H
       exact absurd H (by simp)
     ·rw [if_neg c5] at H
      exact absurd H (by simp)
    ·rw [if_neg c4] at H
     have c4b0 : decide (x5_1 < (l0.length : Int)) = false := decide_eq_false c4
     clear c4
     obtain rfl := Option.some.inj H
     go_wp2
     go_ret
     exact ⟨Gv.rt, Gv.bw⟩
 ·rw [if_neg c3] at H
  exact absurd H (by simp)

end Go.Proofs.Ytfnpodebjejhpaa.PTn
