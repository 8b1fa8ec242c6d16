/- Plain Lean functions of a law's Go functions, their contracts, by a program of this session (wip/pr.py over the kit's print). -/
import Derived.Test.YtbihbbkdciebhaaPShx0
import Derived.Test.YtbihbbkdciebhaaPShx1
import Derived.Test.YtbihbbkdciebhaaPShx3
import Derived.Test.YtbihbbkdciebhaaPShx6
import Derived.Test.YtbihbbkdciebhaaPShx7
namespace Go.Proofs.Ytbihbbkdciebhaa.PSh
open Go.RowKit Go.Proofs.YtbihbbkdciebhaaW.PrintWords Go.Proofs.YtbihbbkdciebhaaW.PrintLast Go.Proofs.YtbihbbkdciebhaaW.PrintMore
attribute [local go_sem] max2_int min2_int max_two min_two max_three min_three max_four min_four   -- for this text's walks alone
set_option linter.unusedVariables false
set_option linter.unusedSimpArgs false

attribute [local go_sem high] eqA34
/-! ### impl_Prefix_has: function 55 -/
def impl_Prefix_has.f (k : Nat) (a0_0 : Int) (a0_1 : Int) (a0_2 : Int) (a0_3 : Int) (a0_4 : Int) (a0_5 : Int) (a1_0 : Int) (a1_1 : Int) (a1_2 : Int) (a1_3 : Int) (a1_4 : Int) : Option (Bool) := (impl_isAny.f a0_0 a0_1 a0_2 a0_3 a0_4 a0_5).bind fun t399 => (if t399 = true then (some true) else (if a1_0 = a0_0 then ((impl_Cut.f k a1_0 a1_1 a1_2 a1_3 a1_4 a0_5).bind fun bt400 => (some (bt400.1 == a0_0 && (bt400.2.1 == a0_1 && (bt400.2.2.1 == a0_2 && (bt400.2.2.2.1 == a0_3 && (bt400.2.2.2.2 == a0_4))))))) else (some false)))
theorem impl_Prefix_has.mono : ∀ a0 a1 a2 a3 a4 a5 a6 a7 a8 a9 a10 k, LeO (impl_Prefix_has.f k a0 a1 a2 a3 a4 a5 a6 a7 a8 a9 a10) (impl_Prefix_has.f (k + 1) a0 a1 a2 a3 a4 a5 a6 a7 a8 a9 a10) := by
 intro a0 a1 a2 a3 a4 a5 a6 a7 a8 a9 a10 k
 unfold impl_Prefix_has.f
 repeat' first
   | (with_reducible exact impl_Cut.mono _ _ _ _ _ _ _)
   | (with_reducible exact LeO.refl _)
   | (with_reducible exact LeO.none _)
   | (with_reducible refine LeO.ite ?_ ?_)
   | (with_reducible refine LeO.bind ?_ (fun _ => ?_))
   | exact impl_Cut.mono _ _ _ _ _ _ _
   | exact LeO.none _
   | refine LeO.ite ?_ ?_
   | refine LeO.bind ?_ (fun _ => ?_)
def impl_Prefix_has.T1 : Bool × List (List Nat × List Nat) := (true, [([], []), ([0], [0]), ([1, 1], [1]), ([2], [2]), ([3, 2], [2, 3]), ([2], [2]), ([5, 2], [2, 5]), ([6, 2], [2, 6]), ([4, 7, 2], [2, 4, 7]), ([8, 2, 2], [2, 8]), ([9], [9]), ([9], [9]), ([11, 9], [9, 11]), ([10, 12, 9, 9], [9, 10, 12]), ([9], [9]), ([14, 9], [9, 14]), ([13, 15, 9], [9, 13, 15]), ([9, 16, 2], [2, 9, 16]), ([2, 17], [2, 17]), ([18, 13, 0, 1, 2, 3, 4, 5, 6, 7, 8, 9, 10, 11, 12, 13, 14, 15, 16, 17, 18], [18])])
def impl_Prefix_has.B1 : List Nat := [0, 1, 3, 7, 15, 7, 39, 103, 255, 511, 1023, 1023, 3071, 8191, 1023, 17407, 65535, 131071, 262143, 524287]
theorem impl_Prefix_has.tab1 : rtab .any (opsOf Try.f55 1) = impl_Prefix_has.T1 := by kernel_rfl
theorem impl_Prefix_has.bits1 : waitsOk impl_Prefix_has.T1.2 impl_Prefix_has.B1 = true := by kernel_rfl
set_option maxHeartbeats 8000000 in
set_option maxRecDepth 100000 in
theorem impl_Prefix_has.calls (k : Nat) (a0_0 : Int) (a0_1 : Int) (a0_2 : Int) (a0_3 : Int) (a0_4 : Int) (a0_5 : Int) (a1_0 : Int) (a1_1 : Int) (a1_2 : Int) (a1_3 : Int) (a1_4 : Int) (r : Bool) (w : World) (h : impl_Prefix_has.f k a0_0 a0_1 a0_2 a0_3 a0_4 a0_5 a1_0 a1_1 a1_2 a1_3 a1_4 = some r) :
  Calls Try.prog 55 #[.agg #[.int .i64 a0_0, .int .i64 a0_1, .int .i64 a0_2, .int .i64 a0_3, .int .i64 a0_4, .int .i64 a0_5], .agg #[.int .i64 a1_0, .int .i64 a1_1, .int .i64 a1_2, .int .i64 a1_3, .int .i64 a1_4]] w fun e w' => e = .returned (.bool r) ∧ Below w.heap.size w w' := by
 have hu53 := Try.underlying53
 have hu34 := Try.underlying34
 have HB := Gv.a0 (Below.refl w.heap.size w)
 have H : ((impl_isAny.f a0_0 a0_1 a0_2 a0_3 a0_4 a0_5).bind fun t399 => (if t399 = true then (some true) else (if a1_0 = a0_0 then ((impl_Cut.f k a1_0 a1_1 a1_2 a1_3 a1_4 a0_5).bind fun bt400 => (some (bt400.1 == a0_0 && (bt400.2.1 == a0_1 && (bt400.2.2.1 == a0_2 && (bt400.2.2.2.1 == a0_3 && (bt400.2.2.2.2 == a0_4))))))) else (some false)))) = some r := h
 clear h
 replace H := Option.bind_eq_some_iff.mp H
 obtain ⟨t399, A30, H⟩ := H
 replace H : (if t399 = true then (some true) else (if a1_0 = a0_0 then ((impl_Cut.f k a1_0 a1_1 a1_2 a1_3 a1_4 a0_5).bind fun bt400 => (some (bt400.1 == a0_0 && (bt400.2.1 == a0_1 && (bt400.2.2.1 == a0_2 && (bt400.2.2.2.1 == a0_3 && (bt400.2.2.2.2 == a0_4))))))) else (some false))) = some r := H
 have A3 := Gv.a0 A30
 clear A30
 by_cases c4 : t399 = true
 ·subst c4
  have H1 : (some true) = some r := by rw [if_pos rfl] at H; exact H
  clear H
  have H := H1
  clear H1
  obtain rfl := Option.some.inj H
  go_enter Try.func55, Try.ntmps55
  try go_wp2_with (first | ((with_reducible refine gate_dst (N := 2) rfl ?_); refine box_event ?hg (N := 2) ?hd (cs := #[.int .i64 a0_0, .int .i64 a0_1, .int .i64 a0_2, .int .i64 a0_3, .int .i64 a0_4, .int .i64 a0_5]) (t := 53) ?hr ?_; (case hd => rfl); (case hg => rfl); (case hr => first | (go_simp; done) | (go_simp; rfl)); intro gb397 hg w5 hbox hb; have n0_ := Gv.a0 (below_step Gv.bw hb); have n1_ := Gv.a0 (hbox); have n2_ := Gv.a0 ((Gv.ble hg Gv.bw : w.heap.size ≤ gb397)); have n3_ := Gv.a0 ((Gv.ble hg Gv.bw : w.heap.size ≤ gb397)); clear HB; have HB := n0_; have BK397 := n1_; have GW397 := n2_; have GE397 := n3_; clear n0_ n1_ n2_ n3_; clear hb hbox hg) | ((with_reducible refine gate_dst (N := 3) rfl ?_); refine box_event ?hg (N := 3) ?hd (cs := #[.int .i64 a1_0, .int .i64 a1_1, .int .i64 a1_2, .int .i64 a1_3, .int .i64 a1_4]) (t := 34) ?hr ?_; (case hd => rfl); (case hg => rfl); (case hr => first | (go_simp; done) | (go_simp; rfl)); intro gb398 hg w6 hbox hb; have n0_ := Gv.a0 (Gv.bb BK397.out hb); have n1_ := Gv.a0 (below_step Gv.bw hb); have n2_ := Gv.a0 (hbox); have n3_ := Gv.a0 ((Gv.ble hg Gv.bw : w.heap.size ≤ gb398)); have n4_ := Gv.a0 ((Gv.ble hg Gv.bw : w.heap.size ≤ gb398)); have n5_ := Gv.a0 ((Gv.nlt hg (Gv.kb BK397.out) : gb397 ≠ gb398)); have n6_ := Gv.a0 ((Gv.ngt hg (Gv.kb BK397.out) : gb398 ≠ gb397)); clear BK397; clear HB; have BK397 := n0_; have HB := n1_; have BK398 := n2_; have GW398 := n3_; have GE398 := n4_; have NB397_398 := n5_; have NB398_397 := n6_; clear n0_ n1_ n2_ n3_ n4_ n5_ n6_; clear hb hbox hg))
  have n0_ := Gv.a0 (blk_drew BK397.out)
  have n1_ := Gv.a0 (blk_drew BK398.out)
  have n2_ := Gv.a0 (below_drew1 HB.out)
  clear BK397
  clear BK398
  clear HB
  have BK397 := n0_
  have BK398 := n1_
  have HB := n2_
  clear n0_ n1_ n2_
  refine start_ (n := 20) (S := fun w' => w'.cell? ⟨gb397, 0, none⟩ = some (.int .i64 a0_0) ∧ w'.cell? ⟨gb397, 1, none⟩ = some (.int .i64 a0_1) ∧ w'.cell? ⟨gb397, 2, none⟩ = some (.int .i64 a0_2) ∧ w'.cell? ⟨gb397, 3, none⟩ = some (.int .i64 a0_3) ∧ w'.cell? ⟨gb397, 4, none⟩ = some (.int .i64 a0_4) ∧ w'.cell? ⟨gb397, 5, none⟩ = some (.int .i64 a0_5)) (ds := []) #[false, false, false, false, false, false, false, false, false, false, false, false, false, false, false, false, false, false, false, false] (by kernel_rfl) rfl rfl ⟨(blk_cell BK397.out 0).trans rfl, (blk_cell BK397.out 1).trans rfl, (blk_cell BK397.out 2).trans rfl, (blk_cell BK397.out 3).trans rfl, (blk_cell BK397.out 4).trans rfl, (blk_cell BK397.out 5).trans rfl⟩ (fun hHeld => ?_); refine with_tabW impl_Prefix_has.tab1 impl_Prefix_has.bits1 (fun HT_ HW_ => ?_)
  generalize w6.drew = w7 at BK397 BK398 HB hHeld ⊢
  refine take_ (i := 0) (N := some 5) (v := ?_) (a' := ?_) #[true, false, false, false, false, false, false, false, false, false, false, false, false, false, false, false, false, false, false, false] rfl rfl (take_ofW HT_.out HW_.out (by kernel_rfl)) (fun _ _ _ h => h) (Or.inl ⟨by rfl, ?_⟩) hHeld ?_ ?_
  rotate_left
  ·rintro w' ⟨s0, s1, s2, s3, s4, s5⟩
   go_simp
   with_reducible rfl
  rotate_left
  ·simp only [Act.put, List.setIfInBounds_toArray, List.set_cons_zero, List.set_cons_succ, i64_w, i32_w]
   rfl
  refine one_ (i := 1) (N := some 6) #[true, true, false, false, false, false, false, false, false, false, false, false, false, false, false, false, false, false, false, false] rfl rfl (one_of HT_.out (by kernel_rfl)) (by decide) (fun K hK => ?_)
  refine goes_ Try.func64 (by kernel_rfl) rfl #[.agg #[.int .i64 a0_0, .int .i64 a0_1, .int .i64 a0_2, .int .i64 a0_3, .int .i64 a0_4, .int .i64 a0_5]] (by rfl) rfl rfl Gv.lm ?_
  with_reducible refine (impl_isAny.calls a0_0 a0_1 a0_2 a0_3 a0_4 a0_5 true _ A3.out).mono ?_
  rintro e w8 ⟨rfl, hb⟩
  refine ⟨_, rfl, ?_⟩
  have n0_ := Gv.a0 (Gv.bb BK397.out hb)
  have n1_ := Gv.a0 (Gv.bb BK398.out hb)
  have n2_ := Gv.a0 (below_step Gv.bw hb)
  clear BK397
  clear BK398
  clear HB
  have BK397 := n0_
  have BK398 := n1_
  have HB := n2_
  clear n0_ n1_ n2_
  (try clear hb)
  (try clear hb2)
  (try clear hk)
  (try clear hi)
  refine hK.out _ _ ⟨(blk_cell BK397.out 0).trans rfl, (blk_cell BK397.out 1).trans rfl, (blk_cell BK397.out 2).trans rfl, (blk_cell BK397.out 3).trans rfl, (blk_cell BK397.out 4).trans rfl, (blk_cell BK397.out 5).trans rfl⟩ (fun hHeld => ?_)
  clear hK K
  refine norm_ (a' := ?_) ?_ ?_
  rotate_left
  ·show Act.put _ (some 6) _ = _
   simp only [Act.put, List.setIfInBounds_toArray, List.set_cons_zero, List.set_cons_succ, i64_w, i32_w]
   rfl
  refine Gv.pu 2 (some 7) HT_ ?_
  refine Gv.pn 3 (some 8) HT_ ?_
  refine Gv.pn 4 (some 9) HT_ ?_
  refine Gv.pn 5 (some 10) HT_ ?_
  refine Gv.pn 6 (some 11) HT_ ?_
  refine Gv.pn 7 (some 12) HT_ ?_
  refine Gv.pn 8 (some 13) HT_ ?_
  refine Gv.pn 9 (some 14) HT_ ?_
  refine Gv.pn 10 (some 15) HT_ ?_
  refine Gv.pn 11 (some 16) HT_ ?_
  refine Gv.pn 12 (some 17) HT_ ?_
  refine Gv.pn 13 (some 18) HT_ ?_
  refine Gv.pn 14 (some 19) HT_ ?_
  refine Gv.pn 15 (some 20) HT_ ?_
  refine Gv.pn 16 (some 21) HT_ ?_
  refine Gv.pn 17 (some 22) HT_ ?_
  refine Gv.pu 18 (some 23) HT_ ?_
  refine Gv.pu 19 (some 4) HT_ ?_
  refine done_ (done_of HT_.out (by kernel_rfl)) ?_
  try go_wp2
  go_ret
  exact ⟨Gv.rt, Gv.bw⟩
 ·replace c4 := Bool.eq_false_iff.mpr c4
  subst c4
  have H1 : (if a1_0 = a0_0 then ((impl_Cut.f k a1_0 a1_1 a1_2 a1_3 a1_4 a0_5).bind fun bt400 => (some (bt400.1 == a0_0 && (bt400.2.1 == a0_1 && (bt400.2.2.1 == a0_2 && (bt400.2.2.2.1 == a0_3 && (bt400.2.2.2.2 == a0_4))))))) else (some false)) = some r := by rw [if_neg (show ¬ (false = true) by decide)] at H; exact H
  clear H
  have H := H1
  clear H1
  by_cases c9 : a1_0 = a0_0
  ·rw [if_pos c9] at H
   have c9b0 : (a1_0 == a0_0) = true := beq_iff_eq.mpr c9
   have c9b1 : (a1_0 != a0_0) = false := bne_eq_false_iff_eq.mpr c9
   clear c9
   replace H := Option.bind_eq_some_iff.mp H
   obtain ⟨⟨t400, t401, t402, t403, t404⟩, A100, H⟩ := H
   replace H : (some (t400 == a0_0 && (t401 == a0_1 && (t402 == a0_2 && (t403 == a0_3 && (t404 == a0_4)))))) = some r := H
   have A10 := Gv.a0 A100
   clear A100
   obtain rfl := Option.some.inj H
   go_enter Try.func55, Try.ntmps55
   try go_wp2_with (first | ((with_reducible refine gate_dst (N := 2) rfl ?_); refine box_event ?hg (N := 2) ?hd (cs := #[.int .i64 a0_0, .int .i64 a0_1, .int .i64 a0_2, .int .i64 a0_3, .int .i64 a0_4, .int .i64 a0_5]) (t := 53) ?hr ?_; (case hd => rfl); (case hg => rfl); (case hr => first | (go_simp; done) | (go_simp; rfl)); intro gb397 hg w11 hbox hb; have n0_ := Gv.a0 (below_step Gv.bw hb); have n1_ := Gv.a0 (hbox); have n2_ := Gv.a0 ((Gv.ble hg Gv.bw : w.heap.size ≤ gb397)); have n3_ := Gv.a0 ((Gv.ble hg Gv.bw : w.heap.size ≤ gb397)); clear HB; have HB := n0_; have BK397 := n1_; have GW397 := n2_; have GE397 := n3_; clear n0_ n1_ n2_ n3_; clear hb hbox hg) | ((with_reducible refine gate_dst (N := 3) rfl ?_); refine box_event ?hg (N := 3) ?hd (cs := #[.int .i64 a1_0, .int .i64 a1_1, .int .i64 a1_2, .int .i64 a1_3, .int .i64 a1_4]) (t := 34) ?hr ?_; (case hd => rfl); (case hg => rfl); (case hr => first | (go_simp; done) | (go_simp; rfl)); intro gb398 hg w12 hbox hb; have n0_ := Gv.a0 (Gv.bb BK397.out hb); have n1_ := Gv.a0 (below_step Gv.bw hb); have n2_ := Gv.a0 (hbox); have n3_ := Gv.a0 ((Gv.ble hg Gv.bw : w.heap.size ≤ gb398)); have n4_ := Gv.a0 ((Gv.ble hg Gv.bw : w.heap.size ≤ gb398)); have n5_ := Gv.a0 ((Gv.nlt hg (Gv.kb BK397.out) : gb397 ≠ gb398)); have n6_ := Gv.a0 ((Gv.ngt hg (Gv.kb BK397.out) : gb398 ≠ gb397)); clear BK397; clear HB; have BK397 := n0_; have HB := n1_; have BK398 := n2_; have GW398 := n3_; have GE398 := n4_; have NB397_398 := n5_; have NB398_397 := n6_; clear n0_ n1_ n2_ n3_ n4_ n5_ n6_; clear hb hbox hg))
   have n0_ := Gv.a0 (blk_drew BK397.out)
   have n1_ := Gv.a0 (blk_drew BK398.out)
   have n2_ := Gv.a0 (below_drew1 HB.out)
   clear BK397
   clear BK398
   clear HB
   have BK397 := n0_
   have BK398 := n1_
   have HB := n2_
   clear n0_ n1_ n2_
   refine start_ (n := 20) (S := fun w' => w'.cell? ⟨gb397, 0, none⟩ = some (.int .i64 a0_0) ∧ w'.cell? ⟨gb397, 1, none⟩ = some (.int .i64 a0_1) ∧ w'.cell? ⟨gb397, 2, none⟩ = some (.int .i64 a0_2) ∧ w'.cell? ⟨gb397, 3, none⟩ = some (.int .i64 a0_3) ∧ w'.cell? ⟨gb397, 4, none⟩ = some (.int .i64 a0_4) ∧ w'.cell? ⟨gb397, 5, none⟩ = some (.int .i64 a0_5) ∧ w'.cell? ⟨gb398, 0, none⟩ = some (.int .i64 a1_0) ∧ w'.cell? ⟨gb398, 1, none⟩ = some (.int .i64 a1_1) ∧ w'.cell? ⟨gb398, 2, none⟩ = some (.int .i64 a1_2) ∧ w'.cell? ⟨gb398, 3, none⟩ = some (.int .i64 a1_3) ∧ w'.cell? ⟨gb398, 4, none⟩ = some (.int .i64 a1_4)) (ds := []) #[false, false, false, false, false, false, false, false, false, false, false, false, false, false, false, false, false, false, false, false] (by kernel_rfl) rfl rfl ⟨(blk_cell BK397.out 0).trans rfl, (blk_cell BK397.out 1).trans rfl, (blk_cell BK397.out 2).trans rfl, (blk_cell BK397.out 3).trans rfl, (blk_cell BK397.out 4).trans rfl, (blk_cell BK397.out 5).trans rfl, (blk_cell BK398.out 0).trans rfl, (blk_cell BK398.out 1).trans rfl, (blk_cell BK398.out 2).trans rfl, (blk_cell BK398.out 3).trans rfl, (blk_cell BK398.out 4).trans rfl⟩ (fun hHeld => ?_); refine with_tabW impl_Prefix_has.tab1 impl_Prefix_has.bits1 (fun HT_ HW_ => ?_)
   generalize w12.drew = w13 at BK397 BK398 HB hHeld ⊢
   refine take_ (i := 0) (N := some 5) (v := ?_) (a' := ?_) #[true, false, false, false, false, false, false, false, false, false, false, false, false, false, false, false, false, false, false, false] rfl rfl (take_ofW HT_.out HW_.out (by kernel_rfl)) (fun _ _ _ h => h) (Or.inl ⟨by rfl, ?_⟩) hHeld ?_ ?_
   rotate_left
   ·rintro w' ⟨s0, s1, s2, s3, s4, s5, s6, s7, s8, s9, s10⟩
    go_simp
    with_reducible rfl
   rotate_left
   ·simp only [Act.put, List.setIfInBounds_toArray, List.set_cons_zero, List.set_cons_succ, i64_w, i32_w]
    rfl
   refine one_ (i := 1) (N := some 6) #[true, true, false, false, false, false, false, false, false, false, false, false, false, false, false, false, false, false, false, false] rfl rfl (one_of HT_.out (by kernel_rfl)) (by decide) (fun K hK => ?_)
   refine goes_ Try.func64 (by kernel_rfl) rfl #[.agg #[.int .i64 a0_0, .int .i64 a0_1, .int .i64 a0_2, .int .i64 a0_3, .int .i64 a0_4, .int .i64 a0_5]] (by rfl) rfl rfl Gv.lm ?_
   with_reducible refine (impl_isAny.calls a0_0 a0_1 a0_2 a0_3 a0_4 a0_5 false _ A3.out).mono ?_
   rintro e w14 ⟨rfl, hb⟩
   refine ⟨_, rfl, ?_⟩
   have n0_ := Gv.a0 (Gv.bb BK397.out hb)
   have n1_ := Gv.a0 (Gv.bb BK398.out hb)
   have n2_ := Gv.a0 (below_step Gv.bw hb)
   clear BK397
   clear BK398
   clear HB
   have BK397 := n0_
   have BK398 := n1_
   have HB := n2_
   clear n0_ n1_ n2_
   (try clear hb)
   (try clear hb2)
   (try clear hk)
   (try clear hi)
   refine hK.out _ _ ⟨(blk_cell BK397.out 0).trans rfl, (blk_cell BK397.out 1).trans rfl, (blk_cell BK397.out 2).trans rfl, (blk_cell BK397.out 3).trans rfl, (blk_cell BK397.out 4).trans rfl, (blk_cell BK397.out 5).trans rfl, (blk_cell BK398.out 0).trans rfl, (blk_cell BK398.out 1).trans rfl, (blk_cell BK398.out 2).trans rfl, (blk_cell BK398.out 3).trans rfl, (blk_cell BK398.out 4).trans rfl⟩ (fun hHeld => ?_)
   clear hK K
   refine norm_ (a' := ?_) ?_ ?_
   rotate_left
   ·show Act.put _ (some 6) _ = _
    simp only [Act.put, List.setIfInBounds_toArray, List.set_cons_zero, List.set_cons_succ, i64_w, i32_w]
    rfl
   refine Gv.pu 2 (some 7) HT_ ?_
   refine Gv.pu 3 (some 8) HT_ ?_
   refine Gv.pu 5 (some 10) HT_ ?_
   refine Gv.pu 6 (some 11) HT_ ?_
   refine take_ (i := 4) (N := some 9) (v := ?_) (a' := ?_) #[true, true, true, true, true, true, true, false, false, false, false, false, false, false, false, false, false, false, false, false] rfl rfl (take_ofW HT_.out HW_.out (by kernel_rfl)) (fun _ _ _ h => h) (Or.inl ⟨by rfl, ?_⟩) hHeld ?_ ?_
   rotate_left
   ·rintro w' ⟨s0, s1, s2, s3, s4, s5, s6, s7, s8, s9, s10⟩
    go_simp
    with_reducible rfl
   rotate_left
   ·simp only [Act.put, List.setIfInBounds_toArray, List.set_cons_zero, List.set_cons_succ, i64_w, i32_w]
    rfl
   refine take_ (i := 7) (N := some 12) (v := ?_) (a' := ?_) #[true, true, true, true, true, true, true, true, false, false, false, false, false, false, false, false, false, false, false, false] rfl rfl (take_ofW HT_.out HW_.out (by kernel_rfl)) (fun _ _ _ h => h) (Or.inl ⟨by rfl, ?_⟩) hHeld ?_ ?_
   rotate_left
   ·rintro w' ⟨s0, s1, s2, s3, s4, s5, s6, s7, s8, s9, s10⟩
    go_simp
    with_reducible rfl
   rotate_left
   ·simp only [Act.put, List.setIfInBounds_toArray, List.set_cons_zero, List.set_cons_succ, i64_w, i32_w]
    rfl
   refine Gv.pu 8 (some 13) HT_ ?_
   refine Gv.pu 9 (some 14) HT_ ?_
   refine Gv.pu 11 (some 16) HT_ ?_
   refine Gv.pu 14 (some 19) HT_ ?_
   refine take_ (i := 10) (N := some 15) (v := ?_) (a' := ?_) #[true, true, true, true, true, true, true, true, true, true, true, true, false, false, true, false, false, false, false, false] rfl rfl (take_ofW HT_.out HW_.out (by kernel_rfl)) (fun _ _ _ h => h) (Or.inl ⟨by rfl, ?_⟩) hHeld ?_ ?_
   rotate_left
   ·rintro w' ⟨s0, s1, s2, s3, s4, s5, s6, s7, s8, s9, s10⟩
    go_simp
    with_reducible rfl
   rotate_left
   ·simp only [Act.put, List.setIfInBounds_toArray, List.set_cons_zero, List.set_cons_succ, i64_w, i32_w]
    rfl
   refine take_ (i := 12) (N := some 17) (v := ?_) (a' := ?_) #[true, true, true, true, true, true, true, true, true, true, true, true, true, false, true, false, false, false, false, false] rfl rfl (take_ofW HT_.out HW_.out (by kernel_rfl)) (fun _ _ _ h => h) (Or.inl ⟨by rfl, ?_⟩) hHeld ?_ ?_
   rotate_left
   ·rintro w' ⟨s0, s1, s2, s3, s4, s5, s6, s7, s8, s9, s10⟩
    go_simp
    with_reducible rfl
   rotate_left
   ·simp only [Act.put, List.setIfInBounds_toArray, List.set_cons_zero, List.set_cons_succ, i64_w, i32_w]
    rfl
   refine take_ (i := 15) (N := some 20) (v := ?_) (a' := ?_) #[true, true, true, true, true, true, true, true, true, true, true, true, true, false, true, true, false, false, false, false] rfl rfl (take_ofW HT_.out HW_.out (by kernel_rfl)) (fun _ _ _ h => h) (Or.inl ⟨by rfl, ?_⟩) hHeld ?_ ?_
   rotate_left
   ·rintro w' ⟨s0, s1, s2, s3, s4, s5, s6, s7, s8, s9, s10⟩
    go_simp
    with_reducible rfl
   rotate_left
   ·simp only [Act.put, List.setIfInBounds_toArray, List.set_cons_zero, List.set_cons_succ, i64_w, i32_w]
    rfl
   refine one_ (i := 13) (N := some 18) #[true, true, true, true, true, true, true, true, true, true, true, true, true, true, true, true, false, false, false, false] rfl rfl (one_of HT_.out (by kernel_rfl)) (by decide) (fun K hK => ?_)
   refine goes_ Try.func67 (by kernel_rfl) rfl #[.agg #[.int .i64 a1_0, .int .i64 a1_1, .int .i64 a1_2, .int .i64 a1_3, .int .i64 a1_4], .int .i64 a0_5] (by rfl) rfl rfl Gv.lm ?_
   with_reducible refine (impl_Cut.calls k a1_0 a1_1 a1_2 a1_3 a1_4 a0_5 t400 t401 t402 t403 t404 _ A10.out).mono ?_
   rintro e w15 ⟨rfl, hb⟩
   refine ⟨_, rfl, ?_⟩
   have n0_ := Gv.a0 (Gv.bb BK397.out hb)
   have n1_ := Gv.a0 (Gv.bb BK398.out hb)
   have n2_ := Gv.a0 (below_step Gv.bw hb)
   clear BK397
   clear BK398
   clear HB
   have BK397 := n0_
   have BK398 := n1_
   have HB := n2_
   clear n0_ n1_ n2_
   (try clear hb)
   (try clear hb2)
   (try clear hk)
   (try clear hi)
   refine hK.out _ _ ⟨(blk_cell BK397.out 0).trans rfl, (blk_cell BK397.out 1).trans rfl, (blk_cell BK397.out 2).trans rfl, (blk_cell BK397.out 3).trans rfl, (blk_cell BK397.out 4).trans rfl, (blk_cell BK397.out 5).trans rfl, (blk_cell BK398.out 0).trans rfl, (blk_cell BK398.out 1).trans rfl, (blk_cell BK398.out 2).trans rfl, (blk_cell BK398.out 3).trans rfl, (blk_cell BK398.out 4).trans rfl⟩ (fun hHeld => ?_)
   clear hK K
   refine norm_ (a' := ?_) ?_ ?_
   rotate_left
   ·show Act.put _ (some 18) _ = _
    simp only [Act.put, List.setIfInBounds_toArray, List.set_cons_zero, List.set_cons_succ, i64_w, i32_w]
    rfl
   refine Gv.pu 16 (some 21) HT_ ?_
   refine Gv.pu 17 (some 22) HT_ ?_
   refine Gv.pu 18 (some 23) HT_ ?_
   refine Gv.pu 19 (some 4) HT_ ?_
   refine done_ (done_of HT_.out (by kernel_rfl)) ?_
   try go_wp2
   go_ret
   exact ⟨Gv.rt, Gv.bw⟩
  ·rw [if_neg c9] at H
   have c9b0 : (a1_0 == a0_0) = false := beq_eq_false_iff_ne.mpr c9
   have c9b1 : (a1_0 != a0_0) = true := bne_iff_ne.mpr c9
   obtain rfl := Option.some.inj H
   go_enter Try.func55, Try.ntmps55
   try go_wp2_with (first | ((with_reducible refine gate_dst (N := 2) rfl ?_); refine box_event ?hg (N := 2) ?hd (cs := #[.int .i64 a0_0, .int .i64 a0_1, .int .i64 a0_2, .int .i64 a0_3, .int .i64 a0_4, .int .i64 a0_5]) (t := 53) ?hr ?_; (case hd => rfl); (case hg => rfl); (case hr => first | (go_simp; done) | (go_simp; rfl)); intro gb397 hg w16 hbox hb; have n0_ := Gv.a0 (below_step Gv.bw hb); have n1_ := Gv.a0 (hbox); have n2_ := Gv.a0 ((Gv.ble hg Gv.bw : w.heap.size ≤ gb397)); have n3_ := Gv.a0 ((Gv.ble hg Gv.bw : w.heap.size ≤ gb397)); clear HB; have HB := n0_; have BK397 := n1_; have GW397 := n2_; have GE397 := n3_; clear n0_ n1_ n2_ n3_; clear hb hbox hg) | ((with_reducible refine gate_dst (N := 3) rfl ?_); refine box_event ?hg (N := 3) ?hd (cs := #[.int .i64 a1_0, .int .i64 a1_1, .int .i64 a1_2, .int .i64 a1_3, .int .i64 a1_4]) (t := 34) ?hr ?_; (case hd => rfl); (case hg => rfl); (case hr => first | (go_simp; done) | (go_simp; rfl)); intro gb398 hg w17 hbox hb; have n0_ := Gv.a0 (Gv.bb BK397.out hb); have n1_ := Gv.a0 (below_step Gv.bw hb); have n2_ := Gv.a0 (hbox); have n3_ := Gv.a0 ((Gv.ble hg Gv.bw : w.heap.size ≤ gb398)); have n4_ := Gv.a0 ((Gv.ble hg Gv.bw : w.heap.size ≤ gb398)); have n5_ := Gv.a0 ((Gv.nlt hg (Gv.kb BK397.out) : gb397 ≠ gb398)); have n6_ := Gv.a0 ((Gv.ngt hg (Gv.kb BK397.out) : gb398 ≠ gb397)); clear BK397; clear HB; have BK397 := n0_; have HB := n1_; have BK398 := n2_; have GW398 := n3_; have GE398 := n4_; have NB397_398 := n5_; have NB398_397 := n6_; clear n0_ n1_ n2_ n3_ n4_ n5_ n6_; clear hb hbox hg))
   have n0_ := Gv.a0 (blk_drew BK397.out)
   have n1_ := Gv.a0 (blk_drew BK398.out)
   have n2_ := Gv.a0 (below_drew1 HB.out)
   clear BK397
   clear BK398
   clear HB
   have BK397 := n0_
   have BK398 := n1_
   have HB := n2_
   clear n0_ n1_ n2_
   refine start_ (n := 20) (S := fun w' => w'.cell? ⟨gb397, 0, none⟩ = some (.int .i64 a0_0) ∧ w'.cell? ⟨gb397, 1, none⟩ = some (.int .i64 a0_1) ∧ w'.cell? ⟨gb397, 2, none⟩ = some (.int .i64 a0_2) ∧ w'.cell? ⟨gb397, 3, none⟩ = some (.int .i64 a0_3) ∧ w'.cell? ⟨gb397, 4, none⟩ = some (.int .i64 a0_4) ∧ w'.cell? ⟨gb397, 5, none⟩ = some (.int .i64 a0_5) ∧ w'.cell? ⟨gb398, 0, none⟩ = some (.int .i64 a1_0) ∧ w'.cell? ⟨gb398, 1, none⟩ = some (.int .i64 a1_1) ∧ w'.cell? ⟨gb398, 2, none⟩ = some (.int .i64 a1_2) ∧ w'.cell? ⟨gb398, 3, none⟩ = some (.int .i64 a1_3) ∧ w'.cell? ⟨gb398, 4, none⟩ = some (.int .i64 a1_4)) (ds := []) #[false, false, false, false, false, false, false, false, false, false, false, false, false, false, false, false, false, false, false, false] (by kernel_rfl) rfl rfl ⟨(blk_cell BK397.out 0).trans rfl, (blk_cell BK397.out 1).trans rfl, (blk_cell BK397.out 2).trans rfl, (blk_cell BK397.out 3).trans rfl, (blk_cell BK397.out 4).trans rfl, (blk_cell BK397.out 5).trans rfl, (blk_cell BK398.out 0).trans rfl, (blk_cell BK398.out 1).trans rfl, (blk_cell BK398.out 2).trans rfl, (blk_cell BK398.out 3).trans rfl, (blk_cell BK398.out 4).trans rfl⟩ (fun hHeld => ?_); refine with_tabW impl_Prefix_has.tab1 impl_Prefix_has.bits1 (fun HT_ HW_ => ?_)
   generalize w17.drew = w18 at BK397 BK398 HB hHeld ⊢
   refine take_ (i := 0) (N := some 5) (v := ?_) (a' := ?_) #[true, false, false, false, false, false, false, false, false, false, false, false, false, false, false, false, false, false, false, false] rfl rfl (take_ofW HT_.out HW_.out (by kernel_rfl)) (fun _ _ _ h => h) (Or.inl ⟨by rfl, ?_⟩) hHeld ?_ ?_
   rotate_left
   ·rintro w' ⟨s0, s1, s2, s3, s4, s5, s6, s7, s8, s9, s10⟩
    go_simp
    with_reducible rfl
   rotate_left
   ·simp only [Act.put, List.setIfInBounds_toArray, List.set_cons_zero, List.set_cons_succ, i64_w, i32_w]
    rfl
   refine one_ (i := 1) (N := some 6) #[true, true, false, false, false, false, false, false, false, false, false, false, false, false, false, false, false, false, false, false] rfl rfl (one_of HT_.out (by kernel_rfl)) (by decide) (fun K hK => ?_)
   refine goes_ Try.func64 (by kernel_rfl) rfl #[.agg #[.int .i64 a0_0, .int .i64 a0_1, .int .i64 a0_2, .int .i64 a0_3, .int .i64 a0_4, .int .i64 a0_5]] (by rfl) rfl rfl Gv.lm ?_
   with_reducible refine (impl_isAny.calls a0_0 a0_1 a0_2 a0_3 a0_4 a0_5 false _ A3.out).mono ?_
   rintro e w19 ⟨rfl, hb⟩
   refine ⟨_, rfl, ?_⟩
   have n0_ := Gv.a0 (Gv.bb BK397.out hb)
   have n1_ := Gv.a0 (Gv.bb BK398.out hb)
   have n2_ := Gv.a0 (below_step Gv.bw hb)
   clear BK397
   clear BK398
   clear HB
   have BK397 := n0_
   have BK398 := n1_
   have HB := n2_
   clear n0_ n1_ n2_
   (try clear hb)
   (try clear hb2)
   (try clear hk)
   (try clear hi)
   refine hK.out _ _ ⟨(blk_cell BK397.out 0).trans rfl, (blk_cell BK397.out 1).trans rfl, (blk_cell BK397.out 2).trans rfl, (blk_cell BK397.out 3).trans rfl, (blk_cell BK397.out 4).trans rfl, (blk_cell BK397.out 5).trans rfl, (blk_cell BK398.out 0).trans rfl, (blk_cell BK398.out 1).trans rfl, (blk_cell BK398.out 2).trans rfl, (blk_cell BK398.out 3).trans rfl, (blk_cell BK398.out 4).trans rfl⟩ (fun hHeld => ?_)
   clear hK K
   refine norm_ (a' := ?_) ?_ ?_
   rotate_left
   ·show Act.put _ (some 6) _ = _
    simp only [Act.put, List.setIfInBounds_toArray, List.set_cons_zero, List.set_cons_succ, i64_w, i32_w]
    rfl
   refine Gv.pu 2 (some 7) HT_ ?_
   refine Gv.pu 3 (some 8) HT_ ?_
   refine Gv.pu 5 (some 10) HT_ ?_
   refine Gv.pu 6 (some 11) HT_ ?_
   refine take_ (i := 4) (N := some 9) (v := ?_) (a' := ?_) #[true, true, true, true, true, true, true, false, false, false, false, false, false, false, false, false, false, false, false, false] rfl rfl (take_ofW HT_.out HW_.out (by kernel_rfl)) (fun _ _ _ h => h) (Or.inl ⟨by rfl, ?_⟩) hHeld ?_ ?_
   rotate_left
   ·rintro w' ⟨s0, s1, s2, s3, s4, s5, s6, s7, s8, s9, s10⟩
    go_simp
    with_reducible rfl
   rotate_left
   ·simp only [Act.put, List.setIfInBounds_toArray, List.set_cons_zero, List.set_cons_succ, i64_w, i32_w]
    rfl
   refine take_ (i := 7) (N := some 12) (v := ?_) (a' := ?_) #[true, true, true, true, true, true, true, true, false, false, false, false, false, false, false, false, false, false, false, false] rfl rfl (take_ofW HT_.out HW_.out (by kernel_rfl)) (fun _ _ _ h => h) (Or.inl ⟨by rfl, ?_⟩) hHeld ?_ ?_
   rotate_left
   ·rintro w' ⟨s0, s1, s2, s3, s4, s5, s6, s7, s8, s9, s10⟩
    go_simp
    with_reducible rfl
   rotate_left
   ·simp only [Act.put, List.setIfInBounds_toArray, List.set_cons_zero, List.set_cons_succ, i64_w, i32_w]
    rfl
   refine Gv.pu 8 (some 13) HT_ ?_
   refine Gv.pu 9 (some 14) HT_ ?_
   refine Gv.pn 10 (some 15) HT_ ?_
   refine Gv.pn 11 (some 16) HT_ ?_
   refine Gv.pn 12 (some 17) HT_ ?_
   refine Gv.pn 13 (some 18) HT_ ?_
   refine Gv.pn 14 (some 19) HT_ ?_
   refine Gv.pn 15 (some 20) HT_ ?_
   refine Gv.pn 16 (some 21) HT_ ?_
   refine Gv.pu 17 (some 22) HT_ ?_
   refine Gv.pu 18 (some 23) HT_ ?_
   refine Gv.pu 19 (some 4) HT_ ?_
   refine done_ (done_of HT_.out (by kernel_rfl)) ?_
   try go_wp2
   go_ret
   exact ⟨Gv.rt, Gv.bw⟩

/-! ### impl_PrefixIn: function 57 -/
def impl_PrefixIn.j0 : Nat → Bool → Int → Int → Int → Int → Int → Int → Int → Int → Int → Int → Int → Int → Option (Bool)
 | 0, _, _, _, _, _, _, _, _, _, _, _, _, _ => none
 | k + 1, x12, x406000, x406001, x406002, x406003, x406004, x406005, x407000, x407001, x407002, x407003, x407004, x407005 => if x12 = true then (some false) else ((impl_isAny.f x407000 x407001 x407002 x407003 x407004 x407005).bind fun t409 => (if t409 = true then (some true) else ((impl_isAny.f x406000 x406001 x406002 x406003 x406004 x406005).bind fun t410 => (if t410 = true then (some false) else (if x406000 = x407000 then (if x406005 ≥ x407005 then ((impl_Prefix_has.f k x407000 x407001 x407002 x407003 x407004 x407005 x406000 x406001 x406002 x406003 x406004).bind fun t411 => (some t411)) else (some false)) else (some false))))))
def impl_PrefixIn.f (k : Nat) (a0_0 : Int) (a0_1 : Int) (a0_2 : Int) (a0_3 : Int) (a0_4 : Int) (a0_5 : Int) (a1_0 : Int) (a1_1 : Int) (a1_2 : Int) (a1_3 : Int) (a1_4 : Int) (a1_5 : Int) : Option (Bool) := (impl_PrefixOk.f k a0_0 a0_1 a0_2 a0_3 a0_4 a0_5).bind fun t407 => (if t407 = true then ((impl_PrefixOk.f k a1_0 a1_1 a1_2 a1_3 a1_4 a1_5).bind fun t408 => (impl_PrefixIn.j0 k (!t408) a0_0 a0_1 a0_2 a0_3 a0_4 a0_5 a1_0 a1_1 a1_2 a1_3 a1_4 a1_5)) else (impl_PrefixIn.j0 k true a0_0 a0_1 a0_2 a0_3 a0_4 a0_5 a1_0 a1_1 a1_2 a1_3 a1_4 a1_5))
theorem impl_PrefixIn.mono_l : ∀ k, (∀ y0 y1 y2 y3 y4 y5 y6 y7 y8 y9 y10 y11 y12, LeO (impl_PrefixIn.j0 k y0 y1 y2 y3 y4 y5 y6 y7 y8 y9 y10 y11 y12) (impl_PrefixIn.j0 (k + 1) y0 y1 y2 y3 y4 y5 y6 y7 y8 y9 y10 y11 y12))
 | 0 => fun _ _ _ _ _ _ _ _ _ _ _ _ _ r h => by simp [impl_PrefixIn.j0] at h
 | k + 1 => by
  have ih0 := impl_PrefixIn.mono_l k
  ·intro y0 y1 y2 y3 y4 y5 y6 y7 y8 y9 y10 y11 y12
   unfold impl_PrefixIn.j0
   repeat' first
   | (with_reducible exact ih0 _ _ _ _ _ _ _ _ _ _ _ _ _)
   | (with_reducible exact impl_PrefixOk.mono _ _ _ _ _ _ _)
   | (with_reducible exact impl_Prefix_has.mono _ _ _ _ _ _ _ _ _ _ _ _)
   | (with_reducible exact LeO.refl _)
   | (with_reducible exact LeO.none _)
   | (with_reducible refine LeO.ite ?_ ?_)
   | (with_reducible refine LeO.bind ?_ (fun _ => ?_))
   | exact ih0 _ _ _ _ _ _ _ _ _ _ _ _ _
   | exact impl_PrefixOk.mono _ _ _ _ _ _ _
   | exact impl_Prefix_has.mono _ _ _ _ _ _ _ _ _ _ _ _
   | exact LeO.none _
   | refine LeO.ite ?_ ?_
   | refine LeO.bind ?_ (fun _ => ?_)
theorem impl_PrefixIn.mono : ∀ a0 a1 a2 a3 a4 a5 a6 a7 a8 a9 a10 a11 k, LeO (impl_PrefixIn.f k a0 a1 a2 a3 a4 a5 a6 a7 a8 a9 a10 a11) (impl_PrefixIn.f (k + 1) a0 a1 a2 a3 a4 a5 a6 a7 a8 a9 a10 a11) := by
 intro a0 a1 a2 a3 a4 a5 a6 a7 a8 a9 a10 a11 k
 have ih0 := impl_PrefixIn.mono_l k
 unfold impl_PrefixIn.f
 repeat' first
   | (with_reducible exact ih0 _ _ _ _ _ _ _ _ _ _ _ _ _)
   | (with_reducible exact impl_PrefixOk.mono _ _ _ _ _ _ _)
   | (with_reducible exact impl_Prefix_has.mono _ _ _ _ _ _ _ _ _ _ _ _)
   | (with_reducible exact LeO.refl _)
   | (with_reducible exact LeO.none _)
   | (with_reducible refine LeO.ite ?_ ?_)
   | (with_reducible refine LeO.bind ?_ (fun _ => ?_))
   | exact ih0 _ _ _ _ _ _ _ _ _ _ _ _ _
   | exact impl_PrefixOk.mono _ _ _ _ _ _ _
   | exact impl_Prefix_has.mono _ _ _ _ _ _ _ _ _ _ _ _
   | exact LeO.none _
   | refine LeO.ite ?_ ?_
   | refine LeO.bind ?_ (fun _ => ?_)
set_option maxHeartbeats 8000000 in
set_option maxRecDepth 100000 in
theorem impl_PrefixIn.calls (k : Nat) (a0_0 : Int) (a0_1 : Int) (a0_2 : Int) (a0_3 : Int) (a0_4 : Int) (a0_5 : Int) (a1_0 : Int) (a1_1 : Int) (a1_2 : Int) (a1_3 : Int) (a1_4 : Int) (a1_5 : Int) (r : Bool) (w : World) (h : impl_PrefixIn.f k a0_0 a0_1 a0_2 a0_3 a0_4 a0_5 a1_0 a1_1 a1_2 a1_3 a1_4 a1_5 = some r) :
  Calls Try.prog 57 #[.agg #[.int .i64 a0_0, .int .i64 a0_1, .int .i64 a0_2, .int .i64 a0_3, .int .i64 a0_4, .int .i64 a0_5], .agg #[.int .i64 a1_0, .int .i64 a1_1, .int .i64 a1_2, .int .i64 a1_3, .int .i64 a1_4, .int .i64 a1_5]] w fun e w' => e = .returned (.bool r) ∧ Below w.heap.size w w' := by
 have hu53 := Try.underlying53
 have hu34 := Try.underlying34
 have HB := Gv.a0 (Below.refl w.heap.size w)
 have H : ((impl_PrefixOk.f k a0_0 a0_1 a0_2 a0_3 a0_4 a0_5).bind fun t407 => (if t407 = true then ((impl_PrefixOk.f k a1_0 a1_1 a1_2 a1_3 a1_4 a1_5).bind fun t408 => (impl_PrefixIn.j0 k (!t408) a0_0 a0_1 a0_2 a0_3 a0_4 a0_5 a1_0 a1_1 a1_2 a1_3 a1_4 a1_5)) else (impl_PrefixIn.j0 k true a0_0 a0_1 a0_2 a0_3 a0_4 a0_5 a1_0 a1_1 a1_2 a1_3 a1_4 a1_5))) = some r := h
 clear h
 have HC3 := Gv.a0 H
 clear H
 go_enter Try.func57, Try.ntmps57
 go_upto_region 1 with (first | ((with_reducible refine gate_dst (N := 2) rfl ?_); refine box_event ?hg (N := 2) ?hd (cs := #[.int .i64 a0_0, .int .i64 a0_1, .int .i64 a0_2, .int .i64 a0_3, .int .i64 a0_4, .int .i64 a0_5]) (t := 53) ?hr ?_; (case hd => rfl); (case hg => rfl); (case hr => first | (go_simp; done) | (go_simp; rfl)); intro gb405 hg w4 hbox hb; have n0_ := Gv.a0 (below_step Gv.bw hb); have n1_ := Gv.a0 (hbox); have n2_ := Gv.a0 ((Gv.ble hg Gv.bw : w.heap.size ≤ gb405)); have n3_ := Gv.a0 ((Gv.ble hg Gv.bw : w.heap.size ≤ gb405)); clear HB; have HB := n0_; have BK405 := n1_; have GW405 := n2_; have GE405 := n3_; clear n0_ n1_ n2_ n3_; clear hb hbox hg) | ((with_reducible refine gate_dst (N := 3) rfl ?_); refine box_event ?hg (N := 3) ?hd (cs := #[.int .i64 a1_0, .int .i64 a1_1, .int .i64 a1_2, .int .i64 a1_3, .int .i64 a1_4, .int .i64 a1_5]) (t := 53) ?hr ?_; (case hd => rfl); (case hg => rfl); (case hr => first | (go_simp; done) | (go_simp; rfl)); intro gb406 hg w5 hbox hb; have n0_ := Gv.a0 (Gv.bb BK405.out hb); have n1_ := Gv.a0 (below_step Gv.bw hb); have n2_ := Gv.a0 (hbox); have n3_ := Gv.a0 ((Gv.ble hg Gv.bw : w.heap.size ≤ gb406)); have n4_ := Gv.a0 ((Gv.ble hg Gv.bw : w.heap.size ≤ gb406)); have n5_ := Gv.a0 ((Gv.nlt hg (Gv.kb BK405.out) : gb405 ≠ gb406)); have n6_ := Gv.a0 ((Gv.ngt hg (Gv.kb BK405.out) : gb406 ≠ gb405)); clear BK405; clear HB; have BK405 := n0_; have HB := n1_; have BK406 := n2_; have GW406 := n3_; have GE406 := n4_; have NB405_406 := n5_; have NB406_405 := n6_; clear n0_ n1_ n2_ n3_ n4_ n5_ n6_; clear hb hbox hg))
 (try simp only [Act.put, List.setIfInBounds_toArray, List.set_cons_zero, List.set_cons_succ])
 go_cut [12] (fun v12 wc => ∃ (kq : Nat) (x12_2 : Bool), v12 = .bool x12_2 ∧ Aside0 (impl_PrefixIn.j0 kq x12_2 a0_0 a0_1 a0_2 a0_3 a0_4 a0_5 a1_0 a1_1 a1_2 a1_3 a1_4 a1_5 = some r) ∧ Aside0 (kq ≤ k) ∧ Aside0 (wc.heap[gb405]? = some (.cells #[.int .i64 a0_0, .int .i64 a0_1, .int .i64 a0_2, .int .i64 a0_3, .int .i64 a0_4, .int .i64 a0_5] 53 (0, 0))) ∧ Aside0 (wc.heap[gb406]? = some (.cells #[.int .i64 a1_0, .int .i64 a1_1, .int .i64 a1_2, .int .i64 a1_3, .int .i64 a1_4, .int .i64 a1_5] 53 (0, 0))) ∧ Aside0 (Below w.heap.size w wc))
 case first =>
  have H := HC3.out
  clear HC3
  replace H := Option.bind_eq_some_iff.mp H
  obtain ⟨t407, A60, H⟩ := H
  replace H : (if t407 = true then ((impl_PrefixOk.f k a1_0 a1_1 a1_2 a1_3 a1_4 a1_5).bind fun t408 => (impl_PrefixIn.j0 k (!t408) a0_0 a0_1 a0_2 a0_3 a0_4 a0_5 a1_0 a1_1 a1_2 a1_3 a1_4 a1_5)) else (impl_PrefixIn.j0 k true a0_0 a0_1 a0_2 a0_3 a0_4 a0_5 a1_0 a1_1 a1_2 a1_3 a1_4 a1_5)) = some r := H
  have A6 := Gv.a0 A60
  clear A60
  by_cases c7 : t407 = true
  ·subst c7
   have H1 : ((impl_PrefixOk.f k a1_0 a1_1 a1_2 a1_3 a1_4 a1_5).bind fun t408 => (impl_PrefixIn.j0 k (!t408) a0_0 a0_1 a0_2 a0_3 a0_4 a0_5 a1_0 a1_1 a1_2 a1_3 a1_4 a1_5)) = some r := by rw [if_pos rfl] at H; exact H
   clear H
   have H := H1
   clear H1
   replace H := Option.bind_eq_some_iff.mp H
   obtain ⟨t408, A80, H⟩ := H
   replace H : (impl_PrefixIn.j0 k (!t408) a0_0 a0_1 a0_2 a0_3 a0_4 a0_5 a1_0 a1_1 a1_2 a1_3 a1_4 a1_5) = some r := H
   have A8 := Gv.a0 A80
   clear A80
   have H' := Gv.a0 H
   clear H
   have hnb9 := NB405_406.out
   have hnc9 := NB406_405.out
   obtain ⟨hcz10_0, hcz10_1, hcz10_2, hcz10_3, hcz10_4, hcz10_5⟩ := Gv.c6 BK405.out
   obtain ⟨hfz10_0, hfz10_1, hfz10_2, hfz10_3, hfz10_4, hfz10_5⟩ := Gv.f6 BK405.out
   go_wp2_with (first | ((with_reducible refine gate_callee (f := 47) rfl ?_); refine goesL_ (some 6) rfl rfl Try.func47 (by kernel_rfl) rfl #[.agg #[.int .i64 a0_0, .int .i64 a0_1, .int .i64 a0_2, .int .i64 a0_3, .int .i64 a0_4, .int .i64 a0_5]] rfl Gv.lm ?_; (with_reducible refine (impl_PrefixOk.calls k a0_0 a0_1 a0_2 a0_3 a0_4 a0_5 true _ A6.out).mono ?_); rintro e w11 ⟨rfl, hb⟩; refine ⟨_, rfl, ?_⟩; have n0_ := Gv.a0 (Gv.bb BK405.out hb); have n1_ := Gv.a0 (Gv.bb BK406.out hb); have n2_ := Gv.a0 (below_step Gv.bw hb); clear BK405; clear BK406; clear HB; have BK405 := n0_; have BK406 := n1_; have HB := n2_; clear n0_ n1_ n2_; (try clear hb); (try clear hb2); (try clear hk); (try clear hi); obtain ⟨hcz12_0, hcz12_1, hcz12_2, hcz12_3, hcz12_4, hcz12_5⟩ := Gv.c6 BK406.out; obtain ⟨hfz12_0, hfz12_1, hfz12_2, hfz12_3, hfz12_4, hfz12_5⟩ := Gv.f6 BK406.out) | (go_at_call 47; (with_reducible refine (impl_PrefixOk.calls k a1_0 a1_1 a1_2 a1_3 a1_4 a1_5 t408 _ A8.out).mono ?_); rintro e w13 ⟨rfl, hb⟩; have n0_ := Gv.a0 (Gv.bb BK405.out hb); have n1_ := Gv.a0 (Gv.bb BK406.out hb); have n2_ := Gv.a0 (below_step Gv.bw hb); clear BK405; clear BK406; clear HB; have BK405 := n0_; have BK406 := n1_; have HB := n2_; clear n0_ n1_ n2_; (try clear hb); (try clear hb2); (try clear hk); (try clear hi)))
   go_meet
   case rel => exact ⟨_, (!t408), Gv.rq, H', ⟨by first | omega | exact Nat.le_refl _⟩, ⟨by (with_reducible repeat (first | refine blk_drewN ?_ _ | refine blk_drew ?_ | refine blk_alloc ?_ _)); exact BK405.out⟩, ⟨by (with_reducible repeat (first | refine blk_drewN ?_ _ | refine blk_drew ?_ | refine blk_alloc ?_ _)); exact BK406.out⟩, ⟨Gv.bw⟩⟩
  ·replace c7 := Bool.eq_false_iff.mpr c7
   subst c7
   have H1 : (impl_PrefixIn.j0 k true a0_0 a0_1 a0_2 a0_3 a0_4 a0_5 a1_0 a1_1 a1_2 a1_3 a1_4 a1_5) = some r := by rw [if_neg (show ¬ (false = true) by decide)] at H; exact H
   clear H
   have H := H1
   clear H1
   have H' := Gv.a0 H
   clear H
   have hnb14 := NB405_406.out
   have hnc14 := NB406_405.out
   obtain ⟨hcz15_0, hcz15_1, hcz15_2, hcz15_3, hcz15_4, hcz15_5⟩ := Gv.c6 BK405.out
   obtain ⟨hfz15_0, hfz15_1, hfz15_2, hfz15_3, hfz15_4, hfz15_5⟩ := Gv.f6 BK405.out
   go_wp2_with (first | ((with_reducible refine gate_callee (f := 47) rfl ?_); refine goesL_ (some 6) rfl rfl Try.func47 (by kernel_rfl) rfl #[.agg #[.int .i64 a0_0, .int .i64 a0_1, .int .i64 a0_2, .int .i64 a0_3, .int .i64 a0_4, .int .i64 a0_5]] rfl Gv.lm ?_; (with_reducible refine (impl_PrefixOk.calls k a0_0 a0_1 a0_2 a0_3 a0_4 a0_5 false _ A6.out).mono ?_); rintro e w16 ⟨rfl, hb⟩; refine ⟨_, rfl, ?_⟩; have n0_ := Gv.a0 (Gv.bb BK405.out hb); have n1_ := Gv.a0 (Gv.bb BK406.out hb); have n2_ := Gv.a0 (below_step Gv.bw hb); clear BK405; clear BK406; clear HB; have BK405 := n0_; have BK406 := n1_; have HB := n2_; clear n0_ n1_ n2_; (try clear hb); (try clear hb2); (try clear hk); (try clear hi)))
   go_meet
   case rel => exact ⟨_, (true), Gv.rq, H', ⟨by first | omega | exact Nat.le_refl _⟩, ⟨by (with_reducible repeat (first | refine blk_drewN ?_ _ | refine blk_drew ?_ | refine blk_alloc ?_ _)); exact BK405.out⟩, ⟨by (with_reducible repeat (first | refine blk_drewN ?_ _ | refine blk_drew ?_ | refine blk_alloc ?_ _)); exact BK406.out⟩, ⟨Gv.bw⟩⟩
 case rest =>
  clear HC3
  try clear c1
  try clear p2
  try clear c4
  try clear c5
  try clear c7
  try clear c9
  try clear c14
  try clear hcz10_0 hcz10_1 hcz10_2 hcz10_3 hcz10_4 hcz10_5
  try clear hcz12_0 hcz12_1 hcz12_2 hcz12_3 hcz12_4 hcz12_5
  try clear hcz15_0 hcz15_1 hcz15_2 hcz15_3 hcz15_4 hcz15_5
  try clear hfz10_0 hfz10_1 hfz10_2 hfz10_3 hfz10_4 hfz10_5
  try clear hfz12_0 hfz12_1 hfz12_2 hfz12_3 hfz12_4 hfz12_5
  try clear hfz15_0 hfz15_1 hfz15_2 hfz15_3 hfz15_4 hfz15_5
  obtain ⟨kq, x12_2, rfl, HA, HJ2, BK405, BK406, HB⟩ := hcut
  cases kq with
  | zero => exact absurd HA.out (by simp [impl_PrefixIn.j0])
  | succ kj2 =>
   have H := HA.out
   clear HA
   simp only [impl_PrefixIn.j0] at H
   by_cases c17 : x12_2 = true
   ·subst c17
    have H1 : (some false) = some r := by rw [if_pos rfl] at H; exact H
    clear H
    have H := H1
    clear H1
    obtain rfl := Option.some.inj H
    go_wp2
    go_ret
    exact ⟨Gv.rt, Gv.bw⟩
   ·replace c17 := Bool.eq_false_iff.mpr c17
    subst c17
    have H1 : ((impl_isAny.f a1_0 a1_1 a1_2 a1_3 a1_4 a1_5).bind fun t409 => (if t409 = true then (some true) else ((impl_isAny.f a0_0 a0_1 a0_2 a0_3 a0_4 a0_5).bind fun t410 => (if t410 = true then (some false) else (if a0_0 = a1_0 then (if a0_5 ≥ a1_5 then ((impl_Prefix_has.f kj2 a1_0 a1_1 a1_2 a1_3 a1_4 a1_5 a0_0 a0_1 a0_2 a0_3 a0_4).bind fun t411 => (some t411)) else (some false)) else (some false)))))) = some r := by rw [if_neg (show ¬ (false = true) by decide)] at H; exact H
    clear H
    have H := H1
    clear H1
    replace H := Option.bind_eq_some_iff.mp H
    obtain ⟨t409, A180, H⟩ := H
    replace H : (if t409 = true then (some true) else ((impl_isAny.f a0_0 a0_1 a0_2 a0_3 a0_4 a0_5).bind fun t410 => (if t410 = true then (some false) else (if a0_0 = a1_0 then (if a0_5 ≥ a1_5 then ((impl_Prefix_has.f kj2 a1_0 a1_1 a1_2 a1_3 a1_4 a1_5 a0_0 a0_1 a0_2 a0_3 a0_4).bind fun t411 => (some t411)) else (some false)) else (some false))))) = some r := H
    have A18 := Gv.a0 A180
    clear A180
    by_cases c19 : t409 = true
    ·subst c19
     have H1 : (some true) = some r := by rw [if_pos rfl] at H; exact H
     clear H
     have H := H1
     clear H1
     obtain rfl := Option.some.inj H
     have hnb20 := NB406_405.out
     have hnc20 := NB405_406.out
     obtain ⟨hcz21_0, hcz21_1, hcz21_2, hcz21_3, hcz21_4, hcz21_5⟩ := Gv.c6 BK406.out
     obtain ⟨hfz21_0, hfz21_1, hfz21_2, hfz21_3, hfz21_4, hfz21_5⟩ := Gv.f6 BK406.out
     go_wp2_with (first | ((with_reducible refine gate_callee (f := 64) rfl ?_); refine goesL_ (some 14) rfl rfl Try.func64 (by kernel_rfl) rfl #[.agg #[.int .i64 a1_0, .int .i64 a1_1, .int .i64 a1_2, .int .i64 a1_3, .int .i64 a1_4, .int .i64 a1_5]] rfl Gv.lm ?_; (with_reducible refine (impl_isAny.calls a1_0 a1_1 a1_2 a1_3 a1_4 a1_5 true _ A18.out).mono ?_); rintro e w22 ⟨rfl, hb⟩; refine ⟨_, rfl, ?_⟩; have n0_ := Gv.a0 (Gv.bb BK405.out hb); have n1_ := Gv.a0 (Gv.bb BK406.out hb); have n2_ := Gv.a0 (below_step Gv.bw hb); clear BK405; clear BK406; clear HB; have BK405 := n0_; have BK406 := n1_; have HB := n2_; clear n0_ n1_ n2_; (try clear hb); (try clear hb2); (try clear hk); (try clear hi)))
     go_ret
     exact ⟨Gv.rt, Gv.bw⟩
    ·replace c19 := Bool.eq_false_iff.mpr c19
     subst c19
     have H1 : ((impl_isAny.f a0_0 a0_1 a0_2 a0_3 a0_4 a0_5).bind fun t410 => (if t410 = true then (some false) else (if a0_0 = a1_0 then (if a0_5 ≥ a1_5 then ((impl_Prefix_has.f kj2 a1_0 a1_1 a1_2 a1_3 a1_4 a1_5 a0_0 a0_1 a0_2 a0_3 a0_4).bind fun t411 => (some t411)) else (some false)) else (some false)))) = some r := by rw [if_neg (show ¬ (false = true) by decide)] at H; exact H
     clear H
     have H := H1
     clear H1
     replace H := Option.bind_eq_some_iff.mp H
     obtain ⟨t410, A230, H⟩ := H
     replace H : (if t410 = true then (some false) else (if a0_0 = a1_0 then (if a0_5 ≥ a1_5 then ((impl_Prefix_has.f kj2 a1_0 a1_1 a1_2 a1_3 a1_4 a1_5 a0_0 a0_1 a0_2 a0_3 a0_4).bind fun t411 => (some t411)) else (some false)) else (some false))) = some r := H
     have A23 := Gv.a0 A230
     clear A230
     by_cases c24 : t410 = true
     ·subst c24
      have H1 : (some false) = some r := by rw [if_pos rfl] at H; exact H
      clear H
      have H := H1
      clear H1
      obtain rfl := Option.some.inj H
      have hnb25 := NB406_405.out
      have hnc25 := NB405_406.out
      obtain ⟨hcz26_0, hcz26_1, hcz26_2, hcz26_3, hcz26_4, hcz26_5⟩ := Gv.c6 BK406.out
      obtain ⟨hfz26_0, hfz26_1, hfz26_2, hfz26_3, hfz26_4, hfz26_5⟩ := Gv.f6 BK406.out
      go_wp2_with (first | ((with_reducible refine gate_callee (f := 64) rfl ?_); refine goesL_ (some 14) rfl rfl Try.func64 (by kernel_rfl) rfl #[.agg #[.int .i64 a1_0, .int .i64 a1_1, .int .i64 a1_2, .int .i64 a1_3, .int .i64 a1_4, .int .i64 a1_5]] rfl Gv.lm ?_; (with_reducible refine (impl_isAny.calls a1_0 a1_1 a1_2 a1_3 a1_4 a1_5 false _ A18.out).mono ?_); rintro e w27 ⟨rfl, hb⟩; refine ⟨_, rfl, ?_⟩; have n0_ := Gv.a0 (Gv.bb BK405.out hb); have n1_ := Gv.a0 (Gv.bb BK406.out hb); have n2_ := Gv.a0 (below_step Gv.bw hb); clear BK405; clear BK406; clear HB; have BK405 := n0_; have BK406 := n1_; have HB := n2_; clear n0_ n1_ n2_; (try clear hb); (try clear hb2); (try clear hk); (try clear hi); obtain ⟨hcz28_0, hcz28_1, hcz28_2, hcz28_3, hcz28_4, hcz28_5⟩ := Gv.c6 BK405.out; obtain ⟨hfz28_0, hfz28_1, hfz28_2, hfz28_3, hfz28_4, hfz28_5⟩ := Gv.f6 BK405.out) | (go_at_call 64; (with_reducible refine (impl_isAny.calls a0_0 a0_1 a0_2 a0_3 a0_4 a0_5 true _ A23.out).mono ?_); rintro e w29 ⟨rfl, hb⟩; have n0_ := Gv.a0 (Gv.bb BK405.out hb); have n1_ := Gv.a0 (Gv.bb BK406.out hb); have n2_ := Gv.a0 (below_step Gv.bw hb); clear BK405; clear BK406; clear HB; have BK405 := n0_; have BK406 := n1_; have HB := n2_; clear n0_ n1_ n2_; (try clear hb); (try clear hb2); (try clear hk); (try clear hi)))
      go_ret
      exact ⟨Gv.rt, Gv.bw⟩
     ·replace c24 := Bool.eq_false_iff.mpr c24
      subst c24
      have H1 : (if a0_0 = a1_0 then (if a0_5 ≥ a1_5 then ((impl_Prefix_has.f kj2 a1_0 a1_1 a1_2 a1_3 a1_4 a1_5 a0_0 a0_1 a0_2 a0_3 a0_4).bind fun t411 => (some t411)) else (some false)) else (some false)) = some r := by rw [if_neg (show ¬ (false = true) by decide)] at H; exact H
      clear H
      have H := H1
      clear H1
      by_cases c30 : a0_0 = a1_0
      ·rw [if_pos c30] at H
       have c30b0 : (a0_0 == a1_0) = true := beq_iff_eq.mpr c30
       have c30b1 : (a0_0 != a1_0) = false := bne_eq_false_iff_eq.mpr c30
       clear c30
       by_cases c31 : a0_5 ≥ a1_5
       ·rw [if_pos c31] at H
        have c31b0 : decide (a1_5 ≤ a0_5) = true := decide_eq_true c31
        clear c31
        replace H := Option.bind_eq_some_iff.mp H
        obtain ⟨t411, A320, H⟩ := H
        replace H : (some t411) = some r := H
        have A32 := Gv.a0 A320
        clear A320
        obtain rfl := Option.some.inj H
        have hnb33 := NB406_405.out
        have hnc33 := NB405_406.out
        obtain ⟨hcz34_0, hcz34_1, hcz34_2, hcz34_3, hcz34_4, hcz34_5⟩ := Gv.c6 BK406.out
        obtain ⟨hfz34_0, hfz34_1, hfz34_2, hfz34_3, hfz34_4, hfz34_5⟩ := Gv.f6 BK406.out
        go_wp2_with (first | ((with_reducible refine gate_callee (f := 64) rfl ?_); refine goesL_ (some 14) rfl rfl Try.func64 (by kernel_rfl) rfl #[.agg #[.int .i64 a1_0, .int .i64 a1_1, .int .i64 a1_2, .int .i64 a1_3, .int .i64 a1_4, .int .i64 a1_5]] rfl Gv.lm ?_; (with_reducible refine (impl_isAny.calls a1_0 a1_1 a1_2 a1_3 a1_4 a1_5 false _ A18.out).mono ?_); rintro e w35 ⟨rfl, hb⟩; refine ⟨_, rfl, ?_⟩; have n0_ := Gv.a0 (Gv.bb BK405.out hb); have n1_ := Gv.a0 (Gv.bb BK406.out hb); have n2_ := Gv.a0 (below_step Gv.bw hb); clear BK405; clear BK406; clear HB; have BK405 := n0_; have BK406 := n1_; have HB := n2_; clear n0_ n1_ n2_; (try clear hb); (try clear hb2); (try clear hk); (try clear hi); obtain ⟨hcz36_0, hcz36_1, hcz36_2, hcz36_3, hcz36_4, hcz36_5⟩ := Gv.c6 BK405.out; obtain ⟨hfz36_0, hfz36_1, hfz36_2, hfz36_3, hfz36_4, hfz36_5⟩ := Gv.f6 BK405.out) | (go_at_call 64; (with_reducible refine (impl_isAny.calls a0_0 a0_1 a0_2 a0_3 a0_4 a0_5 false _ A23.out).mono ?_); rintro e w37 ⟨rfl, hb⟩; have n0_ := Gv.a0 (Gv.bb BK405.out hb); have n1_ := Gv.a0 (Gv.bb BK406.out hb); have n2_ := Gv.a0 (below_step Gv.bw hb); clear BK405; clear BK406; clear HB; have BK405 := n0_; have BK406 := n1_; have HB := n2_; clear n0_ n1_ n2_; (try clear hb); (try clear hb2); (try clear hk); (try clear hi); obtain ⟨hcz38_0, hcz38_1, hcz38_2, hcz38_3, hcz38_4, hcz38_5⟩ := Gv.c6 BK405.out; obtain ⟨hfz38_0, hfz38_1, hfz38_2, hfz38_3, hfz38_4, hfz38_5⟩ := Gv.f6 BK405.out; obtain ⟨hcz39_0, hcz39_1, hcz39_2, hcz39_3, hcz39_4, hcz39_5⟩ := Gv.c6 BK406.out; obtain ⟨hfz39_0, hfz39_1, hfz39_2, hfz39_3, hfz39_4, hfz39_5⟩ := Gv.f6 BK406.out) | (go_at_call 55; (with_reducible refine (impl_Prefix_has.calls kj2 a1_0 a1_1 a1_2 a1_3 a1_4 a1_5 a0_0 a0_1 a0_2 a0_3 a0_4 t411 _ A32.out).mono ?_); rintro e w40 ⟨rfl, hb⟩; have n0_ := Gv.a0 (Gv.bb BK405.out hb); have n1_ := Gv.a0 (Gv.bb BK406.out hb); have n2_ := Gv.a0 (below_step Gv.bw hb); clear BK405; clear BK406; clear HB; have BK405 := n0_; have BK406 := n1_; have HB := n2_; clear n0_ n1_ n2_; (try clear hb); (try clear hb2); (try clear hk); (try clear hi)))
        go_ret
        exact ⟨Gv.rt, Gv.bw⟩
       ·rw [if_neg c31] at H
        have c31b0 : decide (a1_5 ≤ a0_5) = false := decide_eq_false c31
        clear c31
        obtain rfl := Option.some.inj H
        have hnb41 := NB406_405.out
        have hnc41 := NB405_406.out
        obtain ⟨hcz42_0, hcz42_1, hcz42_2, hcz42_3, hcz42_4, hcz42_5⟩ := Gv.c6 BK406.out
        obtain ⟨hfz42_0, hfz42_1, hfz42_2, hfz42_3, hfz42_4, hfz42_5⟩ := Gv.f6 BK406.out
        go_wp2_with (first | ((with_reducible refine gate_callee (f := 64) rfl ?_); refine goesL_ (some 14) rfl rfl Try.func64 (by kernel_rfl) rfl #[.agg #[.int .i64 a1_0, .int .i64 a1_1, .int .i64 a1_2, .int .i64 a1_3, .int .i64 a1_4, .int .i64 a1_5]] rfl Gv.lm ?_; (with_reducible refine (impl_isAny.calls a1_0 a1_1 a1_2 a1_3 a1_4 a1_5 false _ A18.out).mono ?_); rintro e w43 ⟨rfl, hb⟩; refine ⟨_, rfl, ?_⟩; have n0_ := Gv.a0 (Gv.bb BK405.out hb); have n1_ := Gv.a0 (Gv.bb BK406.out hb); have n2_ := Gv.a0 (below_step Gv.bw hb); clear BK405; clear BK406; clear HB; have BK405 := n0_; have BK406 := n1_; have HB := n2_; clear n0_ n1_ n2_; (try clear hb); (try clear hb2); (try clear hk); (try clear hi); obtain ⟨hcz44_0, hcz44_1, hcz44_2, hcz44_3, hcz44_4, hcz44_5⟩ := Gv.c6 BK405.out; obtain ⟨hfz44_0, hfz44_1, hfz44_2, hfz44_3, hfz44_4, hfz44_5⟩ := Gv.f6 BK405.out) | (go_at_call 64; (with_reducible refine (impl_isAny.calls a0_0 a0_1 a0_2 a0_3 a0_4 a0_5 false _ A23.out).mono ?_); rintro e w45 ⟨rfl, hb⟩; have n0_ := Gv.a0 (Gv.bb BK405.out hb); have n1_ := Gv.a0 (Gv.bb BK406.out hb); have n2_ := Gv.a0 (below_step Gv.bw hb); clear BK405; clear BK406; clear HB; have BK405 := n0_; have BK406 := n1_; have HB := n2_; clear n0_ n1_ n2_; (try clear hb); (try clear hb2); (try clear hk); (try clear hi); obtain ⟨hcz46_0, hcz46_1, hcz46_2, hcz46_3, hcz46_4, hcz46_5⟩ := Gv.c6 BK405.out; obtain ⟨hfz46_0, hfz46_1, hfz46_2, hfz46_3, hfz46_4, hfz46_5⟩ := Gv.f6 BK405.out; obtain ⟨hcz47_0, hcz47_1, hcz47_2, hcz47_3, hcz47_4, hcz47_5⟩ := Gv.c6 BK406.out; obtain ⟨hfz47_0, hfz47_1, hfz47_2, hfz47_3, hfz47_4, hfz47_5⟩ := Gv.f6 BK406.out))
        go_ret
        exact ⟨Gv.rt, Gv.bw⟩
      ·rw [if_neg c30] at H
       have c30b0 : (a0_0 == a1_0) = false := beq_eq_false_iff_ne.mpr c30
       have c30b1 : (a0_0 != a1_0) = true := bne_iff_ne.mpr c30
       obtain rfl := Option.some.inj H
       have hnb48 := NB406_405.out
       have hnc48 := NB405_406.out
       obtain ⟨hcz49_0, hcz49_1, hcz49_2, hcz49_3, hcz49_4, hcz49_5⟩ := Gv.c6 BK406.out
       obtain ⟨hfz49_0, hfz49_1, hfz49_2, hfz49_3, hfz49_4, hfz49_5⟩ := Gv.f6 BK406.out
       go_wp2_with (first | ((with_reducible refine gate_callee (f := 64) rfl ?_); refine goesL_ (some 14) rfl rfl Try.func64 (by kernel_rfl) rfl #[.agg #[.int .i64 a1_0, .int .i64 a1_1, .int .i64 a1_2, .int .i64 a1_3, .int .i64 a1_4, .int .i64 a1_5]] rfl Gv.lm ?_; (with_reducible refine (impl_isAny.calls a1_0 a1_1 a1_2 a1_3 a1_4 a1_5 false _ A18.out).mono ?_); rintro e w50 ⟨rfl, hb⟩; refine ⟨_, rfl, ?_⟩; have n0_ := Gv.a0 (Gv.bb BK405.out hb); have n1_ := Gv.a0 (Gv.bb BK406.out hb); have n2_ := Gv.a0 (below_step Gv.bw hb); clear BK405; clear BK406; clear HB; have BK405 := n0_; have BK406 := n1_; have HB := n2_; clear n0_ n1_ n2_; (try clear hb); (try clear hb2); (try clear hk); (try clear hi); obtain ⟨hcz51_0, hcz51_1, hcz51_2, hcz51_3, hcz51_4, hcz51_5⟩ := Gv.c6 BK405.out; obtain ⟨hfz51_0, hfz51_1, hfz51_2, hfz51_3, hfz51_4, hfz51_5⟩ := Gv.f6 BK405.out) | (go_at_call 64; (with_reducible refine (impl_isAny.calls a0_0 a0_1 a0_2 a0_3 a0_4 a0_5 false _ A23.out).mono ?_); rintro e w52 ⟨rfl, hb⟩; have n0_ := Gv.a0 (Gv.bb BK405.out hb); have n1_ := Gv.a0 (Gv.bb BK406.out hb); have n2_ := Gv.a0 (below_step Gv.bw hb); clear BK405; clear BK406; clear HB; have BK405 := n0_; have BK406 := n1_; have HB := n2_; clear n0_ n1_ n2_; (try clear hb); (try clear hb2); (try clear hk); (try clear hi); obtain ⟨hcz53_0, hcz53_1, hcz53_2, hcz53_3, hcz53_4, hcz53_5⟩ := Gv.c6 BK405.out; obtain ⟨hfz53_0, hfz53_1, hfz53_2, hfz53_3, hfz53_4, hfz53_5⟩ := Gv.f6 BK405.out; obtain ⟨hcz54_0, hcz54_1, hcz54_2, hcz54_3, hcz54_4, hcz54_5⟩ := Gv.c6 BK406.out; obtain ⟨hfz54_0, hfz54_1, hfz54_2, hfz54_3, hfz54_4, hfz54_5⟩ := Gv.f6 BK406.out))
       go_ret
       exact ⟨Gv.rt, Gv.bw⟩

/-! ### impl_RuleCovers: function 40 -/
def impl_RuleCovers.f (k : Nat) (a0_0 : Int) (a0_1 : Int) (a0_2 : Int) (a0_3 : Int) (a0_4 : Int) (a0_5 : Int) (a0_6 : Int) (a0_7 : Int) (a0_8 : Int) (a0_9 : Int) (a0_10 : Int) (a0_11 : Int) (a0_12 : Int) (a0_13 : Int) (a0_14 : Int) (a0_15 : Int) (a0_16 : Int) (a0_17 : Int) (a0_18 : Int) (a0_19 : Int) (a0_20 : Int) (a1_0 : Int) (a1_1 : Int) (a1_2 : Int) (a1_3 : Int) (a1_4 : Int) (a1_5 : Int) (a1_6 : Int) (a1_7 : Int) (a1_8 : Int) (a1_9 : Int) (a1_10 : Int) (a1_11 : Int) (a1_12 : Int) (a1_13 : Int) (a1_14 : Int) (a1_15 : Int) (a1_16 : Int) (a1_17 : Int) (a1_18 : Int) (a1_19 : Int) (a1_20 : Int) : Option (Bool) := (impl_RuleOk.f k a0_0 a0_1 a0_2 a0_3 a0_4 a0_5 a0_6 a0_7 a0_8 a0_9 a0_10 a0_11 a0_12 a0_13 a0_14 a0_15 a0_16 a0_17 a0_18 a0_19 a0_20).bind fun t414 => (if t414 = true then ((impl_RuleOk.f k a1_0 a1_1 a1_2 a1_3 a1_4 a1_5 a1_6 a1_7 a1_8 a1_9 a1_10 a1_11 a1_12 a1_13 a1_14 a1_15 a1_16 a1_17 a1_18 a1_19 a1_20).bind fun t415 => (if t415 = true then ((impl_PrefixIn.f k a1_1 a1_2 a1_3 a1_4 a1_5 a1_6 a0_1 a0_2 a0_3 a0_4 a0_5 a0_6).bind fun t416 => (if t416 = true then ((impl_PrefixIn.f k a1_7 a1_8 a1_9 a1_10 a1_11 a1_12 a0_7 a0_8 a0_9 a0_10 a0_11 a0_12).bind fun t417 => (if t417 = true then (if a0_13 = (-1) then (if a0_14 ≤ a1_14 then (if a0_15 ≥ a1_15 then (if a0_16 ≤ a1_16 then (some (decide (a0_17 ≥ a1_17))) else (some false)) else (some false)) else (some false)) else (if a0_13 = a1_13 then (if a0_14 ≤ a1_14 then (if a0_15 ≥ a1_15 then (if a0_16 ≤ a1_16 then (some (decide (a0_17 ≥ a1_17))) else (some false)) else (some false)) else (some false)) else (some false))) else (some false))) else (some false))) else (some false))) else (some false))
theorem impl_RuleCovers.mono : ∀ a0 a1 a2 a3 a4 a5 a6 a7 a8 a9 a10 a11 a12 a13 a14 a15 a16 a17 a18 a19 a20 a21 a22 a23 a24 a25 a26 a27 a28 a29 a30 a31 a32 a33 a34 a35 a36 a37 a38 a39 a40 a41 k, LeO (impl_RuleCovers.f k a0 a1 a2 a3 a4 a5 a6 a7 a8 a9 a10 a11 a12 a13 a14 a15 a16 a17 a18 a19 a20 a21 a22 a23 a24 a25 a26 a27 a28 a29 a30 a31 a32 a33 a34 a35 a36 a37 a38 a39 a40 a41) (impl_RuleCovers.f (k + 1) a0 a1 a2 a3 a4 a5 a6 a7 a8 a9 a10 a11 a12 a13 a14 a15 a16 a17 a18 a19 a20 a21 a22 a23 a24 a25 a26 a27 a28 a29 a30 a31 a32 a33 a34 a35 a36 a37 a38 a39 a40 a41) := by
 intro a0 a1 a2 a3 a4 a5 a6 a7 a8 a9 a10 a11 a12 a13 a14 a15 a16 a17 a18 a19 a20 a21 a22 a23 a24 a25 a26 a27 a28 a29 a30 a31 a32 a33 a34 a35 a36 a37 a38 a39 a40 a41 k
 unfold impl_RuleCovers.f
 repeat' first
   | (with_reducible exact impl_PrefixIn.mono _ _ _ _ _ _ _ _ _ _ _ _ _)
   | (with_reducible exact impl_RuleOk.mono _ _ _ _ _ _ _ _ _ _ _ _ _ _ _ _ _ _ _ _ _ _)
   | (with_reducible exact LeO.refl _)
   | (with_reducible exact LeO.none _)
   | (with_reducible refine LeO.ite ?_ ?_)
   | (with_reducible refine LeO.bind ?_ (fun _ => ?_))
   | exact impl_PrefixIn.mono _ _ _ _ _ _ _ _ _ _ _ _ _
   | exact impl_RuleOk.mono _ _ _ _ _ _ _ _ _ _ _ _ _ _ _ _ _ _ _ _ _ _
   | exact LeO.none _
   | refine LeO.ite ?_ ?_
   | refine LeO.bind ?_ (fun _ => ?_)
set_option maxHeartbeats 8000000 in
set_option maxRecDepth 100000 in
theorem impl_RuleCovers.calls (k : Nat) (a0_0 : Int) (a0_1 : Int) (a0_2 : Int) (a0_3 : Int) (a0_4 : Int) (a0_5 : Int) (a0_6 : Int) (a0_7 : Int) (a0_8 : Int) (a0_9 : Int) (a0_10 : Int) (a0_11 : Int) (a0_12 : Int) (a0_13 : Int) (a0_14 : Int) (a0_15 : Int) (a0_16 : Int) (a0_17 : Int) (a0_18 : Int) (a0_19 : Int) (a0_20 : Int) (a1_0 : Int) (a1_1 : Int) (a1_2 : Int) (a1_3 : Int) (a1_4 : Int) (a1_5 : Int) (a1_6 : Int) (a1_7 : Int) (a1_8 : Int) (a1_9 : Int) (a1_10 : Int) (a1_11 : Int) (a1_12 : Int) (a1_13 : Int) (a1_14 : Int) (a1_15 : Int) (a1_16 : Int) (a1_17 : Int) (a1_18 : Int) (a1_19 : Int) (a1_20 : Int) (r : Bool) (w : World) (h : impl_RuleCovers.f k a0_0 a0_1 a0_2 a0_3 a0_4 a0_5 a0_6 a0_7 a0_8 a0_9 a0_10 a0_11 a0_12 a0_13 a0_14 a0_15 a0_16 a0_17 a0_18 a0_19 a0_20 a1_0 a1_1 a1_2 a1_3 a1_4 a1_5 a1_6 a1_7 a1_8 a1_9 a1_10 a1_11 a1_12 a1_13 a1_14 a1_15 a1_16 a1_17 a1_18 a1_19 a1_20 = some r) :
  Calls Try.prog 40 #[.agg #[.int .i64 a0_0, .int .i64 a0_1, .int .i64 a0_2, .int .i64 a0_3, .int .i64 a0_4, .int .i64 a0_5, .int .i64 a0_6, .int .i64 a0_7, .int .i64 a0_8, .int .i64 a0_9, .int .i64 a0_10, .int .i64 a0_11, .int .i64 a0_12, .int .i64 a0_13, .int .i64 a0_14, .int .i64 a0_15, .int .i64 a0_16, .int .i64 a0_17, .int .i64 a0_18, .int .i64 a0_19, .int .i64 a0_20], .agg #[.int .i64 a1_0, .int .i64 a1_1, .int .i64 a1_2, .int .i64 a1_3, .int .i64 a1_4, .int .i64 a1_5, .int .i64 a1_6, .int .i64 a1_7, .int .i64 a1_8, .int .i64 a1_9, .int .i64 a1_10, .int .i64 a1_11, .int .i64 a1_12, .int .i64 a1_13, .int .i64 a1_14, .int .i64 a1_15, .int .i64 a1_16, .int .i64 a1_17, .int .i64 a1_18, .int .i64 a1_19, .int .i64 a1_20]] w fun e w' => e = .returned (.bool r) ∧ Below w.heap.size w w' := by
 have hu55 := Try.underlying55
 have hu53 := Try.underlying53
 have HB := Gv.a0 (Below.refl w.heap.size w)
 have H : ((impl_RuleOk.f k a0_0 a0_1 a0_2 a0_3 a0_4 a0_5 a0_6 a0_7 a0_8 a0_9 a0_10 a0_11 a0_12 a0_13 a0_14 a0_15 a0_16 a0_17 a0_18 a0_19 a0_20).bind fun t414 => (if t414 = true then ((impl_RuleOk.f k a1_0 a1_1 a1_2 a1_3 a1_4 a1_5 a1_6 a1_7 a1_8 a1_9 a1_10 a1_11 a1_12 a1_13 a1_14 a1_15 a1_16 a1_17 a1_18 a1_19 a1_20).bind fun t415 => (if t415 = true then ((impl_PrefixIn.f k a1_1 a1_2 a1_3 a1_4 a1_5 a1_6 a0_1 a0_2 a0_3 a0_4 a0_5 a0_6).bind fun t416 => (if t416 = true then ((impl_PrefixIn.f k a1_7 a1_8 a1_9 a1_10 a1_11 a1_12 a0_7 a0_8 a0_9 a0_10 a0_11 a0_12).bind fun t417 => (if t417 = true then (if a0_13 = (-1) then (if a0_14 ≤ a1_14 then (if a0_15 ≥ a1_15 then (if a0_16 ≤ a1_16 then (some (decide (a0_17 ≥ a1_17))) else (some false)) else (some false)) else (some false)) else (if a0_13 = a1_13 then (if a0_14 ≤ a1_14 then (if a0_15 ≥ a1_15 then (if a0_16 ≤ a1_16 then (some (decide (a0_17 ≥ a1_17))) else (some false)) else (some false)) else (some false)) else (some false))) else (some false))) else (some false))) else (some false))) else (some false))) = some r := h
 clear h
 replace H := Option.bind_eq_some_iff.mp H
 obtain ⟨t414, A30, H⟩ := H
 replace H : (if t414 = true then ((impl_RuleOk.f k a1_0 a1_1 a1_2 a1_3 a1_4 a1_5 a1_6 a1_7 a1_8 a1_9 a1_10 a1_11 a1_12 a1_13 a1_14 a1_15 a1_16 a1_17 a1_18 a1_19 a1_20).bind fun t415 => (if t415 = true then ((impl_PrefixIn.f k a1_1 a1_2 a1_3 a1_4 a1_5 a1_6 a0_1 a0_2 a0_3 a0_4 a0_5 a0_6).bind fun t416 => (if t416 = true then ((impl_PrefixIn.f k a1_7 a1_8 a1_9 a1_10 a1_11 a1_12 a0_7 a0_8 a0_9 a0_10 a0_11 a0_12).bind fun t417 => (if t417 = true then (if a0_13 = (-1) then (if a0_14 ≤ a1_14 then (if a0_15 ≥ a1_15 then (if a0_16 ≤ a1_16 then (some (decide (a0_17 ≥ a1_17))) else (some false)) else (some false)) else (some false)) else (if a0_13 = a1_13 then (if a0_14 ≤ a1_14 then (if a0_15 ≥ a1_15 then (if a0_16 ≤ a1_16 then (some (decide (a0_17 ≥ a1_17))) else (some false)) else (some false)) else (some false)) else (some false))) else (some false))) else (some false))) else (some false))) else (some false)) = some r := H
 have A3 := Gv.a0 A30
 clear A30
 by_cases c4 : t414 = true
 ·subst c4
  have H1 : ((impl_RuleOk.f k a1_0 a1_1 a1_2 a1_3 a1_4 a1_5 a1_6 a1_7 a1_8 a1_9 a1_10 a1_11 a1_12 a1_13 a1_14 a1_15 a1_16 a1_17 a1_18 a1_19 a1_20).bind fun t415 => (if t415 = true then ((impl_PrefixIn.f k a1_1 a1_2 a1_3 a1_4 a1_5 a1_6 a0_1 a0_2 a0_3 a0_4 a0_5 a0_6).bind fun t416 => (if t416 = true then ((impl_PrefixIn.f k a1_7 a1_8 a1_9 a1_10 a1_11 a1_12 a0_7 a0_8 a0_9 a0_10 a0_11 a0_12).bind fun t417 => (if t417 = true then (if a0_13 = (-1) then (if a0_14 ≤ a1_14 then (if a0_15 ≥ a1_15 then (if a0_16 ≤ a1_16 then (some (decide (a0_17 ≥ a1_17))) else (some false)) else (some false)) else (some false)) else (if a0_13 = a1_13 then (if a0_14 ≤ a1_14 then (if a0_15 ≥ a1_15 then (if a0_16 ≤ a1_16 then (some (decide (a0_17 ≥ a1_17))) else (some false)) else (some false)) else (some false)) else (some false))) else (some false))) else (some false))) else (some false))) = some r := by rw [if_pos rfl] at H; exact H
  clear H
  have H := H1
  clear H1
  replace H := Option.bind_eq_some_iff.mp H
  obtain ⟨t415, A50, H⟩ := H
  replace H : (if t415 = true then ((impl_PrefixIn.f k a1_1 a1_2 a1_3 a1_4 a1_5 a1_6 a0_1 a0_2 a0_3 a0_4 a0_5 a0_6).bind fun t416 => (if t416 = true then ((impl_PrefixIn.f k a1_7 a1_8 a1_9 a1_10 a1_11 a1_12 a0_7 a0_8 a0_9 a0_10 a0_11 a0_12).bind fun t417 => (if t417 = true then (if a0_13 = (-1) then (if a0_14 ≤ a1_14 then (if a0_15 ≥ a1_15 then (if a0_16 ≤ a1_16 then (some (decide (a0_17 ≥ a1_17))) else (some false)) else (some false)) else (some false)) else (if a0_13 = a1_13 then (if a0_14 ≤ a1_14 then (if a0_15 ≥ a1_15 then (if a0_16 ≤ a1_16 then (some (decide (a0_17 ≥ a1_17))) else (some false)) else (some false)) else (some false)) else (some false))) else (some false))) else (some false))) else (some false)) = some r := H
  have A5 := Gv.a0 A50
  clear A50
  by_cases c6 : t415 = true
  ·subst c6
   have H1 : ((impl_PrefixIn.f k a1_1 a1_2 a1_3 a1_4 a1_5 a1_6 a0_1 a0_2 a0_3 a0_4 a0_5 a0_6).bind fun t416 => (if t416 = true then ((impl_PrefixIn.f k a1_7 a1_8 a1_9 a1_10 a1_11 a1_12 a0_7 a0_8 a0_9 a0_10 a0_11 a0_12).bind fun t417 => (if t417 = true then (if a0_13 = (-1) then (if a0_14 ≤ a1_14 then (if a0_15 ≥ a1_15 then (if a0_16 ≤ a1_16 then (some (decide (a0_17 ≥ a1_17))) else (some false)) else (some false)) else (some false)) else (if a0_13 = a1_13 then (if a0_14 ≤ a1_14 then (if a0_15 ≥ a1_15 then (if a0_16 ≤ a1_16 then (some (decide (a0_17 ≥ a1_17))) else (some false)) else (some false)) else (some false)) else (some false))) else (some false))) else (some false))) = some r := by rw [if_pos rfl] at H; exact H
   clear H
   have H := H1
   clear H1
   replace H := Option.bind_eq_some_iff.mp H
   obtain ⟨t416, A70, H⟩ := H
   replace H : (if t416 = true then ((impl_PrefixIn.f k a1_7 a1_8 a1_9 a1_10 a1_11 a1_12 a0_7 a0_8 a0_9 a0_10 a0_11 a0_12).bind fun t417 => (if t417 = true then (if a0_13 = (-1) then (if a0_14 ≤ a1_14 then (if a0_15 ≥ a1_15 then (if a0_16 ≤ a1_16 then (some (decide (a0_17 ≥ a1_17))) else (some false)) else (some false)) else (some false)) else (if a0_13 = a1_13 then (if a0_14 ≤ a1_14 then (if a0_15 ≥ a1_15 then (if a0_16 ≤ a1_16 then (some (decide (a0_17 ≥ a1_17))) else (some false)) else (some false)) else (some false)) else (some false))) else (some false))) else (some false)) = some r := H
   have A7 := Gv.a0 A70
   clear A70
   by_cases c8 : t416 = true
   ·subst c8
    have H1 : ((impl_PrefixIn.f k a1_7 a1_8 a1_9 a1_10 a1_11 a1_12 a0_7 a0_8 a0_9 a0_10 a0_11 a0_12).bind fun t417 => (if t417 = true then (if a0_13 = (-1) then (if a0_14 ≤ a1_14 then (if a0_15 ≥ a1_15 then (if a0_16 ≤ a1_16 then (some (decide (a0_17 ≥ a1_17))) else (some false)) else (some false)) else (some false)) else (if a0_13 = a1_13 then (if a0_14 ≤ a1_14 then (if a0_15 ≥ a1_15 then (if a0_16 ≤ a1_16 then (some (decide (a0_17 ≥ a1_17))) else (some false)) else (some false)) else (some false)) else (some false))) else (some false))) = some r := by rw [if_pos rfl] at H; exact H
    clear H
    have H := H1
    clear H1
    replace H := Option.bind_eq_some_iff.mp H
    obtain ⟨t417, A90, H⟩ := H
    replace H : (if t417 = true then (if a0_13 = (-1) then (if a0_14 ≤ a1_14 then (if a0_15 ≥ a1_15 then (if a0_16 ≤ a1_16 then (some (decide (a0_17 ≥ a1_17))) else (some false)) else (some false)) else (some false)) else (if a0_13 = a1_13 then (if a0_14 ≤ a1_14 then (if a0_15 ≥ a1_15 then (if a0_16 ≤ a1_16 then (some (decide (a0_17 ≥ a1_17))) else (some false)) else (some false)) else (some false)) else (some false))) else (some false)) = some r := H
    have A9 := Gv.a0 A90
    clear A90
    by_cases c10 : t417 = true
    ·subst c10
     have H1 : (if a0_13 = (-1) then (if a0_14 ≤ a1_14 then (if a0_15 ≥ a1_15 then (if a0_16 ≤ a1_16 then (some (decide (a0_17 ≥ a1_17))) else (some false)) else (some false)) else (some false)) else (if a0_13 = a1_13 then (if a0_14 ≤ a1_14 then (if a0_15 ≥ a1_15 then (if a0_16 ≤ a1_16 then (some (decide (a0_17 ≥ a1_17))) else (some false)) else (some false)) else (some false)) else (some false))) = some r := by rw [if_pos rfl] at H; exact H
     clear H
     have H := H1
     clear H1
     by_cases c11 : a0_13 = (-1)
     ·rw [if_pos c11] at H
      have c11b0 : (a0_13 == (-1)) = true := beq_iff_eq.mpr c11
      have c11b1 : (a0_13 != (-1)) = false := bne_eq_false_iff_eq.mpr c11
      clear c11
      by_cases c12 : a0_14 ≤ a1_14
      ·rw [if_pos c12] at H
       have c12b0 : decide (a0_14 ≤ a1_14) = true := decide_eq_true c12
       clear c12
       by_cases c13 : a0_15 ≥ a1_15
       ·rw [if_pos c13] at H
        have c13b0 : decide (a1_15 ≤ a0_15) = true := decide_eq_true c13
        clear c13
        by_cases c14 : a0_16 ≤ a1_16
        ·rw [if_pos c14] at H
         have c14b0 : decide (a0_16 ≤ a1_16) = true := decide_eq_true c14
         clear c14
         obtain rfl := Option.some.inj H
         go_enter Try.func40, Try.ntmps40
         go_wp2_with (first | ((with_reducible refine gate_dst (N := 2) rfl ?_); refine box_event ?hg (N := 2) ?hd (cs := #[.int .i64 a0_0, .int .i64 a0_1, .int .i64 a0_2, .int .i64 a0_3, .int .i64 a0_4, .int .i64 a0_5, .int .i64 a0_6, .int .i64 a0_7, .int .i64 a0_8, .int .i64 a0_9, .int .i64 a0_10, .int .i64 a0_11, .int .i64 a0_12, .int .i64 a0_13, .int .i64 a0_14, .int .i64 a0_15, .int .i64 a0_16, .int .i64 a0_17, .int .i64 a0_18, .int .i64 a0_19, .int .i64 a0_20]) (t := 55) ?hr ?_; (case hd => rfl); (case hg => rfl); (case hr => first | (go_simp; done) | (go_simp; rfl)); intro gb412 hg w15 hbox hb; have n0_ := Gv.a0 (below_step Gv.bw hb); have n1_ := Gv.a0 (hbox); have n2_ := Gv.a0 ((Gv.ble hg Gv.bw : w.heap.size ≤ gb412)); have n3_ := Gv.a0 ((Gv.ble hg Gv.bw : w.heap.size ≤ gb412)); clear HB; have HB := n0_; have BK412 := n1_; have GW412 := n2_; have GE412 := n3_; clear n0_ n1_ n2_ n3_; clear hb hbox hg) | ((with_reducible refine gate_store (t := 55) (p := 2) rfl ?_); refine Gv.store_event rfl rfl rfl rfl rfl (Gv.kb BK412.out) (by kernel_rfl) rfl (by simp; and_intros <;> rfl) ?_; intro w15s hbox hoth hbel; have n0_ := Gv.a0 (hbox); have n1_ := Gv.a0 (hbel w Gv.bw GE412.out); clear BK412 HB; have BK412 := n0_; have HB := n1_; clear n0_ n1_ hbox hoth hbel) | ((with_reducible refine gate_dst (N := 3) rfl ?_); refine box_event ?hg (N := 3) ?hd (cs := #[.int .i64 a1_0, .int .i64 a1_1, .int .i64 a1_2, .int .i64 a1_3, .int .i64 a1_4, .int .i64 a1_5, .int .i64 a1_6, .int .i64 a1_7, .int .i64 a1_8, .int .i64 a1_9, .int .i64 a1_10, .int .i64 a1_11, .int .i64 a1_12, .int .i64 a1_13, .int .i64 a1_14, .int .i64 a1_15, .int .i64 a1_16, .int .i64 a1_17, .int .i64 a1_18, .int .i64 a1_19, .int .i64 a1_20]) (t := 55) ?hr ?_; (case hd => rfl); (case hg => rfl); (case hr => first | (go_simp; done) | (go_simp; rfl)); intro gb413 hg w16 hbox hb; have n0_ := Gv.a0 (Gv.bb BK412.out hb); have n1_ := Gv.a0 (below_step Gv.bw hb); have n2_ := Gv.a0 (hbox); have n3_ := Gv.a0 ((Gv.ble hg Gv.bw : w.heap.size ≤ gb413)); have n4_ := Gv.a0 ((Gv.ble hg Gv.bw : w.heap.size ≤ gb413)); have n5_ := Gv.a0 ((Gv.nlt hg (Gv.kb BK412.out) : gb412 ≠ gb413)); have n6_ := Gv.a0 ((Gv.ngt hg (Gv.kb BK412.out) : gb413 ≠ gb412)); clear BK412; clear HB; have BK412 := n0_; have HB := n1_; have BK413 := n2_; have GW413 := n3_; have GE413 := n4_; have NB412_413 := n5_; have NB413_412 := n6_; clear n0_ n1_ n2_ n3_ n4_ n5_ n6_; clear hb hbox hg; have hnb17 := NB412_413.out; have hnc17 := NB413_412.out; obtain ⟨hcz18_0, hcz18_1, hcz18_2, hcz18_3, hcz18_4, hcz18_5, hcz18_6, hcz18_7, hcz18_8, hcz18_9, hcz18_10, hcz18_11, hcz18_12, hcz18_13, hcz18_14, hcz18_15, hcz18_16, hcz18_17, hcz18_18, hcz18_19, hcz18_20⟩ := Gv.c21 BK412.out) | ((with_reducible refine gate_store (t := 55) (p := 3) rfl ?_); refine Gv.store_event rfl rfl rfl rfl rfl (Gv.kb BK413.out) (by kernel_rfl) rfl (by simp; and_intros <;> rfl) ?_; intro w16s hbox hoth hbel; have n0_ := Gv.a0 (hbox); have n1_ := Gv.a0 (hbel w Gv.bw GE413.out); have n2_ := Gv.a0 ((hoth gb412 NB412_413.out).trans (Gv.kb BK412.out)); clear BK413 HB BK412; have BK413 := n0_; have HB := n1_; have BK412 := n2_; clear n0_ n1_ n2_ hbox hoth hbel; (try clear hcz18_0 hcz18_1 hcz18_2 hcz18_3 hcz18_4 hcz18_5 hcz18_6 hcz18_7 hcz18_8 hcz18_9 hcz18_10 hcz18_11 hcz18_12 hcz18_13 hcz18_14 hcz18_15 hcz18_16 hcz18_17 hcz18_18 hcz18_19 hcz18_20); obtain ⟨hcz18_0, hcz18_1, hcz18_2, hcz18_3, hcz18_4, hcz18_5, hcz18_6, hcz18_7, hcz18_8, hcz18_9, hcz18_10, hcz18_11, hcz18_12, hcz18_13, hcz18_14, hcz18_15, hcz18_16, hcz18_17, hcz18_18, hcz18_19, hcz18_20⟩ := Gv.c21 BK412.out) | ((with_reducible refine gate_callee (f := 29) rfl ?_); refine goesL_ (some 6) rfl rfl Try.func29 (by kernel_rfl) rfl #[.agg #[.int .i64 a0_0, .int .i64 a0_1, .int .i64 a0_2, .int .i64 a0_3, .int .i64 a0_4, .int .i64 a0_5, .int .i64 a0_6, .int .i64 a0_7, .int .i64 a0_8, .int .i64 a0_9, .int .i64 a0_10, .int .i64 a0_11, .int .i64 a0_12, .int .i64 a0_13, .int .i64 a0_14, .int .i64 a0_15, .int .i64 a0_16, .int .i64 a0_17, .int .i64 a0_18, .int .i64 a0_19, .int .i64 a0_20]] rfl Gv.lm ?_; (with_reducible refine (impl_RuleOk.calls k a0_0 a0_1 a0_2 a0_3 a0_4 a0_5 a0_6 a0_7 a0_8 a0_9 a0_10 a0_11 a0_12 a0_13 a0_14 a0_15 a0_16 a0_17 a0_18 a0_19 a0_20 true _ A3.out).mono ?_); rintro e w19 ⟨rfl, hb⟩; refine ⟨_, rfl, ?_⟩; have n0_ := Gv.a0 (Gv.bb BK412.out hb); have n1_ := Gv.a0 (Gv.bb BK413.out hb); have n2_ := Gv.a0 (below_step Gv.bw hb); clear BK412; clear BK413; clear HB; have BK412 := n0_; have BK413 := n1_; have HB := n2_; clear n0_ n1_ n2_; (try clear hb); (try clear hb2); (try clear hk); (try clear hi); obtain ⟨hcz20_0, hcz20_1, hcz20_2, hcz20_3, hcz20_4, hcz20_5, hcz20_6, hcz20_7, hcz20_8, hcz20_9, hcz20_10, hcz20_11, hcz20_12, hcz20_13, hcz20_14, hcz20_15, hcz20_16, hcz20_17, hcz20_18, hcz20_19, hcz20_20⟩ := Gv.c21 BK413.out) | (go_at_call 29; (with_reducible refine (impl_RuleOk.calls k a1_0 a1_1 a1_2 a1_3 a1_4 a1_5 a1_6 a1_7 a1_8 a1_9 a1_10 a1_11 a1_12 a1_13 a1_14 a1_15 a1_16 a1_17 a1_18 a1_19 a1_20 true _ A5.out).mono ?_); rintro e w21 ⟨rfl, hb⟩; have n0_ := Gv.a0 (Gv.bb BK412.out hb); have n1_ := Gv.a0 (Gv.bb BK413.out hb); have n2_ := Gv.a0 (below_step Gv.bw hb); clear BK412; clear BK413; clear HB; have BK412 := n0_; have BK413 := n1_; have HB := n2_; clear n0_ n1_ n2_; (try clear hb); (try clear hb2); (try clear hk); (try clear hi); obtain ⟨hcz22_0, hcz22_1, hcz22_2, hcz22_3, hcz22_4, hcz22_5, hcz22_6, hcz22_7, hcz22_8, hcz22_9, hcz22_10, hcz22_11, hcz22_12, hcz22_13, hcz22_14, hcz22_15, hcz22_16, hcz22_17, hcz22_18, hcz22_19, hcz22_20⟩ := Gv.c21 BK413.out; obtain ⟨hcz23_0, hcz23_1, hcz23_2, hcz23_3, hcz23_4, hcz23_5, hcz23_6, hcz23_7, hcz23_8, hcz23_9, hcz23_10, hcz23_11, hcz23_12, hcz23_13, hcz23_14, hcz23_15, hcz23_16, hcz23_17, hcz23_18, hcz23_19, hcz23_20⟩ := Gv.c21 BK412.out) | (go_at_call 57; (with_reducible refine (impl_PrefixIn.calls k a1_1 a1_2 a1_3 a1_4 a1_5 a1_6 a0_1 a0_2 a0_3 a0_4 a0_5 a0_6 true _ A7.out).mono ?_); rintro e w24 ⟨rfl, hb⟩; have n0_ := Gv.a0 (Gv.bb BK412.out hb); have n1_ := Gv.a0 (Gv.bb BK413.out hb); have n2_ := Gv.a0 (below_step Gv.bw hb); clear BK412; clear BK413; clear HB; have BK412 := n0_; have BK413 := n1_; have HB := n2_; clear n0_ n1_ n2_; (try clear hb); (try clear hb2); (try clear hk); (try clear hi); obtain ⟨hcz25_0, hcz25_1, hcz25_2, hcz25_3, hcz25_4, hcz25_5, hcz25_6, hcz25_7, hcz25_8, hcz25_9, hcz25_10, hcz25_11, hcz25_12, hcz25_13, hcz25_14, hcz25_15, hcz25_16, hcz25_17, hcz25_18, hcz25_19, hcz25_20⟩ := Gv.c21 BK413.out; obtain ⟨hcz26_0, hcz26_1, hcz26_2, hcz26_3, hcz26_4, hcz26_5, hcz26_6, hcz26_7, hcz26_8, hcz26_9, hcz26_10, hcz26_11, hcz26_12, hcz26_13, hcz26_14, hcz26_15, hcz26_16, hcz26_17, hcz26_18, hcz26_19, hcz26_20⟩ := Gv.c21 BK412.out) | (go_at_call 57; (with_reducible refine (impl_PrefixIn.calls k a1_7 a1_8 a1_9 a1_10 a1_11 a1_12 a0_7 a0_8 a0_9 a0_10 a0_11 a0_12 true _ A9.out).mono ?_); rintro e w27 ⟨rfl, hb⟩; have n0_ := Gv.a0 (Gv.bb BK412.out hb); have n1_ := Gv.a0 (Gv.bb BK413.out hb); have n2_ := Gv.a0 (below_step Gv.bw hb); clear BK412; clear BK413; clear HB; have BK412 := n0_; have BK413 := n1_; have HB := n2_; clear n0_ n1_ n2_; (try clear hb); (try clear hb2); (try clear hk); (try clear hi); obtain ⟨hcz28_0, hcz28_1, hcz28_2, hcz28_3, hcz28_4, hcz28_5, hcz28_6, hcz28_7, hcz28_8, hcz28_9, hcz28_10, hcz28_11, hcz28_12, hcz28_13, hcz28_14, hcz28_15, hcz28_16, hcz28_17, hcz28_18, hcz28_19, hcz28_20⟩ := Gv.c21 BK412.out; obtain ⟨hcz29_0, hcz29_1, hcz29_2, hcz29_3, hcz29_4, hcz29_5, hcz29_6, hcz29_7, hcz29_8, hcz29_9, hcz29_10, hcz29_11, hcz29_12, hcz29_13, hcz29_14, hcz29_15, hcz29_16, hcz29_17, hcz29_18, hcz29_19, hcz29_20⟩ := Gv.c21 BK413.out) | ((with_reducible refine Gv.gate_load (t := 55) rfl ?_); (try (refine gate_guard (by rfl) ?_; dsimp only)); refine wpList_load_row rfl 55 _ rfl gb412 rfl 55 _ _ _ (by first | exact Gv.kb0 BK412.out | exact Gv.kb1 (Gv.kb0 BK412.out)) Try.underlying55 rfl (by kernel_rfl) ?_) | ((with_reducible refine Gv.gate_load (t := 55) rfl ?_); (try (refine gate_guard (by rfl) ?_; dsimp only)); refine wpList_load_row rfl 55 _ rfl gb413 rfl 55 _ _ _ (by first | exact Gv.kb0 BK413.out | exact Gv.kb1 (Gv.kb0 BK413.out)) Try.underlying55 rfl (by kernel_rfl) ?_))
         go_ret
         exact ⟨Gv.rt, Gv.bw⟩
        ·rw [if_neg c14] at H
         have c14b0 : decide (a0_16 ≤ a1_16) = false := decide_eq_false c14
         clear c14
         obtain rfl := Option.some.inj H
         go_enter Try.func40, Try.ntmps40
         go_wp2_with (first | ((with_reducible refine gate_dst (N := 2) rfl ?_); refine box_event ?hg (N := 2) ?hd (cs := #[.int .i64 a0_0, .int .i64 a0_1, .int .i64 a0_2, .int .i64 a0_3, .int .i64 a0_4, .int .i64 a0_5, .int .i64 a0_6, .int .i64 a0_7, .int .i64 a0_8, .int .i64 a0_9, .int .i64 a0_10, .int .i64 a0_11, .int .i64 a0_12, .int .i64 a0_13, .int .i64 a0_14, .int .i64 a0_15, .int .i64 a0_16, .int .i64 a0_17, .int .i64 a0_18, .int .i64 a0_19, .int .i64 a0_20]) (t := 55) ?hr ?_; (case hd => rfl); (case hg => rfl); (case hr => first | (go_simp; done) | (go_simp; rfl)); intro gb412 hg w30 hbox hb; have n0_ := Gv.a0 (below_step Gv.bw hb); have n1_ := Gv.a0 (hbox); have n2_ := Gv.a0 ((Gv.ble hg Gv.bw : w.heap.size ≤ gb412)); have n3_ := Gv.a0 ((Gv.ble hg Gv.bw : w.heap.size ≤ gb412)); clear HB; have HB := n0_; have BK412 := n1_; have GW412 := n2_; have GE412 := n3_; clear n0_ n1_ n2_ n3_; clear hb hbox hg) | ((with_reducible refine gate_store (t := 55) (p := 2) rfl ?_); refine Gv.store_event rfl rfl rfl rfl rfl (Gv.kb BK412.out) (by kernel_rfl) rfl (by simp; and_intros <;> rfl) ?_; intro w30s hbox hoth hbel; have n0_ := Gv.a0 (hbox); have n1_ := Gv.a0 (hbel w Gv.bw GE412.out); clear BK412 HB; have BK412 := n0_; have HB := n1_; clear n0_ n1_ hbox hoth hbel) | ((with_reducible refine gate_dst (N := 3) rfl ?_); refine box_event ?hg (N := 3) ?hd (cs := #[.int .i64 a1_0, .int .i64 a1_1, .int .i64 a1_2, .int .i64 a1_3, .int .i64 a1_4, .int .i64 a1_5, .int .i64 a1_6, .int .i64 a1_7, .int .i64 a1_8, .int .i64 a1_9, .int .i64 a1_10, .int .i64 a1_11, .int .i64 a1_12, .int .i64 a1_13, .int .i64 a1_14, .int .i64 a1_15, .int .i64 a1_16, .int .i64 a1_17, .int .i64 a1_18, .int .i64 a1_19, .int .i64 a1_20]) (t := 55) ?hr ?_; (case hd => rfl); (case hg => rfl); (case hr => first | (go_simp; done) | (go_simp; rfl)); intro gb413 hg w31 hbox hb; have n0_ := Gv.a0 (Gv.bb BK412.out hb); have n1_ := Gv.a0 (below_step Gv.bw hb); have n2_ := Gv.a0 (hbox); have n3_ := Gv.a0 ((Gv.ble hg Gv.bw : w.heap.size ≤ gb413)); have n4_ := Gv.a0 ((Gv.ble hg Gv.bw : w.heap.size ≤ gb413)); have n5_ := Gv.a0 ((Gv.nlt hg (Gv.kb BK412.out) : gb412 ≠ gb413)); have n6_ := Gv.a0 ((Gv.ngt hg (Gv.kb BK412.out) : gb413 ≠ gb412)); clear BK412; clear HB; have BK412 := n0_; have HB := n1_; have BK413 := n2_; have GW413 := n3_; have GE413 := n4_; have NB412_413 := n5_; have NB413_412 := n6_; clear n0_ n1_ n2_ n3_ n4_ n5_ n6_; clear hb hbox hg; have hnb32 := NB412_413.out; have hnc32 := NB413_412.out; obtain ⟨hcz33_0, hcz33_1, hcz33_2, hcz33_3, hcz33_4, hcz33_5, hcz33_6, hcz33_7, hcz33_8, hcz33_9, hcz33_10, hcz33_11, hcz33_12, hcz33_13, hcz33_14, hcz33_15, hcz33_16, hcz33_17, hcz33_18, hcz33_19, hcz33_20⟩ := Gv.c21 BK412.out) | ((with_reducible refine gate_store (t := 55) (p := 3) rfl ?_); refine Gv.store_event rfl rfl rfl rfl rfl (Gv.kb BK413.out) (by kernel_rfl) rfl (by simp; and_intros <;> rfl) ?_; intro w31s hbox hoth hbel; have n0_ := Gv.a0 (hbox); have n1_ := Gv.a0 (hbel w Gv.bw GE413.out); have n2_ := Gv.a0 ((hoth gb412 NB412_413.out).trans (Gv.kb BK412.out)); clear BK413 HB BK412; have BK413 := n0_; have HB := n1_; have BK412 := n2_; clear n0_ n1_ n2_ hbox hoth hbel; (try clear hcz33_0 hcz33_1 hcz33_2 hcz33_3 hcz33_4 hcz33_5 hcz33_6 hcz33_7 hcz33_8 hcz33_9 hcz33_10 hcz33_11 hcz33_12 hcz33_13 hcz33_14 hcz33_15 hcz33_16 hcz33_17 hcz33_18 hcz33_19 hcz33_20); obtain ⟨hcz33_0, hcz33_1, hcz33_2, hcz33_3, hcz33_4, hcz33_5, hcz33_6, hcz33_7, hcz33_8, hcz33_9, hcz33_10, hcz33_11, hcz33_12, hcz33_13, hcz33_14, hcz33_15, hcz33_16, hcz33_17, hcz33_18, hcz33_19, hcz33_20⟩ := Gv.c21 BK412.out) | ((with_reducible refine gate_callee (f := 29) rfl ?_); refine goesL_ (some 6) rfl rfl Try.func29 (by kernel_rfl) rfl #[.agg #[.int .i64 a0_0, .int .i64 a0_1, .int .i64 a0_2, .int .i64 a0_3, .int .i64 a0_4, .int .i64 a0_5, .int .i64 a0_6, .int .i64 a0_7, .int .i64 a0_8, .int .i64 a0_9, .int .i64 a0_10, .int .i64 a0_11, .int .i64 a0_12, .int .i64 a0_13, .int .i64 a0_14, .int .i64 a0_15, .int .i64 a0_16, .int .i64 a0_17, .int .i64 a0_18, .int .i64 a0_19, .int .i64 a0_20]] rfl Gv.lm ?_; (with_reducible refine (impl_RuleOk.calls k a0_0 a0_1 a0_2 a0_3 a0_4 a0_5 a0_6 a0_7 a0_8 a0_9 a0_10 a0_11 a0_12 a0_13 a0_14 a0_15 a0_16 a0_17 a0_18 a0_19 a0_20 true _ A3.out).mono ?_); rintro e w34 ⟨rfl, hb⟩; refine ⟨_, rfl, ?_⟩; have n0_ := Gv.a0 (Gv.bb BK412.out hb); have n1_ := Gv.a0 (Gv.bb BK413.out hb); have n2_ := Gv.a0 (below_step Gv.bw hb); clear BK412; clear BK413; clear HB; have BK412 := n0_; have BK413 := n1_; have HB := n2_; clear n0_ n1_ n2_; (try clear hb); (try clear hb2); (try clear hk); (try clear hi); obtain ⟨hcz35_0, hcz35_1, hcz35_2, hcz35_3, hcz35_4, hcz35_5, hcz35_6, hcz35_7, hcz35_8, hcz35_9, hcz35_10, hcz35_11, hcz35_12, hcz35_13, hcz35_14, hcz35_15, hcz35_16, hcz35_17, hcz35_18, hcz35_19, hcz35_20⟩ := Gv.c21 BK413.out) | (go_at_call 29; (with_reducible refine (impl_RuleOk.calls k a1_0 a1_1 a1_2 a1_3 a1_4 a1_5 a1_6 a1_7 a1_8 a1_9 a1_10 a1_11 a1_12 a1_13 a1_14 a1_15 a1_16 a1_17 a1_18 a1_19 a1_20 true _ A5.out).mono ?_); rintro e w36 ⟨rfl, hb⟩; have n0_ := Gv.a0 (Gv.bb BK412.out hb); have n1_ := Gv.a0 (Gv.bb BK413.out hb); have n2_ := Gv.a0 (below_step Gv.bw hb); clear BK412; clear BK413; clear HB; have BK412 := n0_; have BK413 := n1_; have HB := n2_; clear n0_ n1_ n2_; (try clear hb); (try clear hb2); (try clear hk); (try clear hi); obtain ⟨hcz37_0, hcz37_1, hcz37_2, hcz37_3, hcz37_4, hcz37_5, hcz37_6, hcz37_7, hcz37_8, hcz37_9, hcz37_10, hcz37_11, hcz37_12, hcz37_13, hcz37_14, hcz37_15, hcz37_16, hcz37_17, hcz37_18, hcz37_19, hcz37_20⟩ := Gv.c21 BK413.out; obtain ⟨hcz38_0, hcz38_1, hcz38_2, hcz38_3, hcz38_4, hcz38_5, hcz38_6, hcz38_7, hcz38_8, hcz38_9, hcz38_10, hcz38_11, hcz38_12, hcz38_13, hcz38_14, hcz38_15, hcz38_16, hcz38_17, hcz38_18, hcz38_19, hcz38_20⟩ := Gv.c21 BK412.out) | (go_at_call 57; (with_reducible refine (impl_PrefixIn.calls k a1_1 a1_2 a1_3 a1_4 a1_5 a1_6 a0_1 a0_2 a0_3 a0_4 a0_5 a0_6 true _ A7.out).mono ?_); rintro e w39 ⟨rfl, hb⟩; have n0_ := Gv.a0 (Gv.bb BK412.out hb); have n1_ := Gv.a0 (Gv.bb BK413.out hb); have n2_ := Gv.a0 (below_step Gv.bw hb); clear BK412; clear BK413; clear HB; have BK412 := n0_; have BK413 := n1_; have HB := n2_; clear n0_ n1_ n2_; (try clear hb); (try clear hb2); (try clear hk); (try clear hi); obtain ⟨hcz40_0, hcz40_1, hcz40_2, hcz40_3, hcz40_4, hcz40_5, hcz40_6, hcz40_7, hcz40_8, hcz40_9, hcz40_10, hcz40_11, hcz40_12, hcz40_13, hcz40_14, hcz40_15, hcz40_16, hcz40_17, hcz40_18, hcz40_19, hcz40_20⟩ := Gv.c21 BK413.out; obtain ⟨hcz41_0, hcz41_1, hcz41_2, hcz41_3, hcz41_4, hcz41_5, hcz41_6, hcz41_7, hcz41_8, hcz41_9, hcz41_10, hcz41_11, hcz41_12, hcz41_13, hcz41_14, hcz41_15, hcz41_16, hcz41_17, hcz41_18, hcz41_19, hcz41_20⟩ := Gv.c21 BK412.out) | (go_at_call 57; (with_reducible refine (impl_PrefixIn.calls k a1_7 a1_8 a1_9 a1_10 a1_11 a1_12 a0_7 a0_8 a0_9 a0_10 a0_11 a0_12 true _ A9.out).mono ?_); rintro e w42 ⟨rfl, hb⟩; have n0_ := Gv.a0 (Gv.bb BK412.out hb); have n1_ := Gv.a0 (Gv.bb BK413.out hb); have n2_ := Gv.a0 (below_step Gv.bw hb); clear BK412; clear BK413; clear HB; have BK412 := n0_; have BK413 := n1_; have HB := n2_; clear n0_ n1_ n2_; (try clear hb); (try clear hb2); (try clear hk); (try clear hi); obtain ⟨hcz43_0, hcz43_1, hcz43_2, hcz43_3, hcz43_4, hcz43_5, hcz43_6, hcz43_7, hcz43_8, hcz43_9, hcz43_10, hcz43_11, hcz43_12, hcz43_13, hcz43_14, hcz43_15, hcz43_16, hcz43_17, hcz43_18, hcz43_19, hcz43_20⟩ := Gv.c21 BK412.out; obtain ⟨hcz44_0, hcz44_1, hcz44_2, hcz44_3, hcz44_4, hcz44_5, hcz44_6, hcz44_7, hcz44_8, hcz44_9, hcz44_10, hcz44_11, hcz44_12, hcz44_13, hcz44_14, hcz44_15, hcz44_16, hcz44_17, hcz44_18, hcz44_19, hcz44_20⟩ := Gv.c21 BK413.out) | ((with_reducible refine Gv.gate_load (t := 55) rfl ?_); (try (refine gate_guard (by rfl) ?_; dsimp only)); refine wpList_load_row rfl 55 _ rfl gb412 rfl 55 _ _ _ (by first | exact Gv.kb0 BK412.out | exact Gv.kb1 (Gv.kb0 BK412.out)) Try.underlying55 rfl (by kernel_rfl) ?_) | ((with_reducible refine Gv.gate_load (t := 55) rfl ?_); (try (refine gate_guard (by rfl) ?_; dsimp only)); refine wpList_load_row rfl 55 _ rfl gb413 rfl 55 _ _ _ (by first | exact Gv.kb0 BK413.out | exact Gv.kb1 (Gv.kb0 BK413.out)) Try.underlying55 rfl (by kernel_rfl) ?_))
         go_ret
         exact ⟨Gv.rt, Gv.bw⟩
       ·rw [if_neg c13] at H
        have c13b0 : decide (a1_15 ≤ a0_15) = false := decide_eq_false c13
        clear c13
        obtain rfl := Option.some.inj H
        go_enter Try.func40, Try.ntmps40
        go_wp2_with (first | ((with_reducible refine gate_dst (N := 2) rfl ?_); refine box_event ?hg (N := 2) ?hd (cs := #[.int .i64 a0_0, .int .i64 a0_1, .int .i64 a0_2, .int .i64 a0_3, .int .i64 a0_4, .int .i64 a0_5, .int .i64 a0_6, .int .i64 a0_7, .int .i64 a0_8, .int .i64 a0_9, .int .i64 a0_10, .int .i64 a0_11, .int .i64 a0_12, .int .i64 a0_13, .int .i64 a0_14, .int .i64 a0_15, .int .i64 a0_16, .int .i64 a0_17, .int .i64 a0_18, .int .i64 a0_19, .int .i64 a0_20]) (t := 55) ?hr ?_; (case hd => rfl); (case hg => rfl); (case hr => first | (go_simp; done) | (go_simp; rfl)); intro gb412 hg w45 hbox hb; have n0_ := Gv.a0 (below_step Gv.bw hb); have n1_ := Gv.a0 (hbox); have n2_ := Gv.a0 ((Gv.ble hg Gv.bw : w.heap.size ≤ gb412)); have n3_ := Gv.a0 ((Gv.ble hg Gv.bw : w.heap.size ≤ gb412)); clear HB; have HB := n0_; have BK412 := n1_; have GW412 := n2_; have GE412 := n3_; clear n0_ n1_ n2_ n3_; clear hb hbox hg) | ((with_reducible refine gate_store (t := 55) (p := 2) rfl ?_); refine Gv.store_event rfl rfl rfl rfl rfl (Gv.kb BK412.out) (by kernel_rfl) rfl (by simp; and_intros <;> rfl) ?_; intro w45s hbox hoth hbel; have n0_ := Gv.a0 (hbox); have n1_ := Gv.a0 (hbel w Gv.bw GE412.out); clear BK412 HB; have BK412 := n0_; have HB := n1_; clear n0_ n1_ hbox hoth hbel) | ((with_reducible refine gate_dst (N := 3) rfl ?_); refine box_event ?hg (N := 3) ?hd (cs := #[.int .i64 a1_0, .int .i64 a1_1, .int .i64 a1_2, .int .i64 a1_3, .int .i64 a1_4, .int .i64 a1_5, .int .i64 a1_6, .int .i64 a1_7, .int .i64 a1_8, .int .i64 a1_9, .int .i64 a1_10, .int .i64 a1_11, .int .i64 a1_12, .int .i64 a1_13, .int .i64 a1_14, .int .i64 a1_15, .int .i64 a1_16, .int .i64 a1_17, .int .i64 a1_18, .int .i64 a1_19, .int .i64 a1_20]) (t := 55) ?hr ?_; (case hd => rfl); (case hg => rfl); (case hr => first | (go_simp; done) | (go_simp; rfl)); intro gb413 hg w46 hbox hb; have n0_ := Gv.a0 (Gv.bb BK412.out hb); have n1_ := Gv.a0 (below_step Gv.bw hb); have n2_ := Gv.a0 (hbox); have n3_ := Gv.a0 ((Gv.ble hg Gv.bw : w.heap.size ≤ gb413)); have n4_ := Gv.a0 ((Gv.ble hg Gv.bw : w.heap.size ≤ gb413)); have n5_ := Gv.a0 ((Gv.nlt hg (Gv.kb BK412.out) : gb412 ≠ gb413)); have n6_ := Gv.a0 ((Gv.ngt hg (Gv.kb BK412.out) : gb413 ≠ gb412)); clear BK412; clear HB; have BK412 := n0_; have HB := n1_; have BK413 := n2_; have GW413 := n3_; have GE413 := n4_; have NB412_413 := n5_; have NB413_412 := n6_; clear n0_ n1_ n2_ n3_ n4_ n5_ n6_; clear hb hbox hg; have hnb47 := NB412_413.out; have hnc47 := NB413_412.out; obtain ⟨hcz48_0, hcz48_1, hcz48_2, hcz48_3, hcz48_4, hcz48_5, hcz48_6, hcz48_7, hcz48_8, hcz48_9, hcz48_10, hcz48_11, hcz48_12, hcz48_13, hcz48_14, hcz48_15, hcz48_16, hcz48_17, hcz48_18, hcz48_19, hcz48_20⟩ := Gv.c21 BK412.out) | ((with_reducible refine gate_store (t := 55) (p := 3) rfl ?_); refine Gv.store_event rfl rfl rfl rfl rfl (Gv.kb BK413.out) (by kernel_rfl) rfl (by simp; and_intros <;> rfl) ?_; intro w46s hbox hoth hbel; have n0_ := Gv.a0 (hbox); have n1_ := Gv.a0 (hbel w Gv.bw GE413.out); have n2_ := Gv.a0 ((hoth gb412 NB412_413.out).trans (Gv.kb BK412.out)); clear BK413 HB BK412; have BK413 := n0_; have HB := n1_; have BK412 := n2_; clear n0_ n1_ n2_ hbox hoth hbel; (try clear hcz48_0 hcz48_1 hcz48_2 hcz48_3 hcz48_4 hcz48_5 hcz48_6 hcz48_7 hcz48_8 hcz48_9 hcz48_10 hcz48_11 hcz48_12 hcz48_13 hcz48_14 hcz48_15 hcz48_16 hcz48_17 hcz48_18 hcz48_19 hcz48_20); obtain ⟨hcz48_0, hcz48_1, hcz48_2, hcz48_3, hcz48_4, hcz48_5, hcz48_6, hcz48_7, hcz48_8, hcz48_9, hcz48_10, hcz48_11, hcz48_12, hcz48_13, hcz48_14, hcz48_15, hcz48_16, hcz48_17, hcz48_18, hcz48_19, hcz48_20⟩ := Gv.c21 BK412.out) | ((with_reducible refine gate_callee (f := 29) rfl ?_); refine goesL_ (some 6) rfl rfl Try.func29 (by kernel_rfl) rfl #[.agg #[.int .i64 a0_0, .int .i64 a0_1, .int .i64 a0_2, .int .i64 a0_3, .int .i64 a0_4, .int .i64 a0_5, .int .i64 a0_6, .int .i64 a0_7, .int .i64 a0_8, .int .i64 a0_9, .int .i64 a0_10, .int .i64 a0_11, .int .i64 a0_12, .int .i64 a0_13, .int .i64 a0_14, .int .i64 a0_15, .int .i64 a0_16, .int .i64 a0_17, .int .i64 a0_18, .int .i64 a0_19, .int .i64 a0_20]] rfl Gv.lm ?_; (with_reducible refine (impl_RuleOk.calls k a0_0 a0_1 a0_2 a0_3 a0_4 a0_5 a0_6 a0_7 a0_8 a0_9 a0_10 a0_11 a0_12 a0_13 a0_14 a0_15 a0_16 a0_17 a0_18 a0_19 a0_20 true _ A3.out).mono ?_); rintro e w49 ⟨rfl, hb⟩; refine ⟨_, rfl, ?_⟩; have n0_ := Gv.a0 (Gv.bb BK412.out hb); have n1_ := Gv.a0 (Gv.bb BK413.out hb); have n2_ := Gv.a0 (below_step Gv.bw hb); clear BK412; clear BK413; clear HB; have BK412 := n0_; have BK413 := n1_; have HB := n2_; clear n0_ n1_ n2_; (try clear hb); (try clear hb2); (try clear hk); (try clear hi); obtain ⟨hcz50_0, hcz50_1, hcz50_2, hcz50_3, hcz50_4, hcz50_5, hcz50_6, hcz50_7, hcz50_8, hcz50_9, hcz50_10, hcz50_11, hcz50_12, hcz50_13, hcz50_14, hcz50_15, hcz50_16, hcz50_17, hcz50_18, hcz50_19, hcz50_20⟩ := Gv.c21 BK413.out) | (go_at_call 29; (with_reducible refine (impl_RuleOk.calls k a1_0 a1_1 a1_2 a1_3 a1_4 a1_5 a1_6 a1_7 a1_8 a1_9 a1_10 a1_11 a1_12 a1_13 a1_14 a1_15 a1_16 a1_17 a1_18 a1_19 a1_20 true _ A5.out).mono ?_); rintro e w51 ⟨rfl, hb⟩; have n0_ := Gv.a0 (Gv.bb BK412.out hb); have n1_ := Gv.a0 (Gv.bb BK413.out hb); have n2_ := Gv.a0 (below_step Gv.bw hb); clear BK412; clear BK413; clear HB; have BK412 := n0_; have BK413 := n1_; have HB := n2_; clear n0_ n1_ n2_; (try clear hb); (try clear hb2); (try clear hk); (try clear hi); obtain ⟨hcz52_0, hcz52_1, hcz52_2, hcz52_3, hcz52_4, hcz52_5, hcz52_6, hcz52_7, hcz52_8, hcz52_9, hcz52_10, hcz52_11, hcz52_12, hcz52_13, hcz52_14, hcz52_15, hcz52_16, hcz52_17, hcz52_18, hcz52_19, hcz52_20⟩ := Gv.c21 BK413.out; obtain ⟨hcz53_0, hcz53_1, hcz53_2, hcz53_3, hcz53_4, hcz53_5, hcz53_6, hcz53_7, hcz53_8, hcz53_9, hcz53_10, hcz53_11, hcz53_12, hcz53_13, hcz53_14, hcz53_15, hcz53_16, hcz53_17, hcz53_18, hcz53_19, hcz53_20⟩ := Gv.c21 BK412.out) | (go_at_call 57; (with_reducible refine (impl_PrefixIn.calls k a1_1 a1_2 a1_3 a1_4 a1_5 a1_6 a0_1 a0_2 a0_3 a0_4 a0_5 a0_6 true _ A7.out).mono ?_); rintro e w54 ⟨rfl, hb⟩; have n0_ := Gv.a0 (Gv.bb BK412.out hb); have n1_ := Gv.a0 (Gv.bb BK413.out hb); have n2_ := Gv.a0 (below_step Gv.bw hb); clear BK412; clear BK413; clear HB; have BK412 := n0_; have BK413 := n1_; have HB := n2_; clear n0_ n1_ n2_; (try clear hb); (try clear hb2); (try clear hk); (try clear hi); obtain ⟨hcz55_0, hcz55_1, hcz55_2, hcz55_3, hcz55_4, hcz55_5, hcz55_6, hcz55_7, hcz55_8, hcz55_9, hcz55_10, hcz55_11, hcz55_12, hcz55_13, hcz55_14, hcz55_15, hcz55_16, hcz55_17, hcz55_18, hcz55_19, hcz55_20⟩ := Gv.c21 BK413.out; obtain ⟨hcz56_0, hcz56_1, hcz56_2, hcz56_3, hcz56_4, hcz56_5, hcz56_6, hcz56_7, hcz56_8, hcz56_9, hcz56_10, hcz56_11, hcz56_12, hcz56_13, hcz56_14, hcz56_15, hcz56_16, hcz56_17, hcz56_18, hcz56_19, hcz56_20⟩ := Gv.c21 BK412.out) | (go_at_call 57; (with_reducible refine (impl_PrefixIn.calls k a1_7 a1_8 a1_9 a1_10 a1_11 a1_12 a0_7 a0_8 a0_9 a0_10 a0_11 a0_12 true _ A9.out).mono ?_); rintro e w57 ⟨rfl, hb⟩; have n0_ := Gv.a0 (Gv.bb BK412.out hb); have n1_ := Gv.a0 (Gv.bb BK413.out hb); have n2_ := Gv.a0 (below_step Gv.bw hb); clear BK412; clear BK413; clear HB; have BK412 := n0_; have BK413 := n1_; have HB := n2_; clear n0_ n1_ n2_; (try clear hb); (try clear hb2); (try clear hk); (try clear hi); obtain ⟨hcz58_0, hcz58_1, hcz58_2, hcz58_3, hcz58_4, hcz58_5, hcz58_6, hcz58_7, hcz58_8, hcz58_9, hcz58_10, hcz58_11, hcz58_12, hcz58_13, hcz58_14, hcz58_15, hcz58_16, hcz58_17, hcz58_18, hcz58_19, hcz58_20⟩ := Gv.c21 BK412.out; obtain ⟨hcz59_0, hcz59_1, hcz59_2, hcz59_3, hcz59_4, hcz59_5, hcz59_6, hcz59_7, hcz59_8, hcz59_9, hcz59_10, hcz59_11, hcz59_12, hcz59_13, hcz59_14, hcz59_15, hcz59_16, hcz59_17, hcz59_18, hcz59_19, hcz59_20⟩ := Gv.c21 BK413.out) | ((with_reducible refine Gv.gate_load (t := 55) rfl ?_); (try (refine gate_guard (by rfl) ?_; dsimp only)); refine wpList_load_row rfl 55 _ rfl gb412 rfl 55 _ _ _ (by first | exact Gv.kb0 BK412.out | exact Gv.kb1 (Gv.kb0 BK412.out)) Try.underlying55 rfl (by kernel_rfl) ?_) | ((with_reducible refine Gv.gate_load (t := 55) rfl ?_); (try (refine gate_guard (by rfl) ?_; dsimp only)); refine wpList_load_row rfl 55 _ rfl gb413 rfl 55 _ _ _ (by first | exact Gv.kb0 BK413.out | exact Gv.kb1 (Gv.kb0 BK413.out)) Try.underlying55 rfl (by kernel_rfl) ?_))
        go_ret
        exact ⟨Gv.rt, Gv.bw⟩
      ·rw [if_neg c12] at H
       have c12b0 : decide (a0_14 ≤ a1_14) = false := decide_eq_false c12
       clear c12
       obtain rfl := Option.some.inj H
       go_enter Try.func40, Try.ntmps40
       go_wp2_with (first | ((with_reducible refine gate_dst (N := 2) rfl ?_); refine box_event ?hg (N := 2) ?hd (cs := #[.int .i64 a0_0, .int .i64 a0_1, .int .i64 a0_2, .int .i64 a0_3, .int .i64 a0_4, .int .i64 a0_5, .int .i64 a0_6, .int .i64 a0_7, .int .i64 a0_8, .int .i64 a0_9, .int .i64 a0_10, .int .i64 a0_11, .int .i64 a0_12, .int .i64 a0_13, .int .i64 a0_14, .int .i64 a0_15, .int .i64 a0_16, .int .i64 a0_17, .int .i64 a0_18, .int .i64 a0_19, .int .i64 a0_20]) (t := 55) ?hr ?_; (case hd => rfl); (case hg => rfl); (case hr => first | (go_simp; done) | (go_simp; rfl)); intro gb412 hg w60 hbox hb; have n0_ := Gv.a0 (below_step Gv.bw hb); have n1_ := Gv.a0 (hbox); have n2_ := Gv.a0 ((Gv.ble hg Gv.bw : w.heap.size ≤ gb412)); have n3_ := Gv.a0 ((Gv.ble hg Gv.bw : w.heap.size ≤ gb412)); clear HB; have HB := n0_; have BK412 := n1_; have GW412 := n2_; have GE412 := n3_; clear n0_ n1_ n2_ n3_; clear hb hbox hg) | ((with_reducible refine gate_store (t := 55) (p := 2) rfl ?_); refine Gv.store_event rfl rfl rfl rfl rfl (Gv.kb BK412.out) (by kernel_rfl) rfl (by simp; and_intros <;> rfl) ?_; intro w60s hbox hoth hbel; have n0_ := Gv.a0 (hbox); have n1_ := Gv.a0 (hbel w Gv.bw GE412.out); clear BK412 HB; have BK412 := n0_; have HB := n1_; clear n0_ n1_ hbox hoth hbel) | ((with_reducible refine gate_dst (N := 3) rfl ?_); refine box_event ?hg (N := 3) ?hd (cs := #[.int .i64 a1_0, .int .i64 a1_1, .int .i64 a1_2, .int .i64 a1_3, .int .i64 a1_4, .int .i64 a1_5, .int .i64 a1_6, .int .i64 a1_7, .int .i64 a1_8, .int .i64 a1_9, .int .i64 a1_10, .int .i64 a1_11, .int .i64 a1_12, .int .i64 a1_13, .int .i64 a1_14, .int .i64 a1_15, .int .i64 a1_16, .int .i64 a1_17, .int .i64 a1_18, .int .i64 a1_19, .int .i64 a1_20]) (t := 55) ?hr ?_; (case hd => rfl); (case hg => rfl); (case hr => first | (go_simp; done) | (go_simp; rfl)); intro gb413 hg w61 hbox hb; have n0_ := Gv.a0 (Gv.bb BK412.out hb); have n1_ := Gv.a0 (below_step Gv.bw hb); have n2_ := Gv.a0 (hbox); have n3_ := Gv.a0 ((Gv.ble hg Gv.bw : w.heap.size ≤ gb413)); have n4_ := Gv.a0 ((Gv.ble hg Gv.bw : w.heap.size ≤ gb413)); have n5_ := Gv.a0 ((Gv.nlt hg (Gv.kb BK412.out) : gb412 ≠ gb413)); have n6_ := Gv.a0 ((Gv.ngt hg (Gv.kb BK412.out) : gb413 ≠ gb412)); clear BK412; clear HB; have BK412 := n0_; have HB := n1_; have BK413 := n2_; have GW413 := n3_; have GE413 := n4_; have NB412_413 := n5_; have NB413_412 := n6_; clear n0_ n1_ n2_ n3_ n4_ n5_ n6_; clear hb hbox hg; have hnb62 := NB412_413.out; have hnc62 := NB413_412.out; obtain ⟨hcz63_0, hcz63_1, hcz63_2, hcz63_3, hcz63_4, hcz63_5, hcz63_6, hcz63_7, hcz63_8, hcz63_9, hcz63_10, hcz63_11, hcz63_12, hcz63_13, hcz63_14, hcz63_15, hcz63_16, hcz63_17, hcz63_18, hcz63_19, hcz63_20⟩ := Gv.c21 BK412.out) | ((with_reducible refine gate_store (t := 55) (p := 3) rfl ?_); refine Gv.store_event rfl rfl rfl rfl rfl (Gv.kb BK413.out) (by kernel_rfl) rfl (by simp; and_intros <;> rfl) ?_; intro w61s hbox hoth hbel; have n0_ := Gv.a0 (hbox); have n1_ := Gv.a0 (hbel w Gv.bw GE413.out); have n2_ := Gv.a0 ((hoth gb412 NB412_413.out).trans (Gv.kb BK412.out)); clear BK413 HB BK412; have BK413 := n0_; have HB := n1_; have BK412 := n2_; clear n0_ n1_ n2_ hbox hoth hbel; (try clear hcz63_0 hcz63_1 hcz63_2 hcz63_3 hcz63_4 hcz63_5 hcz63_6 hcz63_7 hcz63_8 hcz63_9 hcz63_10 hcz63_11 hcz63_12 hcz63_13 hcz63_14 hcz63_15 hcz63_16 hcz63_17 hcz63_18 hcz63_19 hcz63_20); obtain ⟨hcz63_0, hcz63_1, hcz63_2, hcz63_3, hcz63_4, hcz63_5, hcz63_6, hcz63_7, hcz63_8, hcz63_9, hcz63_10, hcz63_11, hcz63_12, hcz63_13, hcz63_14, hcz63_15, hcz63_16, hcz63_17, hcz63_18, hcz63_19, hcz63_20⟩ := Gv.c21 BK412.out) | ((with_reducible refine gate_callee (f := 29) rfl ?_); refine goesL_ (some 6) rfl rfl Try.func29 (by kernel_rfl) rfl #[.agg #[.int .i64 a0_0, .int .i64 a0_1, .int .i64 a0_2, .int .i64 a0_3, .int .i64 a0_4, .int .i64 a0_5, .int .i64 a0_6, .int .i64 a0_7, .int .i64 a0_8, .int .i64 a0_9, .int .i64 a0_10, .int .i64 a0_11, .int .i64 a0_12, .int .i64 a0_13, .int .i64 a0_14, .int .i64 a0_15, .int .i64 a0_16, .int .i64 a0_17, .int .i64 a0_18, .int .i64 a0_19, .int .i64 a0_20]] rfl Gv.lm ?_; (with_reducible refine (impl_RuleOk.calls k a0_0 a0_1 a0_2 a0_3 a0_4 a0_5 a0_6 a0_7 a0_8 a0_9 a0_10 a0_11 a0_12 a0_13 a0_14 a0_15 a0_16 a0_17 a0_18 a0_19 a0_20 true _ A3.out).mono ?_); rintro e w64 ⟨rfl, hb⟩; refine ⟨_, rfl, ?_⟩; have n0_ := Gv.a0 (Gv.bb BK412.out hb); have n1_ := Gv.a0 (Gv.bb BK413.out hb); have n2_ := Gv.a0 (below_step Gv.bw hb); clear BK412; clear BK413; clear HB; have BK412 := n0_; have BK413 := n1_; have HB := n2_; clear n0_ n1_ n2_; (try clear hb); (try clear hb2); (try clear hk); (try clear hi); obtain ⟨hcz65_0, hcz65_1, hcz65_2, hcz65_3, hcz65_4, hcz65_5, hcz65_6, hcz65_7, hcz65_8, hcz65_9, hcz65_10, hcz65_11, hcz65_12, hcz65_13, hcz65_14, hcz65_15, hcz65_16, hcz65_17, hcz65_18, hcz65_19, hcz65_20⟩ := Gv.c21 BK413.out) | (go_at_call 29; (with_reducible refine (impl_RuleOk.calls k a1_0 a1_1 a1_2 a1_3 a1_4 a1_5 a1_6 a1_7 a1_8 a1_9 a1_10 a1_11 a1_12 a1_13 a1_14 a1_15 a1_16 a1_17 a1_18 a1_19 a1_20 true _ A5.out).mono ?_); rintro e w66 ⟨rfl, hb⟩; have n0_ := Gv.a0 (Gv.bb BK412.out hb); have n1_ := Gv.a0 (Gv.bb BK413.out hb); have n2_ := Gv.a0 (below_step Gv.bw hb); clear BK412; clear BK413; clear HB; have BK412 := n0_; have BK413 := n1_; have HB := n2_; clear n0_ n1_ n2_; (try clear hb); (try clear hb2); (try clear hk); (try clear hi); obtain ⟨hcz67_0, hcz67_1, hcz67_2, hcz67_3, hcz67_4, hcz67_5, hcz67_6, hcz67_7, hcz67_8, hcz67_9, hcz67_10, hcz67_11, hcz67_12, hcz67_13, hcz67_14, hcz67_15, hcz67_16, hcz67_17, hcz67_18, hcz67_19, hcz67_20⟩ := Gv.c21 BK413.out; obtain ⟨hcz68_0, hcz68_1, hcz68_2, hcz68_3, hcz68_4, hcz68_5, hcz68_6, hcz68_7, hcz68_8, hcz68_9, hcz68_10, hcz68_11, hcz68_12, hcz68_13, hcz68_14, hcz68_15, hcz68_16, hcz68_17, hcz68_18, hcz68_19, hcz68_20⟩ := Gv.c21 BK412.out) | (go_at_call 57; (with_reducible refine (impl_PrefixIn.calls k a1_1 a1_2 a1_3 a1_4 a1_5 a1_6 a0_1 a0_2 a0_3 a0_4 a0_5 a0_6 true _ A7.out).mono ?_); rintro e w69 ⟨rfl, hb⟩; have n0_ := Gv.a0 (Gv.bb BK412.out hb); have n1_ := Gv.a0 (Gv.bb BK413.out hb); have n2_ := Gv.a0 (below_step Gv.bw hb); clear BK412; clear BK413; clear HB; have BK412 := n0_; have BK413 := n1_; have HB := n2_; clear n0_ n1_ n2_; (try clear hb); (try clear hb2); (try clear hk); (try clear hi); obtain ⟨hcz70_0, hcz70_1, hcz70_2, hcz70_3, hcz70_4, hcz70_5, hcz70_6, hcz70_7, hcz70_8, hcz70_9, hcz70_10, hcz70_11, hcz70_12, hcz70_13, hcz70_14, hcz70_15, hcz70_16, hcz70_17, hcz70_18, hcz70_19, hcz70_20⟩ := Gv.c21 BK413.out; obtain ⟨hcz71_0, hcz71_1, hcz71_2, hcz71_3, hcz71_4, hcz71_5, hcz71_6, hcz71_7, hcz71_8, hcz71_9, hcz71_10, hcz71_11, hcz71_12, hcz71_13, hcz71_14, hcz71_15, hcz71_16, hcz71_17, hcz71_18, hcz71_19, hcz71_20⟩ := Gv.c21 BK412.out) | (go_at_call 57; (with_reducible refine (impl_PrefixIn.calls k a1_7 a1_8 a1_9 a1_10 a1_11 a1_12 a0_7 a0_8 a0_9 a0_10 a0_11 a0_12 true _ A9.out).mono ?_); rintro e w72 ⟨rfl, hb⟩; have n0_ := Gv.a0 (Gv.bb BK412.out hb); have n1_ := Gv.a0 (Gv.bb BK413.out hb); have n2_ := Gv.a0 (below_step Gv.bw hb); clear BK412; clear BK413; clear HB; have BK412 := n0_; have BK413 := n1_; have HB := n2_; clear n0_ n1_ n2_; (try clear hb); (try clear hb2); (try clear hk); (try clear hi); obtain ⟨hcz73_0, hcz73_1, hcz73_2, hcz73_3, hcz73_4, hcz73_5, hcz73_6, hcz73_7, hcz73_8, hcz73_9, hcz73_10, hcz73_11, hcz73_12, hcz73_13, hcz73_14, hcz73_15, hcz73_16, hcz73_17, hcz73_18, hcz73_19, hcz73_20⟩ := Gv.c21 BK412.out; obtain ⟨hcz74_0, hcz74_1, hcz74_2, hcz74_3, hcz74_4, hcz74_5, hcz74_6, hcz74_7, hcz74_8, hcz74_9, hcz74_10, hcz74_11, hcz74_12, hcz74_13, hcz74_14, hcz74_15, hcz74_16, hcz74_17, hcz74_18, hcz74_19, hcz74_20⟩ := Gv.c21 BK413.out) | ((with_reducible refine Gv.gate_load (t := 55) rfl ?_); (try (refine gate_guard (by rfl) ?_; dsimp only)); refine wpList_load_row rfl 55 _ rfl gb412 rfl 55 _ _ _ (by first | exact Gv.kb0 BK412.out | exact Gv.kb1 (Gv.kb0 BK412.out)) Try.underlying55 rfl (by kernel_rfl) ?_) | ((with_reducible refine Gv.gate_load (t := 55) rfl ?_); (try (refine gate_guard (by rfl) ?_; dsimp only)); refine wpList_load_row rfl 55 _ rfl gb413 rfl 55 _ _ _ (by first | exact Gv.kb0 BK413.out | exact Gv.kb1 (Gv.kb0 BK413.out)) Try.underlying55 rfl (by kernel_rfl) ?_))
       go_ret
       exact ⟨Gv.rt, Gv.bw⟩
     ·rw [if_neg c11] at H
      have c11b0 : (a0_13 == (-1)) = false := beq_eq_false_iff_ne.mpr c11
      have c11b1 : (a0_13 != (-1)) = true := bne_iff_ne.mpr c11
      by_cases c75 : a0_13 = a1_13
      ·rw [if_pos c75] at H
       have c75b0 : (a0_13 == a1_13) = true := beq_iff_eq.mpr c75
       have c75b1 : (a0_13 != a1_13) = false := bne_eq_false_iff_eq.mpr c75
       clear c75
       by_cases c76 : a0_14 ≤ a1_14
       ·rw [if_pos c76] at H
        have c76b0 : decide (a0_14 ≤ a1_14) = true := decide_eq_true c76
        clear c76
        by_cases c77 : a0_15 ≥ a1_15
        ·rw [if_pos c77] at H
         have c77b0 : decide (a1_15 ≤ a0_15) = true := decide_eq_true c77
         clear c77
         by_cases c78 : a0_16 ≤ a1_16
         ·rw [if_pos c78] at H
          have c78b0 : decide (a0_16 ≤ a1_16) = true := decide_eq_true c78
          clear c78
          obtain rfl := Option.some.inj H
          go_enter Try.func40, Try.ntmps40
          go_wp2_with (first | ((with_reducible refine gate_dst (N := 2) rfl ?_); refine box_event ?hg (N := 2) ?hd (cs := #[.int .i64 a0_0, .int .i64 a0_1, .int .i64 a0_2, .int .i64 a0_3, .int .i64 a0_4, .int .i64 a0_5, .int .i64 a0_6, .int .i64 a0_7, .int .i64 a0_8, .int .i64 a0_9, .int .i64 a0_10, .int .i64 a0_11, .int .i64 a0_12, .int .i64 a0_13, .int .i64 a0_14, .int .i64 a0_15, .int .i64 a0_16, .int .i64 a0_17, .int .i64 a0_18, .int .i64 a0_19, .int .i64 a0_20]) (t := 55) ?hr ?_; (case hd => rfl); (case hg => rfl); (case hr => first | (go_simp; done) | (go_simp; rfl)); intro gb412 hg w79 hbox hb; have n0_ := Gv.a0 (below_step Gv.bw hb); have n1_ := Gv.a0 (hbox); have n2_ := Gv.a0 ((Gv.ble hg Gv.bw : w.heap.size ≤ gb412)); have n3_ := Gv.a0 ((Gv.ble hg Gv.bw : w.heap.size ≤ gb412)); clear HB; have HB := n0_; have BK412 := n1_; have GW412 := n2_; have GE412 := n3_; clear n0_ n1_ n2_ n3_; clear hb hbox hg) | ((with_reducible refine gate_store (t := 55) (p := 2) rfl ?_); refine Gv.store_event rfl rfl rfl rfl rfl (Gv.kb BK412.out) (by kernel_rfl) rfl (by simp; and_intros <;> rfl) ?_; intro w79s hbox hoth hbel; have n0_ := Gv.a0 (hbox); have n1_ := Gv.a0 (hbel w Gv.bw GE412.out); clear BK412 HB; have BK412 := n0_; have HB := n1_; clear n0_ n1_ hbox hoth hbel) | ((with_reducible refine gate_dst (N := 3) rfl ?_); refine box_event ?hg (N := 3) ?hd (cs := #[.int .i64 a1_0, .int .i64 a1_1, .int .i64 a1_2, .int .i64 a1_3, .int .i64 a1_4, .int .i64 a1_5, .int .i64 a1_6, .int .i64 a1_7, .int .i64 a1_8, .int .i64 a1_9, .int .i64 a1_10, .int .i64 a1_11, .int .i64 a1_12, .int .i64 a1_13, .int .i64 a1_14, .int .i64 a1_15, .int .i64 a1_16, .int .i64 a1_17, .int .i64 a1_18, .int .i64 a1_19, .int .i64 a1_20]) (t := 55) ?hr ?_; (case hd => rfl); (case hg => rfl); (case hr => first | (go_simp; done) | (go_simp; rfl)); intro gb413 hg w80 hbox hb; have n0_ := Gv.a0 (Gv.bb BK412.out hb); have n1_ := Gv.a0 (below_step Gv.bw hb); have n2_ := Gv.a0 (hbox); have n3_ := Gv.a0 ((Gv.ble hg Gv.bw : w.heap.size ≤ gb413)); have n4_ := Gv.a0 ((Gv.ble hg Gv.bw : w.heap.size ≤ gb413)); have n5_ := Gv.a0 ((Gv.nlt hg (Gv.kb BK412.out) : gb412 ≠ gb413)); have n6_ := Gv.a0 ((Gv.ngt hg (Gv.kb BK412.out) : gb413 ≠ gb412)); clear BK412; clear HB; have BK412 := n0_; have HB := n1_; have BK413 := n2_; have GW413 := n3_; have GE413 := n4_; have NB412_413 := n5_; have NB413_412 := n6_; clear n0_ n1_ n2_ n3_ n4_ n5_ n6_; clear hb hbox hg; have hnb81 := NB412_413.out; have hnc81 := NB413_412.out; obtain ⟨hcz82_0, hcz82_1, hcz82_2, hcz82_3, hcz82_4, hcz82_5, hcz82_6, hcz82_7, hcz82_8, hcz82_9, hcz82_10, hcz82_11, hcz82_12, hcz82_13, hcz82_14, hcz82_15, hcz82_16, hcz82_17, hcz82_18, hcz82_19, hcz82_20⟩ := Gv.c21 BK412.out) | ((with_reducible refine gate_store (t := 55) (p := 3) rfl ?_); refine Gv.store_event rfl rfl rfl rfl rfl (Gv.kb BK413.out) (by kernel_rfl) rfl (by simp; and_intros <;> rfl) ?_; intro w80s hbox hoth hbel; have n0_ := Gv.a0 (hbox); have n1_ := Gv.a0 (hbel w Gv.bw GE413.out); have n2_ := Gv.a0 ((hoth gb412 NB412_413.out).trans (Gv.kb BK412.out)); clear BK413 HB BK412; have BK413 := n0_; have HB := n1_; have BK412 := n2_; clear n0_ n1_ n2_ hbox hoth hbel; (try clear hcz82_0 hcz82_1 hcz82_2 hcz82_3 hcz82_4 hcz82_5 hcz82_6 hcz82_7 hcz82_8 hcz82_9 hcz82_10 hcz82_11 hcz82_12 hcz82_13 hcz82_14 hcz82_15 hcz82_16 hcz82_17 hcz82_18 hcz82_19 hcz82_20); obtain ⟨hcz82_0, hcz82_1, hcz82_2, hcz82_3, hcz82_4, hcz82_5, hcz82_6, hcz82_7, hcz82_8, hcz82_9, hcz82_10, hcz82_11, hcz82_12, hcz82_13, hcz82_14, hcz82_15, hcz82_16, hcz82_17, hcz82_18, hcz82_19, hcz82_20⟩ := Gv.c21 BK412.out) | ((with_reducible refine gate_callee (f := 29) rfl ?_); refine goesL_ (some 6) rfl rfl Try.func29 (by kernel_rfl) rfl #[.agg #[.int .i64 a0_0, .int .i64 a0_1, .int .i64 a0_2, .int .i64 a0_3, .int .i64 a0_4, .int .i64 a0_5, .int .i64 a0_6, .int .i64 a0_7, .int .i64 a0_8, .int .i64 a0_9, .int .i64 a0_10, .int .i64 a0_11, .int .i64 a0_12, .int .i64 a0_13, .int .i64 a0_14, .int .i64 a0_15, .int .i64 a0_16, .int .i64 a0_17, .int .i64 a0_18, .int .i64 a0_19, .int .i64 a0_20]] rfl Gv.lm ?_; (with_reducible refine (impl_RuleOk.calls k a0_0 a0_1 a0_2 a0_3 a0_4 a0_5 a0_6 a0_7 a0_8 a0_9 a0_10 a0_11 a0_12 a0_13 a0_14 a0_15 a0_16 a0_17 a0_18 a0_19 a0_20 true _ A3.out).mono ?_); rintro e w83 ⟨rfl, hb⟩; refine ⟨_, rfl, ?_⟩; have n0_ := Gv.a0 (Gv.bb BK412.out hb); have n1_ := Gv.a0 (Gv.bb BK413.out hb); have n2_ := Gv.a0 (below_step Gv.bw hb); clear BK412; clear BK413; clear HB; have BK412 := n0_; have BK413 := n1_; have HB := n2_; clear n0_ n1_ n2_; (try clear hb); (try clear hb2); (try clear hk); (try clear hi); obtain ⟨hcz84_0, hcz84_1, hcz84_2, hcz84_3, hcz84_4, hcz84_5, hcz84_6, hcz84_7, hcz84_8, hcz84_9, hcz84_10, hcz84_11, hcz84_12, hcz84_13, hcz84_14, hcz84_15, hcz84_16, hcz84_17, hcz84_18, hcz84_19, hcz84_20⟩ := Gv.c21 BK413.out) | (go_at_call 29; (with_reducible refine (impl_RuleOk.calls k a1_0 a1_1 a1_2 a1_3 a1_4 a1_5 a1_6 a1_7 a1_8 a1_9 a1_10 a1_11 a1_12 a1_13 a1_14 a1_15 a1_16 a1_17 a1_18 a1_19 a1_20 true _ A5.out).mono ?_); rintro e w85 ⟨rfl, hb⟩; have n0_ := Gv.a0 (Gv.bb BK412.out hb); have n1_ := Gv.a0 (Gv.bb BK413.out hb); have n2_ := Gv.a0 (below_step Gv.bw hb); clear BK412; clear BK413; clear HB; have BK412 := n0_; have BK413 := n1_; have HB := n2_; clear n0_ n1_ n2_; (try clear hb); (try clear hb2); (try clear hk); (try clear hi); obtain ⟨hcz86_0, hcz86_1, hcz86_2, hcz86_3, hcz86_4, hcz86_5, hcz86_6, hcz86_7, hcz86_8, hcz86_9, hcz86_10, hcz86_11, hcz86_12, hcz86_13, hcz86_14, hcz86_15, hcz86_16, hcz86_17, hcz86_18, hcz86_19, hcz86_20⟩ := Gv.c21 BK413.out; obtain ⟨hcz87_0, hcz87_1, hcz87_2, hcz87_3, hcz87_4, hcz87_5, hcz87_6, hcz87_7, hcz87_8, hcz87_9, hcz87_10, hcz87_11, hcz87_12, hcz87_13, hcz87_14, hcz87_15, hcz87_16, hcz87_17, hcz87_18, hcz87_19, hcz87_20⟩ := Gv.c21 BK412.out) | (go_at_call 57; (with_reducible refine (impl_PrefixIn.calls k a1_1 a1_2 a1_3 a1_4 a1_5 a1_6 a0_1 a0_2 a0_3 a0_4 a0_5 a0_6 true _ A7.out).mono ?_); rintro e w88 ⟨rfl, hb⟩; have n0_ := Gv.a0 (Gv.bb BK412.out hb); have n1_ := Gv.a0 (Gv.bb BK413.out hb); have n2_ := Gv.a0 (below_step Gv.bw hb); clear BK412; clear BK413; clear HB; have BK412 := n0_; have BK413 := n1_; have HB := n2_; clear n0_ n1_ n2_; (try clear hb); (try clear hb2); (try clear hk); (try clear hi); obtain ⟨hcz89_0, hcz89_1, hcz89_2, hcz89_3, hcz89_4, hcz89_5, hcz89_6, hcz89_7, hcz89_8, hcz89_9, hcz89_10, hcz89_11, hcz89_12, hcz89_13, hcz89_14, hcz89_15, hcz89_16, hcz89_17, hcz89_18, hcz89_19, hcz89_20⟩ := Gv.c21 BK413.out; obtain ⟨hcz90_0, hcz90_1, hcz90_2, hcz90_3, hcz90_4, hcz90_5, hcz90_6, hcz90_7, hcz90_8, hcz90_9, hcz90_10, hcz90_11, hcz90_12, hcz90_13, hcz90_14, hcz90_15, hcz90_16, hcz90_17, hcz90_18, hcz90_19, hcz90_20⟩ := Gv.c21 BK412.out) | (go_at_call 57; (with_reducible refine (impl_PrefixIn.calls k a1_7 a1_8 a1_9 a1_10 a1_11 a1_12 a0_7 a0_8 a0_9 a0_10 a0_11 a0_12 true _ A9.out).mono ?_); rintro e w91 ⟨rfl, hb⟩; have n0_ := Gv.a0 (Gv.bb BK412.out hb); have n1_ := Gv.a0 (Gv.bb BK413.out hb); have n2_ := Gv.a0 (below_step Gv.bw hb); clear BK412; clear BK413; clear HB; have BK412 := n0_; have BK413 := n1_; have HB := n2_; clear n0_ n1_ n2_; (try clear hb); (try clear hb2); (try clear hk); (try clear hi); obtain ⟨hcz92_0, hcz92_1, hcz92_2, hcz92_3, hcz92_4, hcz92_5, hcz92_6, hcz92_7, hcz92_8, hcz92_9, hcz92_10, hcz92_11, hcz92_12, hcz92_13, hcz92_14, hcz92_15, hcz92_16, hcz92_17, hcz92_18, hcz92_19, hcz92_20⟩ := Gv.c21 BK412.out; obtain ⟨hcz93_0, hcz93_1, hcz93_2, hcz93_3, hcz93_4, hcz93_5, hcz93_6, hcz93_7, hcz93_8, hcz93_9, hcz93_10, hcz93_11, hcz93_12, hcz93_13, hcz93_14, hcz93_15, hcz93_16, hcz93_17, hcz93_18, hcz93_19, hcz93_20⟩ := Gv.c21 BK413.out) | ((with_reducible refine Gv.gate_load (t := 55) rfl ?_); (try (refine gate_guard (by rfl) ?_; dsimp only)); refine wpList_load_row rfl 55 _ rfl gb412 rfl 55 _ _ _ (by first | exact Gv.kb0 BK412.out | exact Gv.kb1 (Gv.kb0 BK412.out)) Try.underlying55 rfl (by kernel_rfl) ?_) | ((with_reducible refine Gv.gate_load (t := 55) rfl ?_); (try (refine gate_guard (by rfl) ?_; dsimp only)); refine wpList_load_row rfl 55 _ rfl gb413 rfl 55 _ _ _ (by first | exact Gv.kb0 BK413.out | exact Gv.kb1 (Gv.kb0 BK413.out)) Try.underlying55 rfl (by kernel_rfl) ?_))
          go_ret
          exact ⟨Gv.rt, Gv.bw⟩
         ·rw [if_neg c78] at H
          have c78b0 : decide (a0_16 ≤ a1_16) = false := decide_eq_false c78
          clear c78
          obtain rfl := Option.some.inj H
          go_enter Try.func40, Try.ntmps40
          go_wp2_with (first | ((with_reducible refine gate_dst (N := 2) rfl ?_); refine box_event ?hg (N := 2) ?hd (cs := #[.int .i64 a0_0, .int .i64 a0_1, .int .i64 a0_2, .int .i64 a0_3, .int .i64 a0_4, .int .i64 a0_5, .int .i64 a0_6, .int .i64 a0_7, .int .i64 a0_8, .int .i64 a0_9, .int .i64 a0_10, .int .i64 a0_11, .int .i64 a0_12, .int .i64 a0_13, .int .i64 a0_14, .int .i64 a0_15, .int .i64 a0_16, .int .i64 a0_17, .int .i64 a0_18, .int .i64 a0_19, .int .i64 a0_20]) (t := 55) ?hr ?_; (case hd => rfl); (case hg => rfl); (case hr => first | (go_simp; done) | (go_simp; rfl)); intro gb412 hg w94 hbox hb; have n0_ := Gv.a0 (below_step Gv.bw hb); have n1_ := Gv.a0 (hbox); have n2_ := Gv.a0 ((Gv.ble hg Gv.bw : w.heap.size ≤ gb412)); have n3_ := Gv.a0 ((Gv.ble hg Gv.bw : w.heap.size ≤ gb412)); clear HB; have HB := n0_; have BK412 := n1_; have GW412 := n2_; have GE412 := n3_; clear n0_ n1_ n2_ n3_; clear hb hbox hg) | ((with_reducible refine gate_store (t := 55) (p := 2) rfl ?_); refine Gv.store_event rfl rfl rfl rfl rfl (Gv.kb BK412.out) (by kernel_rfl) rfl (by simp; and_intros <;> rfl) ?_; intro w94s hbox hoth hbel; have n0_ := Gv.a0 (hbox); have n1_ := Gv.a0 (hbel w Gv.bw GE412.out); clear BK412 HB; have BK412 := n0_; have HB := n1_; clear n0_ n1_ hbox hoth hbel) | ((with_reducible refine gate_dst (N := 3) rfl ?_); refine box_event ?hg (N := 3) ?hd (cs := #[.int .i64 a1_0, .int .i64 a1_1, .int .i64 a1_2, .int .i64 a1_3, .int .i64 a1_4, .int .i64 a1_5, .int .i64 a1_6, .int .i64 a1_7, .int .i64 a1_8, .int .i64 a1_9, .int .i64 a1_10, .int .i64 a1_11, .int .i64 a1_12, .int .i64 a1_13, .int .i64 a1_14, .int .i64 a1_15, .int .i64 a1_16, .int .i64 a1_17, .int .i64 a1_18, .int .i64 a1_19, .int .i64 a1_20]) (t := 55) ?hr ?_; (case hd => rfl); (case hg => rfl); (case hr => first | (go_simp; done) | (go_simp; rfl)); intro gb413 hg w95 hbox hb; have n0_ := Gv.a0 (Gv.bb BK412.out hb); have n1_ := Gv.a0 (below_step Gv.bw hb); have n2_ := Gv.a0 (hbox); have n3_ := Gv.a0 ((Gv.ble hg Gv.bw : w.heap.size ≤ gb413)); have n4_ := Gv.a0 ((Gv.ble hg Gv.bw : w.heap.size ≤ gb413)); have n5_ := Gv.a0 ((Gv.nlt hg (Gv.kb BK412.out) : gb412 ≠ gb413)); have n6_ := Gv.a0 ((Gv.ngt hg (Gv.kb BK412.out) : gb413 ≠ gb412)); clear BK412; clear HB; have BK412 := n0_; have HB := n1_; have BK413 := n2_; have GW413 := n3_; have GE413 := n4_; have NB412_413 := n5_; have NB413_412 := n6_; clear n0_ n1_ n2_ n3_ n4_ n5_ n6_; clear hb hbox hg; have hnb96 := NB412_413.out; have hnc96 := NB413_412.out; obtain ⟨hcz97_0, hcz97_1, hcz97_2, hcz97_3, hcz97_4, hcz97_5, hcz97_6, hcz97_7, hcz97_8, hcz97_9, hcz97_10, hcz97_11, hcz97_12, hcz97_13, hcz97_14, hcz97_15, hcz97_16, hcz97_17, hcz97_18, hcz97_19, hcz97_20⟩ := Gv.c21 BK412.out) | ((with_reducible refine gate_store (t := 55) (p := 3) rfl ?_); refine Gv.store_event rfl rfl rfl rfl rfl (Gv.kb BK413.out) (by kernel_rfl) rfl (by simp; and_intros <;> rfl) ?_; intro w95s hbox hoth hbel; have n0_ := Gv.a0 (hbox); have n1_ := Gv.a0 (hbel w Gv.bw GE413.out); have n2_ := Gv.a0 ((hoth gb412 NB412_413.out).trans (Gv.kb BK412.out)); clear BK413 HB BK412; have BK413 := n0_; have HB := n1_; have BK412 := n2_; clear n0_ n1_ n2_ hbox hoth hbel; (try clear hcz97_0 hcz97_1 hcz97_2 hcz97_3 hcz97_4 hcz97_5 hcz97_6 hcz97_7 hcz97_8 hcz97_9 hcz97_10 hcz97_11 hcz97_12 hcz97_13 hcz97_14 hcz97_15 hcz97_16 hcz97_17 hcz97_18 hcz97_19 hcz97_20); obtain ⟨hcz97_0, hcz97_1, hcz97_2, hcz97_3, hcz97_4, hcz97_5, hcz97_6, hcz97_7, hcz97_8, hcz97_9, hcz97_10, hcz97_11, hcz97_12, hcz97_13, hcz97_14, hcz97_15, hcz97_16, hcz97_17, hcz97_18, hcz97_19, hcz97_20⟩ := Gv.c21 BK412.out) | ((with_reducible refine gate_callee (f := 29) rfl ?_); refine goesL_ (some 6) rfl rfl Try.func29 (by kernel_rfl) rfl #[.agg #[.int .i64 a0_0, .int .i64 a0_1, .int .i64 a0_2, .int .i64 a0_3, .int .i64 a0_4, .int .i64 a0_5, .int .i64 a0_6, .int .i64 a0_7, .int .i64 a0_8, .int .i64 a0_9, .int .i64 a0_10, .int .i64 a0_11, .int .i64 a0_12, .int .i64 a0_13, .int .i64 a0_14, .int .i64 a0_15, .int .i64 a0_16, .int .i64 a0_17, .int .i64 a0_18, .int .i64 a0_19, .int .i64 a0_20]] rfl Gv.lm ?_; (with_reducible refine (impl_RuleOk.calls k a0_0 a0_1 a0_2 a0_3 a0_4 a0_5 a0_6 a0_7 a0_8 a0_9 a0_10 a0_11 a0_12 a0_13 a0_14 a0_15 a0_16 a0_17 a0_18 a0_19 a0_20 true _ A3.out).mono ?_); rintro e w98 ⟨rfl, hb⟩; refine ⟨_, rfl, ?_⟩; have n0_ := Gv.a0 (Gv.bb BK412.out hb); have n1_ := Gv.a0 (Gv.bb BK413.out hb); have n2_ := Gv.a0 (below_step Gv.bw hb); clear BK412; clear BK413; clear HB; have BK412 := n0_; have BK413 := n1_; have HB := n2_; clear n0_ n1_ n2_; (try clear hb); (try clear hb2); (try clear hk); (try clear hi); obtain ⟨hcz99_0, hcz99_1, hcz99_2, hcz99_3, hcz99_4, hcz99_5, hcz99_6, hcz99_7, hcz99_8, hcz99_9, hcz99_10, hcz99_11, hcz99_12, hcz99_13, hcz99_14, hcz99_15, hcz99_16, hcz99_17, hcz99_18, hcz99_19, hcz99_20⟩ := Gv.c21 BK413.out) | (go_at_call 29; (with_reducible refine (impl_RuleOk.calls k a1_0 a1_1 a1_2 a1_3 a1_4 a1_5 a1_6 a1_7 a1_8 a1_9 a1_10 a1_11 a1_12 a1_13 a1_14 a1_15 a1_16 a1_17 a1_18 a1_19 a1_20 true _ A5.out).mono ?_); rintro e w100 ⟨rfl, hb⟩; have n0_ := Gv.a0 (Gv.bb BK412.out hb); have n1_ := Gv.a0 (Gv.bb BK413.out hb); have n2_ := Gv.a0 (below_step Gv.bw hb); clear BK412; clear BK413; clear HB; have BK412 := n0_; have BK413 := n1_; have HB := n2_; clear n0_ n1_ n2_; (try clear hb); (try clear hb2); (try clear hk); (try clear hi); obtain ⟨hcz101_0, hcz101_1, hcz101_2, hcz101_3, hcz101_4, hcz101_5, hcz101_6, hcz101_7, hcz101_8, hcz101_9, hcz101_10, hcz101_11, hcz101_12, hcz101_13, hcz101_14, hcz101_15, hcz101_16, hcz101_17, hcz101_18, hcz101_19, hcz101_20⟩ := Gv.c21 BK413.out; obtain ⟨hcz102_0, hcz102_1, hcz102_2, hcz102_3, hcz102_4, hcz102_5, hcz102_6, hcz102_7, hcz102_8, hcz102_9, hcz102_10, hcz102_11, hcz102_12, hcz102_13, hcz102_14, hcz102_15, hcz102_16, hcz102_17, hcz102_18, hcz102_19, hcz102_20⟩ := Gv.c21 BK412.out) | (go_at_call 57; (with_reducible refine (impl_PrefixIn.calls k a1_1 a1_2 a1_3 a1_4 a1_5 a1_6 a0_1 a0_2 a0_3 a0_4 a0_5 a0_6 true _ A7.out).mono ?_); rintro e w103 ⟨rfl, hb⟩; have n0_ := Gv.a0 (Gv.bb BK412.out hb); have n1_ := Gv.a0 (Gv.bb BK413.out hb); have n2_ := Gv.a0 (below_step Gv.bw hb); clear BK412; clear BK413; clear HB; have BK412 := n0_; have BK413 := n1_; have HB := n2_; clear n0_ n1_ n2_; (try clear hb); (try clear hb2); (try clear hk); (try clear hi); obtain ⟨hcz104_0, hcz104_1, hcz104_2, hcz104_3, hcz104_4, hcz104_5, hcz104_6, hcz104_7, hcz104_8, hcz104_9, hcz104_10, hcz104_11, hcz104_12, hcz104_13, hcz104_14, hcz104_15, hcz104_16, hcz104_17, hcz104_18, hcz104_19, hcz104_20⟩ := Gv.c21 BK413.out; obtain ⟨hcz105_0, hcz105_1, hcz105_2, hcz105_3, hcz105_4, hcz105_5, hcz105_6, hcz105_7, hcz105_8, hcz105_9, hcz105_10, hcz105_11, hcz105_12, hcz105_13, hcz105_14, hcz105_15, hcz105_16, hcz105_17, hcz105_18, hcz105_19, hcz105_20⟩ := Gv.c21 BK412.out) | (go_at_call 57; (with_reducible refine (impl_PrefixIn.calls k a1_7 a1_8 a1_9 a1_10 a1_11 a1_12 a0_7 a0_8 a0_9 a0_10 a0_11 a0_12 true _ A9.out).mono ?_); rintro e w106 ⟨rfl, hb⟩; have n0_ := Gv.a0 (Gv.bb BK412.out hb); have n1_ := Gv.a0 (Gv.bb BK413.out hb); have n2_ := Gv.a0 (below_step Gv.bw hb); clear BK412; clear BK413; clear HB; have BK412 := n0_; have BK413 := n1_; have HB := n2_; clear n0_ n1_ n2_; (try clear hb); (try clear hb2); (try clear hk); (try clear hi); obtain ⟨hcz107_0, hcz107_1, hcz107_2, hcz107_3, hcz107_4, hcz107_5, hcz107_6, hcz107_7, hcz107_8, hcz107_9, hcz107_10, hcz107_11, hcz107_12, hcz107_13, hcz107_14, hcz107_15, hcz107_16, hcz107_17, hcz107_18, hcz107_19, hcz107_20⟩ := Gv.c21 BK412.out; obtain ⟨hcz108_0, hcz108_1, hcz108_2, hcz108_3, hcz108_4, hcz108_5, hcz108_6, hcz108_7, hcz108_8, hcz108_9, hcz108_10, hcz108_11, hcz108_12, hcz108_13, hcz108_14, hcz108_15, hcz108_16, hcz108_17, hcz108_18, hcz108_19, hcz108_20⟩ := Gv.c21 BK413.out) | ((with_reducible refine Gv.gate_load (t := 55) rfl ?_); (try (refine gate_guard (by rfl) ?_; dsimp only)); refine wpList_load_row rfl 55 _ rfl gb412 rfl 55 _ _ _ (by first | exact Gv.kb0 BK412.out | exact Gv.kb1 (Gv.kb0 BK412.out)) Try.underlying55 rfl (by kernel_rfl) ?_) | ((with_reducible refine Gv.gate_load (t := 55) rfl ?_); (try (refine gate_guard (by rfl) ?_; dsimp only)); refine wpList_load_row rfl 55 _ rfl gb413 rfl 55 _ _ _ (by first | exact Gv.kb0 BK413.out | exact Gv.kb1 (Gv.kb0 BK413.out)) Try.underlying55 rfl (by kernel_rfl) ?_))
          go_ret
          exact ⟨Gv.rt, Gv.bw⟩
        ·rw [if_neg c77] at H
         have c77b0 : decide (a1_15 ≤ a0_15) = false := decide_eq_false c77
         clear c77
         obtain rfl := Option.some.inj H
         go_enter Try.func40, Try.ntmps40
         go_wp2_with (first | ((with_reducible refine gate_dst (N := 2) rfl ?_); refine box_event ?hg (N := 2) ?hd (cs := #[.int .i64 a0_0, .int .i64 a0_1, .int .i64 a0_2, .int .i64 a0_3, .int .i64 a0_4, .int .i64 a0_5, .int .i64 a0_6, .int .i64 a0_7, .int .i64 a0_8, .int .i64 a0_9, .int .i64 a0_10, .int .i64 a0_11, .int .i64 a0_12, .int .i64 a0_13, .int .i64 a0_14, .int .i64 a0_15, .int .i64 a0_16, .int .i64 a0_17, .int .i64 a0_18, .int .i64 a0_19, .int .i64 a0_20]) (t := 55) ?hr ?_; (case hd => rfl); (case hg => rfl); (case hr => first | (go_simp; done) | (go_simp; rfl)); intro gb412 hg w109 hbox hb; have n0_ := Gv.a0 (below_step Gv.bw hb); have n1_ := Gv.a0 (hbox); have n2_ := Gv.a0 ((Gv.ble hg Gv.bw : w.heap.size ≤ gb412)); have n3_ := Gv.a0 ((Gv.ble hg Gv.bw : w.heap.size ≤ gb412)); clear HB; have HB := n0_; have BK412 := n1_; have GW412 := n2_; have GE412 := n3_; clear n0_ n1_ n2_ n3_; clear hb hbox hg) | ((with_reducible refine gate_store (t := 55) (p := 2) rfl ?_); refine Gv.store_event rfl rfl rfl rfl rfl (Gv.kb BK412.out) (by kernel_rfl) rfl (by simp; and_intros <;> rfl) ?_; intro w109s hbox hoth hbel; have n0_ := Gv.a0 (hbox); have n1_ := Gv.a0 (hbel w Gv.bw GE412.out); clear BK412 HB; have BK412 := n0_; have HB := n1_; clear n0_ n1_ hbox hoth hbel) | ((with_reducible refine gate_dst (N := 3) rfl ?_); refine box_event ?hg (N := 3) ?hd (cs := #[.int .i64 a1_0, .int .i64 a1_1, .int .i64 a1_2, .int .i64 a1_3, .int .i64 a1_4, .int .i64 a1_5, .int .i64 a1_6, .int .i64 a1_7, .int .i64 a1_8, .int .i64 a1_9, .int .i64 a1_10, .int .i64 a1_11, .int .i64 a1_12, .int .i64 a1_13, .int .i64 a1_14, .int .i64 a1_15, .int .i64 a1_16, .int .i64 a1_17, .int .i64 a1_18, .int .i64 a1_19, .int .i64 a1_20]) (t := 55) ?hr ?_; (case hd => rfl); (case hg => rfl); (case hr => first | (go_simp; done) | (go_simp; rfl)); intro gb413 hg w110 hbox hb; have n0_ := Gv.a0 (Gv.bb BK412.out hb); have n1_ := Gv.a0 (below_step Gv.bw hb); have n2_ := Gv.a0 (hbox); have n3_ := Gv.a0 ((Gv.ble hg Gv.bw : w.heap.size ≤ gb413)); have n4_ := Gv.a0 ((Gv.ble hg Gv.bw : w.heap.size ≤ gb413)); have n5_ := Gv.a0 ((Gv.nlt hg (Gv.kb BK412.out) : gb412 ≠ gb413)); have n6_ := Gv.a0 ((Gv.ngt hg (Gv.kb BK412.out) : gb413 ≠ gb412)); clear BK412; clear HB; have BK412 := n0_; have HB := n1_; have BK413 := n2_; have GW413 := n3_; have GE413 := n4_; have NB412_413 := n5_; have NB413_412 := n6_; clear n0_ n1_ n2_ n3_ n4_ n5_ n6_; clear hb hbox hg; have hnb111 := NB412_413.out; have hnc111 := NB413_412.out; obtain ⟨hcz112_0, hcz112_1, hcz112_2, hcz112_3, hcz112_4, hcz112_5, hcz112_6, hcz112_7, hcz112_8, hcz112_9, hcz112_10, hcz112_11, hcz112_12, hcz112_13, hcz112_14, hcz112_15, hcz112_16, hcz112_17, hcz112_18, hcz112_19, hcz112_20⟩ := Gv.c21 BK412.out) | ((with_reducible refine gate_store (t := 55) (p := 3) rfl ?_); refine Gv.store_event rfl rfl rfl rfl rfl (Gv.kb BK413.out) (by kernel_rfl) rfl (by simp; and_intros <;> rfl) ?_; intro w110s hbox hoth hbel; have n0_ := Gv.a0 (hbox); have n1_ := Gv.a0 (hbel w Gv.bw GE413.out); have n2_ := Gv.a0 ((hoth gb412 NB412_413.out).trans (Gv.kb BK412.out)); clear BK413 HB BK412; have BK413 := n0_; have HB := n1_; have BK412 := n2_; clear n0_ n1_ n2_ hbox hoth hbel; (try clear hcz112_0 hcz112_1 hcz112_2 hcz112_3 hcz112_4 hcz112_5 hcz112_6 hcz112_7 hcz112_8 hcz112_9 hcz112_10 hcz112_11 hcz112_12 hcz112_13 hcz112_14 hcz112_15 hcz112_16 hcz112_17 hcz112_18 hcz112_19 hcz112_20); obtain ⟨hcz112_0, hcz112_1, hcz112_2, hcz112_3, hcz112_4, hcz112_5, hcz112_6, hcz112_7, hcz112_8, hcz112_9, hcz112_10, hcz112_11, hcz112_12, hcz112_13, hcz112_14, hcz112_15, hcz112_16, hcz112_17, hcz112_18, hcz112_19, hcz112_20⟩ := Gv.c21 BK412.out) | ((with_reducible refine gate_callee (f := 29) rfl ?_); refine goesL_ (some 6) rfl rfl Try.func29 (by kernel_rfl) rfl #[.agg #[.int .i64 a0_0, .int .i64 a0_1, .int .i64 a0_2, .int .i64 a0_3, .int .i64 a0_4, .int .i64 a0_5, .int .i64 a0_6, .int .i64 a0_7, .int .i64 a0_8, .int .i64 a0_9, .int .i64 a0_10, .int .i64 a0_11, .int .i64 a0_12, .int .i64 a0_13, .int .i64 a0_14, .int .i64 a0_15, .int .i64 a0_16, .int .i64 a0_17, .int .i64 a0_18, .int .i64 a0_19, .int .i64 a0_20]] rfl Gv.lm ?_; (with_reducible refine (impl_RuleOk.calls k a0_0 a0_1 a0_2 a0_3 a0_4 a0_5 a0_6 a0_7 a0_8 a0_9 a0_10 a0_11 a0_12 a0_13 a0_14 a0_15 a0_16 a0_17 a0_18 a0_19 a0_20 true _ A3.out).mono ?_); rintro e w113 ⟨rfl, hb⟩; refine ⟨_, rfl, ?_⟩; have n0_ := Gv.a0 (Gv.bb BK412.out hb); have n1_ := Gv.a0 (Gv.bb BK413.out hb); have n2_ := Gv.a0 (below_step Gv.bw hb); clear BK412; clear BK413; clear HB; have BK412 := n0_; have BK413 := n1_; have HB := n2_; clear n0_ n1_ n2_; (try clear hb); (try clear hb2); (try clear hk); (try clear hi); obtain ⟨hcz114_0, hcz114_1, hcz114_2, hcz114_3, hcz114_4, hcz114_5, hcz114_6, hcz114_7, hcz114_8, hcz114_9, hcz114_10, hcz114_11, hcz114_12, hcz114_13, hcz114_14, hcz114_15, hcz114_16, hcz114_17, hcz114_18, hcz114_19, hcz114_20⟩ := Gv.c21 BK413.out) | (go_at_call 29; (with_reducible refine (impl_RuleOk.calls k a1_0 a1_1 a1_2 a1_3 a1_4 a1_5 a1_6 a1_7 a1_8 a1_9 a1_10 a1_11 a1_12 a1_13 a1_14 a1_15 a1_16 a1_17 a1_18 a1_19 a1_20 true _ A5.out).mono ?_); rintro e w115 ⟨rfl, hb⟩; have n0_ := Gv.a0 (Gv.bb BK412.out hb); have n1_ := Gv.a0 (Gv.bb BK413.out hb); have n2_ := Gv.a0 (below_step Gv.bw hb); clear BK412; clear BK413; clear HB; have BK412 := n0_; have BK413 := n1_; have HB := n2_; clear n0_ n1_ n2_; (try clear hb); (try clear hb2); (try clear hk); (try clear hi); obtain ⟨hcz116_0, hcz116_1, hcz116_2, hcz116_3, hcz116_4, hcz116_5, hcz116_6, hcz116_7, hcz116_8, hcz116_9, hcz116_10, hcz116_11, hcz116_12, hcz116_13, hcz116_14, hcz116_15, hcz116_16, hcz116_17, hcz116_18, hcz116_19, hcz116_20⟩ := Gv.c21 BK413.out; obtain ⟨hcz117_0, hcz117_1, hcz117_2, hcz117_3, hcz117_4, hcz117_5, hcz117_6, hcz117_7, hcz117_8, hcz117_9, hcz117_10, hcz117_11, hcz117_12, hcz117_13, hcz117_14, hcz117_15, hcz117_16, hcz117_17, hcz117_18, hcz117_19, hcz117_20⟩ := Gv.c21 BK412.out) | (go_at_call 57; (with_reducible refine (impl_PrefixIn.calls k a1_1 a1_2 a1_3 a1_4 a1_5 a1_6 a0_1 a0_2 a0_3 a0_4 a0_5 a0_6 true _ A7.out).mono ?_); rintro e w118 ⟨rfl, hb⟩; have n0_ := Gv.a0 (Gv.bb BK412.out hb); have n1_ := Gv.a0 (Gv.bb BK413.out hb); have n2_ := Gv.a0 (below_step Gv.bw hb); clear BK412; clear BK413; clear HB; have BK412 := n0_; have BK413 := n1_; have HB := n2_; clear n0_ n1_ n2_; (try clear hb); (try clear hb2); (try clear hk); (try clear hi); obtain ⟨hcz119_0, hcz119_1, hcz119_2, hcz119_3, hcz119_4, hcz119_5, hcz119_6, hcz119_7, hcz119_8, hcz119_9, hcz119_10, hcz119_11, hcz119_12, hcz119_13, hcz119_14, hcz119_15, hcz119_16, hcz119_17, hcz119_18, hcz119_19, hcz119_20⟩ := Gv.c21 BK413.out; obtain ⟨hcz120_0, hcz120_1, hcz120_2, hcz120_3, hcz120_4, hcz120_5, hcz120_6, hcz120_7, hcz120_8, hcz120_9, hcz120_10, hcz120_11, hcz120_12, hcz120_13, hcz120_14, hcz120_15, hcz120_16, hcz120_17, hcz120_18, hcz120_19, hcz120_20⟩ := Gv.c21 BK412.out) | (go_at_call 57; (with_reducible refine (impl_PrefixIn.calls k a1_7 a1_8 a1_9 a1_10 a1_11 a1_12 a0_7 a0_8 a0_9 a0_10 a0_11 a0_12 true _ A9.out).mono ?_); rintro e w121 ⟨rfl, hb⟩; have n0_ := Gv.a0 (Gv.bb BK412.out hb); have n1_ := Gv.a0 (Gv.bb BK413.out hb); have n2_ := Gv.a0 (below_step Gv.bw hb); clear BK412; clear BK413; clear HB; have BK412 := n0_; have BK413 := n1_; have HB := n2_; clear n0_ n1_ n2_; (try clear hb); (try clear hb2); (try clear hk); (try clear hi); obtain ⟨hcz122_0, hcz122_1, hcz122_2, hcz122_3, hcz122_4, hcz122_5, hcz122_6, hcz122_7, hcz122_8, hcz122_9, hcz122_10, hcz122_11, hcz122_12, hcz122_13, hcz122_14, hcz122_15, hcz122_16, hcz122_17, hcz122_18, hcz122_19, hcz122_20⟩ := Gv.c21 BK412.out; obtain ⟨hcz123_0, hcz123_1, hcz123_2, hcz123_3, hcz123_4, hcz123_5, hcz123_6, hcz123_7, hcz123_8, hcz123_9, hcz123_10, hcz123_11, hcz123_12, hcz123_13, hcz123_14, hcz123_15, hcz123_16, hcz123_17, hcz123_18, hcz123_19, hcz123_20⟩ := Gv.c21 BK413.out) | ((with_reducible refine Gv.gate_load (t := 55) rfl ?_); (try (refine gate_guard (by rfl) ?_; dsimp only)); refine wpList_load_row rfl 55 _ rfl gb412 rfl 55 _ _ _ (by first | exact Gv.kb0 BK412.out | exact Gv.kb1 (Gv.kb0 BK412.out)) Try.underlying55 rfl (by kernel_rfl) ?_) | ((with_reducible refine Gv.gate_load (t := 55) rfl ?_); (try (refine gate_guard (by rfl) ?_; dsimp only)); refine wpList_load_row rfl 55 _ rfl gb413 rfl 55 _ _ _ (by first | exact Gv.kb0 BK413.out | exact Gv.kb1 (Gv.kb0 BK413.out)) Try.underlying55 rfl (by kernel_rfl) ?_))
         go_ret
         exact ⟨Gv.rt, Gv.bw⟩
       ·rw [if_neg c76] at H
        have c76b0 : decide (a0_14 ≤ a1_14) = false := decide_eq_false c76
        clear c76
        obtain rfl := Option.some.inj H
        go_enter Try.func40, Try.ntmps40
        go_wp2_with (first | ((with_reducible refine gate_dst (N := 2) rfl ?_); refine box_event ?hg (N := 2) ?hd (cs := #[.int .i64 a0_0, .int .i64 a0_1, .int .i64 a0_2, .int .i64 a0_3, .int .i64 a0_4, .int .i64 a0_5, .int .i64 a0_6, .int .i64 a0_7, .int .i64 a0_8, .int .i64 a0_9, .int .i64 a0_10, .int .i64 a0_11, .int .i64 a0_12, .int .i64 a0_13, .int .i64 a0_14, .int .i64 a0_15, .int .i64 a0_16, .int .i64 a0_17, .int .i64 a0_18, .int .i64 a0_19, .int .i64 a0_20]) (t := 55) ?hr ?_; (case hd => rfl); (case hg => rfl); (case hr => first | (go_simp; done) | (go_simp; rfl)); intro gb412 hg w124 hbox hb; have n0_ := Gv.a0 (below_step Gv.bw hb); have n1_ := Gv.a0 (hbox); have n2_ := Gv.a0 ((Gv.ble hg Gv.bw : w.heap.size ≤ gb412)); have n3_ := Gv.a0 ((Gv.ble hg Gv.bw : w.heap.size ≤ gb412)); clear HB; have HB := n0_; have BK412 := n1_; have GW412 := n2_; have GE412 := n3_; clear n0_ n1_ n2_ n3_; clear hb hbox hg) | ((with_reducible refine gate_store (t := 55) (p := 2) rfl ?_); refine Gv.store_event rfl rfl rfl rfl rfl (Gv.kb BK412.out) (by kernel_rfl) rfl (by simp; and_intros <;> rfl) ?_; intro w124s hbox hoth hbel; have n0_ := Gv.a0 (hbox); have n1_ := Gv.a0 (hbel w Gv.bw GE412.out); clear BK412 HB; have BK412 := n0_; have HB := n1_; clear n0_ n1_ hbox hoth hbel) | ((with_reducible refine gate_dst (N := 3) rfl ?_); refine box_event ?hg (N := 3) ?hd (cs := #[.int .i64 a1_0, .int .i64 a1_1, .int .i64 a1_2, .int .i64 a1_3, .int .i64 a1_4, .int .i64 a1_5, .int .i64 a1_6, .int .i64 a1_7, .int .i64 a1_8, .int .i64 a1_9, .int .i64 a1_10, .int .i64 a1_11, .int .i64 a1_12, .int .i64 a1_13, .int .i64 a1_14, .int .i64 a1_15, .int .i64 a1_16, .int .i64 a1_17, .int .i64 a1_18, .int .i64 a1_19, .int .i64 a1_20]) (t := 55) ?hr ?_; (case hd => rfl); (case hg => rfl); (case hr => first | (go_simp; done) | (go_simp; rfl)); intro gb413 hg w125 hbox hb; have n0_ := Gv.a0 (Gv.bb BK412.out hb); have n1_ := Gv.a0 (below_step Gv.bw hb); have n2_ := Gv.a0 (hbox); have n3_ := Gv.a0 ((Gv.ble hg Gv.bw : w.heap.size ≤ gb413)); have n4_ := Gv.a0 ((Gv.ble hg Gv.bw : w.heap.size ≤ gb413)); have n5_ := Gv.a0 ((Gv.nlt hg (Gv.kb BK412.out) : gb412 ≠ gb413)); have n6_ := Gv.a0 ((Gv.ngt hg (Gv.kb BK412.out) : gb413 ≠ gb412)); clear BK412; clear HB; have BK412 := n0_; have HB := n1_; have BK413 := n2_; have GW413 := n3_; have GE413 := n4_; have NB412_413 := n5_; have NB413_412 := n6_; clear n0_ n1_ n2_ n3_ n4_ n5_ n6_; clear hb hbox hg; have hnb126 := NB412_413.out; have hnc126 := NB413_412.out; obtain ⟨hcz127_0, hcz127_1, hcz127_2, hcz127_3, hcz127_4, hcz127_5, hcz127_6, hcz127_7, hcz127_8, hcz127_9, hcz127_10, hcz127_11, hcz127_12, hcz127_13, hcz127_14, hcz127_15, hcz127_16, hcz127_17, hcz127_18, hcz127_19, hcz127_20⟩ := Gv.c21 BK412.out) | ((with_reducible refine gate_store (t := 55) (p := 3) rfl ?_); refine Gv.store_event rfl rfl rfl rfl rfl (Gv.kb BK413.out) (by kernel_rfl) rfl (by simp; and_intros <;> rfl) ?_; intro w125s hbox hoth hbel; have n0_ := Gv.a0 (hbox); have n1_ := Gv.a0 (hbel w Gv.bw GE413.out); have n2_ := Gv.a0 ((hoth gb412 NB412_413.out).trans (Gv.kb BK412.out)); clear BK413 HB BK412; have BK413 := n0_; have HB := n1_; have BK412 := n2_; clear n0_ n1_ n2_ hbox hoth hbel; (try clear hcz127_0 hcz127_1 hcz127_2 hcz127_3 hcz127_4 hcz127_5 hcz127_6 hcz127_7 hcz127_8 hcz127_9 hcz127_10 hcz127_11 hcz127_12 hcz127_13 hcz127_14 hcz127_15 hcz127_16 hcz127_17 hcz127_18 hcz127_19 hcz127_20); obtain ⟨hcz127_0, hcz127_1, hcz127_2, hcz127_3, hcz127_4, hcz127_5, hcz127_6, hcz127_7, hcz127_8, hcz127_9, hcz127_10, hcz127_11, hcz127_12, hcz127_13, hcz127_14, hcz127_15, hcz127_16, hcz127_17, hcz127_18, hcz127_19, hcz127_20⟩ := Gv.c21 BK412.out) | ((with_reducible refine gate_callee (f := 29) rfl ?_); refine goesL_ (some 6) rfl rfl Try.func29 (by kernel_rfl) rfl #[.agg #[.int .i64 a0_0, .int .i64 a0_1, .int .i64 a0_2, .int .i64 a0_3, .int .i64 a0_4, .int .i64 a0_5, .int .i64 a0_6, .int .i64 a0_7, .int .i64 a0_8, .int .i64 a0_9, .int .i64 a0_10, .int .i64 a0_11, .int .i64 a0_12, .int .i64 a0_13, .int .i64 a0_14, .int .i64 a0_15, .int .i64 a0_16, .int .i64 a0_17, .int .i64 a0_18, .int .i64 a0_19, .int .i64 a0_20]] rfl Gv.lm ?_; (with_reducible refine (impl_RuleOk.calls k a0_0 a0_1 a0_2 a0_3 a0_4 a0_5 a0_6 a0_7 a0_8 a0_9 a0_10 a0_11 a0_12 a0_13 a0_14 a0_15 a0_16 a0_17 a0_18 a0_19 a0_20 true _ A3.out).mono ?_); rintro e w128 ⟨rfl, hb⟩; refine ⟨_, rfl, ?_⟩; have n0_ := Gv.a0 (Gv.bb BK412.out hb); have n1_ := Gv.a0 (Gv.bb BK413.out hb); have n2_ := Gv.a0 (below_step Gv.bw hb); clear BK412; clear BK413; clear HB; have BK412 := n0_; have BK413 := n1_; have HB := n2_; clear n0_ n1_ n2_; (try clear hb); (try clear hb2); (try clear hk); (try clear hi); obtain ⟨hcz129_0, hcz129_1, hcz129_2, hcz129_3, hcz129_4, hcz129_5, hcz129_6, hcz129_7, hcz129_8, hcz129_9, hcz129_10, hcz129_11, hcz129_12, hcz129_13, hcz129_14, hcz129_15, hcz129_16, hcz129_17, hcz129_18, hcz129_19, hcz129_20⟩ := Gv.c21 BK413.out) | (go_at_call 29; (with_reducible refine (impl_RuleOk.calls k a1_0 a1_1 a1_2 a1_3 a1_4 a1_5 a1_6 a1_7 a1_8 a1_9 a1_10 a1_11 a1_12 a1_13 a1_14 a1_15 a1_16 a1_17 a1_18 a1_19 a1_20 true _ A5.out).mono ?_); rintro e w130 ⟨rfl, hb⟩; have n0_ := Gv.a0 (Gv.bb BK412.out hb); have n1_ := Gv.a0 (Gv.bb BK413.out hb); have n2_ := Gv.a0 (below_step Gv.bw hb); clear BK412; clear BK413; clear HB; have BK412 := n0_; have BK413 := n1_; have HB := n2_; clear n0_ n1_ n2_; (try clear hb); (try clear hb2); (try clear hk); (try clear hi); obtain ⟨hcz131_0, hcz131_1, hcz131_2, hcz131_3, hcz131_4, hcz131_5, hcz131_6, hcz131_7, hcz131_8, hcz131_9, hcz131_10, hcz131_11, hcz131_12, hcz131_13, hcz131_14, hcz131_15, hcz131_16, hcz131_17, hcz131_18, hcz131_19, hcz131_20⟩ := Gv.c21 BK413.out; obtain ⟨hcz132_0, hcz132_1, hcz132_2, hcz132_3, hcz132_4, hcz132_5, hcz132_6, hcz132_7, hcz132_8, hcz132_9, hcz132_10, hcz132_11, hcz132_12, hcz132_13, hcz132_14, hcz132_15, hcz132_16, hcz132_17, hcz132_18, hcz132_19, hcz132_20⟩ := Gv.c21 BK412.out) | (go_at_call 57; (with_reducible refine (impl_PrefixIn.calls k a1_1 a1_2 a1_3 a1_4 a1_5 a1_6 a0_1 a0_2 a0_3 a0_4 a0_5 a0_6 true _ A7.out).mono ?_); rintro e w133 ⟨rfl, hb⟩; have n0_ := Gv.a0 (Gv.bb BK412.out hb); have n1_ := Gv.a0 (Gv.bb BK413.out hb); have n2_ := Gv.a0 (below_step Gv.bw hb); clear BK412; clear BK413; clear HB; have BK412 := n0_; have BK413 := n1_; have HB := n2_; clear n0_ n1_ n2_; (try clear hb); (try clear hb2); (try clear hk); (try clear hi); obtain ⟨hcz134_0, hcz134_1, hcz134_2, hcz134_3, hcz134_4, hcz134_5, hcz134_6, hcz134_7, hcz134_8, hcz134_9, hcz134_10, hcz134_11, hcz134_12, hcz134_13, hcz134_14, hcz134_15, hcz134_16, hcz134_17, hcz134_18, hcz134_19, hcz134_20⟩ := Gv.c21 BK413.out; obtain ⟨hcz135_0, hcz135_1, hcz135_2, hcz135_3, hcz135_4, hcz135_5, hcz135_6, hcz135_7, hcz135_8, hcz135_9, hcz135_10, hcz135_11, hcz135_12, hcz135_13, hcz135_14, hcz135_15, hcz135_16, hcz135_17, hcz135_18, hcz135_19, hcz135_20⟩ := Gv.c21 BK412.out) | (go_at_call 57; (with_reducible refine (impl_PrefixIn.calls k a1_7 a1_8 a1_9 a1_10 a1_11 a1_12 a0_7 a0_8 a0_9 a0_10 a0_11 a0_12 true _ A9.out).mono ?_); rintro e w136 ⟨rfl, hb⟩; have n0_ := Gv.a0 (Gv.bb BK412.out hb); have n1_ := Gv.a0 (Gv.bb BK413.out hb); have n2_ := Gv.a0 (below_step Gv.bw hb); clear BK412; clear BK413; clear HB; have BK412 := n0_; have BK413 := n1_; have HB := n2_; clear n0_ n1_ n2_; (try clear hb); (try clear hb2); (try clear hk); (try clear hi); obtain ⟨hcz137_0, hcz137_1, hcz137_2, hcz137_3, hcz137_4, hcz137_5, hcz137_6, hcz137_7, hcz137_8, hcz137_9, hcz137_10, hcz137_11, hcz137_12, hcz137_13, hcz137_14, hcz137_15, hcz137_16, hcz137_17, hcz137_18, hcz137_19, hcz137_20⟩ := Gv.c21 BK412.out; obtain ⟨hcz138_0, hcz138_1, hcz138_2, hcz138_3, hcz138_4, hcz138_5, hcz138_6, hcz138_7, hcz138_8, hcz138_9, hcz138_10, hcz138_11, hcz138_12, hcz138_13, hcz138_14, hcz138_15, hcz138_16, hcz138_17, hcz138_18, hcz138_19, hcz138_20⟩ := Gv.c21 BK413.out) | ((with_reducible refine Gv.gate_load (t := 55) rfl ?_); (try (refine gate_guard (by rfl) ?_; dsimp only)); refine wpList_load_row rfl 55 _ rfl gb412 rfl 55 _ _ _ (by first | exact Gv.kb0 BK412.out | exact Gv.kb1 (Gv.kb0 BK412.out)) Try.underlying55 rfl (by kernel_rfl) ?_) | ((with_reducible refine Gv.gate_load (t := 55) rfl ?_); (try (refine gate_guard (by rfl) ?_; dsimp only)); refine wpList_load_row rfl 55 _ rfl gb413 rfl 55 _ _ _ (by first | exact Gv.kb0 BK413.out | exact Gv.kb1 (Gv.kb0 BK413.out)) Try.underlying55 rfl (by kernel_rfl) ?_))
        go_ret
        exact ⟨Gv.rt, Gv.bw⟩
      ·rw [if_neg c75] at H
       have c75b0 : (a0_13 == a1_13) = false := beq_eq_false_iff_ne.mpr c75
       have c75b1 : (a0_13 != a1_13) = true := bne_iff_ne.mpr c75
       obtain rfl := Option.some.inj H
       go_enter Try.func40, Try.ntmps40
       go_wp2_with (first | ((with_reducible refine gate_dst (N := 2) rfl ?_); refine box_event ?hg (N := 2) ?hd (cs := #[.int .i64 a0_0, .int .i64 a0_1, .int .i64 a0_2, .int .i64 a0_3, .int .i64 a0_4, .int .i64 a0_5, .int .i64 a0_6, .int .i64 a0_7, .int .i64 a0_8, .int .i64 a0_9, .int .i64 a0_10, .int .i64 a0_11, .int .i64 a0_12, .int .i64 a0_13, .int .i64 a0_14, .int .i64 a0_15, .int .i64 a0_16, .int .i64 a0_17, .int .i64 a0_18, .int .i64 a0_19, .int .i64 a0_20]) (t := 55) ?hr ?_; (case hd => rfl); (case hg => rfl); (case hr => first | (go_simp; done) | (go_simp; rfl)); intro gb412 hg w139 hbox hb; have n0_ := Gv.a0 (below_step Gv.bw hb); have n1_ := Gv.a0 (hbox); have n2_ := Gv.a0 ((Gv.ble hg Gv.bw : w.heap.size ≤ gb412)); have n3_ := Gv.a0 ((Gv.ble hg Gv.bw : w.heap.size ≤ gb412)); clear HB; have HB := n0_; have BK412 := n1_; have GW412 := n2_; have GE412 := n3_; clear n0_ n1_ n2_ n3_; clear hb hbox hg) | ((with_reducible refine gate_store (t := 55) (p := 2) rfl ?_); refine Gv.store_event rfl rfl rfl rfl rfl (Gv.kb BK412.out) (by kernel_rfl) rfl (by simp; and_intros <;> rfl) ?_; intro w139s hbox hoth hbel; have n0_ := Gv.a0 (hbox); have n1_ := Gv.a0 (hbel w Gv.bw GE412.out); clear BK412 HB; have BK412 := n0_; have HB := n1_; clear n0_ n1_ hbox hoth hbel) | ((with_reducible refine gate_dst (N := 3) rfl ?_); refine box_event ?hg (N := 3) ?hd (cs := #[.int .i64 a1_0, .int .i64 a1_1, .int .i64 a1_2, .int .i64 a1_3, .int .i64 a1_4, .int .i64 a1_5, .int .i64 a1_6, .int .i64 a1_7, .int .i64 a1_8, .int .i64 a1_9, .int .i64 a1_10, .int .i64 a1_11, .int .i64 a1_12, .int .i64 a1_13, .int .i64 a1_14, .int .i64 a1_15, .int .i64 a1_16, .int .i64 a1_17, .int .i64 a1_18, .int .i64 a1_19, .int .i64 a1_20]) (t := 55) ?hr ?_; (case hd => rfl); (case hg => rfl); (case hr => first | (go_simp; done) | (go_simp; rfl)); intro gb413 hg w140 hbox hb; have n0_ := Gv.a0 (Gv.bb BK412.out hb); have n1_ := Gv.a0 (below_step Gv.bw hb); have n2_ := Gv.a0 (hbox); have n3_ := Gv.a0 ((Gv.ble hg Gv.bw : w.heap.size ≤ gb413)); have n4_ := Gv.a0 ((Gv.ble hg Gv.bw : w.heap.size ≤ gb413)); have n5_ := Gv.a0 ((Gv.nlt hg (Gv.kb BK412.out) : gb412 ≠ gb413)); have n6_ := Gv.a0 ((Gv.ngt hg (Gv.kb BK412.out) : gb413 ≠ gb412)); clear BK412; clear HB; have BK412 := n0_; have HB := n1_; have BK413 := n2_; have GW413 := n3_; have GE413 := n4_; have NB412_413 := n5_; have NB413_412 := n6_; clear n0_ n1_ n2_ n3_ n4_ n5_ n6_; clear hb hbox hg; have hnb141 := NB412_413.out; have hnc141 := NB413_412.out; obtain ⟨hcz142_0, hcz142_1, hcz142_2, hcz142_3, hcz142_4, hcz142_5, hcz142_6, hcz142_7, hcz142_8, hcz142_9, hcz142_10, hcz142_11, hcz142_12, hcz142_13, hcz142_14, hcz142_15, hcz142_16, hcz142_17, hcz142_18, hcz142_19, hcz142_20⟩ := Gv.c21 BK412.out) | ((with_reducible refine gate_store (t := 55) (p := 3) rfl ?_); refine Gv.store_event rfl rfl rfl rfl rfl (Gv.kb BK413.out) (by kernel_rfl) rfl (by simp; and_intros <;> rfl) ?_; intro w140s hbox hoth hbel; have n0_ := Gv.a0 (hbox); have n1_ := Gv.a0 (hbel w Gv.bw GE413.out); have n2_ := Gv.a0 ((hoth gb412 NB412_413.out).trans (Gv.kb BK412.out)); clear BK413 HB BK412; have BK413 := n0_; have HB := n1_; have BK412 := n2_; clear n0_ n1_ n2_ hbox hoth hbel; (try clear hcz142_0 hcz142_1 hcz142_2 hcz142_3 hcz142_4 hcz142_5 hcz142_6 hcz142_7 hcz142_8 hcz142_9 hcz142_10 hcz142_11 hcz142_12 hcz142_13 hcz142_14 hcz142_15 hcz142_16 hcz142_17 hcz142_18 hcz142_19 hcz142_20); obtain ⟨hcz142_0, hcz142_1, hcz142_2, hcz142_3, hcz142_4, hcz142_5, hcz142_6, hcz142_7, hcz142_8, hcz142_9, hcz142_10, hcz142_11, hcz142_12, hcz142_13, hcz142_14, hcz142_15, hcz142_16, hcz142_17, hcz142_18, hcz142_19, hcz142_20⟩ := Gv.c21 BK412.out) | ((with_reducible refine gate_callee (f := 29) rfl ?_); refine goesL_ (some 6) rfl rfl Try.func29 (by kernel_rfl) rfl #[.agg #[.int .i64 a0_0, .int .i64 a0_1, .int .i64 a0_2, .int .i64 a0_3, .int .i64 a0_4, .int .i64 a0_5, .int .i64 a0_6, .int .i64 a0_7, .int .i64 a0_8, .int .i64 a0_9, .int .i64 a0_10, .int .i64 a0_11, .int .i64 a0_12, .int .i64 a0_13, .int .i64 a0_14, .int .i64 a0_15, .int .i64 a0_16, .int .i64 a0_17, .int .i64 a0_18, .int .i64 a0_19, .int .i64 a0_20]] rfl Gv.lm ?_; (with_reducible refine (impl_RuleOk.calls k a0_0 a0_1 a0_2 a0_3 a0_4 a0_5 a0_6 a0_7 a0_8 a0_9 a0_10 a0_11 a0_12 a0_13 a0_14 a0_15 a0_16 a0_17 a0_18 a0_19 a0_20 true _ A3.out).mono ?_); rintro e w143 ⟨rfl, hb⟩; refine ⟨_, rfl, ?_⟩; have n0_ := Gv.a0 (Gv.bb BK412.out hb); have n1_ := Gv.a0 (Gv.bb BK413.out hb); have n2_ := Gv.a0 (below_step Gv.bw hb); clear BK412; clear BK413; clear HB; have BK412 := n0_; have BK413 := n1_; have HB := n2_; clear n0_ n1_ n2_; (try clear hb); (try clear hb2); (try clear hk); (try clear hi); obtain ⟨hcz144_0, hcz144_1, hcz144_2, hcz144_3, hcz144_4, hcz144_5, hcz144_6, hcz144_7, hcz144_8, hcz144_9, hcz144_10, hcz144_11, hcz144_12, hcz144_13, hcz144_14, hcz144_15, hcz144_16, hcz144_17, hcz144_18, hcz144_19, hcz144_20⟩ := Gv.c21 BK413.out) | (go_at_call 29; (with_reducible refine (impl_RuleOk.calls k a1_0 a1_1 a1_2 a1_3 a1_4 a1_5 a1_6 a1_7 a1_8 a1_9 a1_10 a1_11 a1_12 a1_13 a1_14 a1_15 a1_16 a1_17 a1_18 a1_19 a1_20 true _ A5.out).mono ?_); rintro e w145 ⟨rfl, hb⟩; have n0_ := Gv.a0 (Gv.bb BK412.out hb); have n1_ := Gv.a0 (Gv.bb BK413.out hb); have n2_ := Gv.a0 (below_step Gv.bw hb); clear BK412; clear BK413; clear HB; have BK412 := n0_; have BK413 := n1_; have HB := n2_; clear n0_ n1_ n2_; (try clear hb); (try clear hb2); (try clear hk); (try clear hi); obtain ⟨hcz146_0, hcz146_1, hcz146_2, hcz146_3, hcz146_4, hcz146_5, hcz146_6, hcz146_7, hcz146_8, hcz146_9, hcz146_10, hcz146_11, hcz146_12, hcz146_13, hcz146_14, hcz146_15, hcz146_16, hcz146_17, hcz146_18, hcz146_19, hcz146_20⟩ := Gv.c21 BK413.out; obtain ⟨hcz147_0, hcz147_1, hcz147_2, hcz147_3, hcz147_4, hcz147_5, hcz147_6, hcz147_7, hcz147_8, hcz147_9, hcz147_10, hcz147_11, hcz147_12, hcz147_13, hcz147_14, hcz147_15, hcz147_16, hcz147_17, hcz147_18, hcz147_19, hcz147_20⟩ := Gv.c21 BK412.out) | (go_at_call 57; (with_reducible refine (impl_PrefixIn.calls k a1_1 a1_2 a1_3 a1_4 a1_5 a1_6 a0_1 a0_2 a0_3 a0_4 a0_5 a0_6 true _ A7.out).mono ?_); rintro e w148 ⟨rfl, hb⟩; have n0_ := Gv.a0 (Gv.bb BK412.out hb); have n1_ := Gv.a0 (Gv.bb BK413.out hb); have n2_ := Gv.a0 (below_step Gv.bw hb); clear BK412; clear BK413; clear HB; have BK412 := n0_; have BK413 := n1_; have HB := n2_; clear n0_ n1_ n2_; (try clear hb); (try clear hb2); (try clear hk); (try clear hi); obtain ⟨hcz149_0, hcz149_1, hcz149_2, hcz149_3, hcz149_4, hcz149_5, hcz149_6, hcz149_7, hcz149_8, hcz149_9, hcz149_10, hcz149_11, hcz149_12, hcz149_13, hcz149_14, hcz149_15, hcz149_16, hcz149_17, hcz149_18, hcz149_19, hcz149_20⟩ := Gv.c21 BK413.out; obtain ⟨hcz150_0, hcz150_1, hcz150_2, hcz150_3, hcz150_4, hcz150_5, hcz150_6, hcz150_7, hcz150_8, hcz150_9, hcz150_10, hcz150_11, hcz150_12, hcz150_13, hcz150_14, hcz150_15, hcz150_16, hcz150_17, hcz150_18, hcz150_19, hcz150_20⟩ := Gv.c21 BK412.out) | (go_at_call 57; (with_reducible refine (impl_PrefixIn.calls k a1_7 a1_8 a1_9 a1_10 a1_11 a1_12 a0_7 a0_8 a0_9 a0_10 a0_11 a0_12 true _ A9.out).mono ?_); rintro e w151 ⟨rfl, hb⟩; have n0_ := Gv.a0 (Gv.bb BK412.out hb); have n1_ := Gv.a0 (Gv.bb BK413.out hb); have n2_ := Gv.a0 (below_step Gv.bw hb); clear BK412; clear BK413; clear HB; have BK412 := n0_; have BK413 := n1_; have HB := n2_; clear n0_ n1_ n2_; (try clear hb); (try clear hb2); (try clear hk); (try clear hi); obtain ⟨hcz152_0, hcz152_1, hcz152_2, hcz152_3, hcz152_4, hcz152_5, hcz152_6, hcz152_7, hcz152_8, hcz152_9, hcz152_10, hcz152_11, hcz152_12, hcz152_13, hcz152_14, hcz152_15, hcz152_16, hcz152_17, hcz152_18, hcz152_19, hcz152_20⟩ := Gv.c21 BK412.out; obtain ⟨hcz153_0, hcz153_1, hcz153_2, hcz153_3, hcz153_4, hcz153_5, hcz153_6, hcz153_7, hcz153_8, hcz153_9, hcz153_10, hcz153_11, hcz153_12, hcz153_13, hcz153_14, hcz153_15, hcz153_16, hcz153_17, hcz153_18, hcz153_19, hcz153_20⟩ := Gv.c21 BK413.out) | ((with_reducible refine Gv.gate_load (t := 55) rfl ?_); (try (refine gate_guard (by rfl) ?_; dsimp only)); refine wpList_load_row rfl 55 _ rfl gb412 rfl 55 _ _ _ (by first | exact Gv.kb0 BK412.out | exact Gv.kb1 (Gv.kb0 BK412.out)) Try.underlying55 rfl (by kernel_rfl) ?_) | ((with_reducible refine Gv.gate_load (t := 55) rfl ?_); (try (refine gate_guard (by rfl) ?_; dsimp only)); refine wpList_load_row rfl 55 _ rfl gb413 rfl 55 _ _ _ (by first | exact Gv.kb0 BK413.out | exact Gv.kb1 (Gv.kb0 BK413.out)) Try.underlying55 rfl (by kernel_rfl) ?_))
       go_ret
       exact ⟨Gv.rt, Gv.bw⟩
    ·replace c10 := Bool.eq_false_iff.mpr c10
     subst c10
     have H1 : (some false) = some r := by rw [if_neg (show ¬ (false = true) by decide)] at H; exact H
     clear H
     have H := H1
     clear H1
     obtain rfl := Option.some.inj H
     go_enter Try.func40, Try.ntmps40
     go_wp2_with (first | ((with_reducible refine gate_dst (N := 2) rfl ?_); refine box_event ?hg (N := 2) ?hd (cs := #[.int .i64 a0_0, .int .i64 a0_1, .int .i64 a0_2, .int .i64 a0_3, .int .i64 a0_4, .int .i64 a0_5, .int .i64 a0_6, .int .i64 a0_7, .int .i64 a0_8, .int .i64 a0_9, .int .i64 a0_10, .int .i64 a0_11, .int .i64 a0_12, .int .i64 a0_13, .int .i64 a0_14, .int .i64 a0_15, .int .i64 a0_16, .int .i64 a0_17, .int .i64 a0_18, .int .i64 a0_19, .int .i64 a0_20]) (t := 55) ?hr ?_; (case hd => rfl); (case hg => rfl); (case hr => first | (go_simp; done) | (go_simp; rfl)); intro gb412 hg w154 hbox hb; have n0_ := Gv.a0 (below_step Gv.bw hb); have n1_ := Gv.a0 (hbox); have n2_ := Gv.a0 ((Gv.ble hg Gv.bw : w.heap.size ≤ gb412)); have n3_ := Gv.a0 ((Gv.ble hg Gv.bw : w.heap.size ≤ gb412)); clear HB; have HB := n0_; have BK412 := n1_; have GW412 := n2_; have GE412 := n3_; clear n0_ n1_ n2_ n3_; clear hb hbox hg) | ((with_reducible refine gate_store (t := 55) (p := 2) rfl ?_); refine Gv.store_event rfl rfl rfl rfl rfl (Gv.kb BK412.out) (by kernel_rfl) rfl (by simp; and_intros <;> rfl) ?_; intro w154s hbox hoth hbel; have n0_ := Gv.a0 (hbox); have n1_ := Gv.a0 (hbel w Gv.bw GE412.out); clear BK412 HB; have BK412 := n0_; have HB := n1_; clear n0_ n1_ hbox hoth hbel) | ((with_reducible refine gate_dst (N := 3) rfl ?_); refine box_event ?hg (N := 3) ?hd (cs := #[.int .i64 a1_0, .int .i64 a1_1, .int .i64 a1_2, .int .i64 a1_3, .int .i64 a1_4, .int .i64 a1_5, .int .i64 a1_6, .int .i64 a1_7, .int .i64 a1_8, .int .i64 a1_9, .int .i64 a1_10, .int .i64 a1_11, .int .i64 a1_12, .int .i64 a1_13, .int .i64 a1_14, .int .i64 a1_15, .int .i64 a1_16, .int .i64 a1_17, .int .i64 a1_18, .int .i64 a1_19, .int .i64 a1_20]) (t := 55) ?hr ?_; (case hd => rfl); (case hg => rfl); (case hr => first | (go_simp; done) | (go_simp; rfl)); intro gb413 hg w155 hbox hb; have n0_ := Gv.a0 (Gv.bb BK412.out hb); have n1_ := Gv.a0 (below_step Gv.bw hb); have n2_ := Gv.a0 (hbox); have n3_ := Gv.a0 ((Gv.ble hg Gv.bw : w.heap.size ≤ gb413)); have n4_ := Gv.a0 ((Gv.ble hg Gv.bw : w.heap.size ≤ gb413)); have n5_ := Gv.a0 ((Gv.nlt hg (Gv.kb BK412.out) : gb412 ≠ gb413)); have n6_ := Gv.a0 ((Gv.ngt hg (Gv.kb BK412.out) : gb413 ≠ gb412)); clear BK412; clear HB; have BK412 := n0_; have HB := n1_; have BK413 := n2_; have GW413 := n3_; have GE413 := n4_; have NB412_413 := n5_; have NB413_412 := n6_; clear n0_ n1_ n2_ n3_ n4_ n5_ n6_; clear hb hbox hg; have hnb156 := NB412_413.out; have hnc156 := NB413_412.out; obtain ⟨hcz157_0, hcz157_1, hcz157_2, hcz157_3, hcz157_4, hcz157_5, hcz157_6, hcz157_7, hcz157_8, hcz157_9, hcz157_10, hcz157_11, hcz157_12, hcz157_13, hcz157_14, hcz157_15, hcz157_16, hcz157_17, hcz157_18, hcz157_19, hcz157_20⟩ := Gv.c21 BK412.out) | ((with_reducible refine gate_store (t := 55) (p := 3) rfl ?_); refine Gv.store_event rfl rfl rfl rfl rfl (Gv.kb BK413.out) (by kernel_rfl) rfl (by simp; and_intros <;> rfl) ?_; intro w155s hbox hoth hbel; have n0_ := Gv.a0 (hbox); have n1_ := Gv.a0 (hbel w Gv.bw GE413.out); have n2_ := Gv.a0 ((hoth gb412 NB412_413.out).trans (Gv.kb BK412.out)); clear BK413 HB BK412; have BK413 := n0_; have HB := n1_; have BK412 := n2_; clear n0_ n1_ n2_ hbox hoth hbel; (try clear hcz157_0 hcz157_1 hcz157_2 hcz157_3 hcz157_4 hcz157_5 hcz157_6 hcz157_7 hcz157_8 hcz157_9 hcz157_10 hcz157_11 hcz157_12 hcz157_13 hcz157_14 hcz157_15 hcz157_16 hcz157_17 hcz157_18 hcz157_19 hcz157_20); obtain ⟨hcz157_0, hcz157_1, hcz157_2, hcz157_3, hcz157_4, hcz157_5, hcz157_6, hcz157_7, hcz157_8, hcz157_9, hcz157_10, hcz157_11, hcz157_12, hcz157_13, hcz157_14, hcz157_15, hcz157_16, hcz157_17, hcz157_18, hcz157_19, hcz157_20⟩ := Gv.c21 BK412.out) | ((with_reducible refine gate_callee (f := 29) rfl ?_); refine goesL_ (some 6) rfl rfl Try.func29 (by kernel_rfl) rfl #[.agg #[.int .i64 a0_0, .int .i64 a0_1, .int .i64 a0_2, .int .i64 a0_3, .int .i64 a0_4, .int .i64 a0_5, .int .i64 a0_6, .int .i64 a0_7, .int .i64 a0_8, .int .i64 a0_9, .int .i64 a0_10, .int .i64 a0_11, .int .i64 a0_12, .int .i64 a0_13, .int .i64 a0_14, .int .i64 a0_15, .int .i64 a0_16, .int .i64 a0_17, .int .i64 a0_18, .int .i64 a0_19, .int .i64 a0_20]] rfl Gv.lm ?_; (with_reducible refine (impl_RuleOk.calls k a0_0 a0_1 a0_2 a0_3 a0_4 a0_5 a0_6 a0_7 a0_8 a0_9 a0_10 a0_11 a0_12 a0_13 a0_14 a0_15 a0_16 a0_17 a0_18 a0_19 a0_20 true _ A3.out).mono ?_); rintro e w158 ⟨rfl, hb⟩; refine ⟨_, rfl, ?_⟩; have n0_ := Gv.a0 (Gv.bb BK412.out hb); have n1_ := Gv.a0 (Gv.bb BK413.out hb); have n2_ := Gv.a0 (below_step Gv.bw hb); clear BK412; clear BK413; clear HB; have BK412 := n0_; have BK413 := n1_; have HB := n2_; clear n0_ n1_ n2_; (try clear hb); (try clear hb2); (try clear hk); (try clear hi); obtain ⟨hcz159_0, hcz159_1, hcz159_2, hcz159_3, hcz159_4, hcz159_5, hcz159_6, hcz159_7, hcz159_8, hcz159_9, hcz159_10, hcz159_11, hcz159_12, hcz159_13, hcz159_14, hcz159_15, hcz159_16, hcz159_17, hcz159_18, hcz159_19, hcz159_20⟩ := Gv.c21 BK413.out) | (go_at_call 29; (with_reducible refine (impl_RuleOk.calls k a1_0 a1_1 a1_2 a1_3 a1_4 a1_5 a1_6 a1_7 a1_8 a1_9 a1_10 a1_11 a1_12 a1_13 a1_14 a1_15 a1_16 a1_17 a1_18 a1_19 a1_20 true _ A5.out).mono ?_); rintro e w160 ⟨rfl, hb⟩; have n0_ := Gv.a0 (Gv.bb BK412.out hb); have n1_ := Gv.a0 (Gv.bb BK413.out hb); have n2_ := Gv.a0 (below_step Gv.bw hb); clear BK412; clear BK413; clear HB; have BK412 := n0_; have BK413 := n1_; have HB := n2_; clear n0_ n1_ n2_; (try clear hb); (try clear hb2); (try clear hk); (try clear hi); obtain ⟨hcz161_0, hcz161_1, hcz161_2, hcz161_3, hcz161_4, hcz161_5, hcz161_6, hcz161_7, hcz161_8, hcz161_9, hcz161_10, hcz161_11, hcz161_12, hcz161_13, hcz161_14, hcz161_15, hcz161_16, hcz161_17, hcz161_18, hcz161_19, hcz161_20⟩ := Gv.c21 BK413.out; obtain ⟨hcz162_0, hcz162_1, hcz162_2, hcz162_3, hcz162_4, hcz162_5, hcz162_6, hcz162_7, hcz162_8, hcz162_9, hcz162_10, hcz162_11, hcz162_12, hcz162_13, hcz162_14, hcz162_15, hcz162_16, hcz162_17, hcz162_18, hcz162_19, hcz162_20⟩ := Gv.c21 BK412.out) | (go_at_call 57; (with_reducible refine (impl_PrefixIn.calls k a1_1 a1_2 a1_3 a1_4 a1_5 a1_6 a0_1 a0_2 a0_3 a0_4 a0_5 a0_6 true _ A7.out).mono ?_); rintro e w163 ⟨rfl, hb⟩; have n0_ := Gv.a0 (Gv.bb BK412.out hb); have n1_ := Gv.a0 (Gv.bb BK413.out hb); have n2_ := Gv.a0 (below_step Gv.bw hb); clear BK412; clear BK413; clear HB; have BK412 := n0_; have BK413 := n1_; have HB := n2_; clear n0_ n1_ n2_; (try clear hb); (try clear hb2); (try clear hk); (try clear hi); obtain ⟨hcz164_0, hcz164_1, hcz164_2, hcz164_3, hcz164_4, hcz164_5, hcz164_6, hcz164_7, hcz164_8, hcz164_9, hcz164_10, hcz164_11, hcz164_12, hcz164_13, hcz164_14, hcz164_15, hcz164_16, hcz164_17, hcz164_18, hcz164_19, hcz164_20⟩ := Gv.c21 BK413.out; obtain ⟨hcz165_0, hcz165_1, hcz165_2, hcz165_3, hcz165_4, hcz165_5, hcz165_6, hcz165_7, hcz165_8, hcz165_9, hcz165_10, hcz165_11, hcz165_12, hcz165_13, hcz165_14, hcz165_15, hcz165_16, hcz165_17, hcz165_18, hcz165_19, hcz165_20⟩ := Gv.c21 BK412.out) | (go_at_call 57; (with_reducible refine (impl_PrefixIn.calls k a1_7 a1_8 a1_9 a1_10 a1_11 a1_12 a0_7 a0_8 a0_9 a0_10 a0_11 a0_12 false _ A9.out).mono ?_); rintro e w166 ⟨rfl, hb⟩; have n0_ := Gv.a0 (Gv.bb BK412.out hb); have n1_ := Gv.a0 (Gv.bb BK413.out hb); have n2_ := Gv.a0 (below_step Gv.bw hb); clear BK412; clear BK413; clear HB; have BK412 := n0_; have BK413 := n1_; have HB := n2_; clear n0_ n1_ n2_; (try clear hb); (try clear hb2); (try clear hk); (try clear hi)) | ((with_reducible refine Gv.gate_load (t := 55) rfl ?_); (try (refine gate_guard (by rfl) ?_; dsimp only)); refine wpList_load_row rfl 55 _ rfl gb412 rfl 55 _ _ _ (by first | exact Gv.kb0 BK412.out | exact Gv.kb1 (Gv.kb0 BK412.out)) Try.underlying55 rfl (by kernel_rfl) ?_) | ((with_reducible refine Gv.gate_load (t := 55) rfl ?_); (try (refine gate_guard (by rfl) ?_; dsimp only)); refine wpList_load_row rfl 55 _ rfl gb413 rfl 55 _ _ _ (by first | exact Gv.kb0 BK413.out | exact Gv.kb1 (Gv.kb0 BK413.out)) Try.underlying55 rfl (by kernel_rfl) ?_))
     go_ret
     exact ⟨Gv.rt, Gv.bw⟩
   ·replace c8 := Bool.eq_false_iff.mpr c8
    subst c8
    have H1 : (some false) = some r := by rw [if_neg (show ¬ (false = true) by decide)] at H; exact H
    clear H
    have H := H1
    clear H1
    obtain rfl := Option.some.inj H
    go_enter Try.func40, Try.ntmps40
    go_wp2_with (first | ((with_reducible refine gate_dst (N := 2) rfl ?_); refine box_event ?hg (N := 2) ?hd (cs := #[.int .i64 a0_0, .int .i64 a0_1, .int .i64 a0_2, .int .i64 a0_3, .int .i64 a0_4, .int .i64 a0_5, .int .i64 a0_6, .int .i64 a0_7, .int .i64 a0_8, .int .i64 a0_9, .int .i64 a0_10, .int .i64 a0_11, .int .i64 a0_12, .int .i64 a0_13, .int .i64 a0_14, .int .i64 a0_15, .int .i64 a0_16, .int .i64 a0_17, .int .i64 a0_18, .int .i64 a0_19, .int .i64 a0_20]) (t := 55) ?hr ?_; (case hd => rfl); (case hg => rfl); (case hr => first | (go_simp; done) | (go_simp; rfl)); intro gb412 hg w167 hbox hb; have n0_ := Gv.a0 (below_step Gv.bw hb); have n1_ := Gv.a0 (hbox); have n2_ := Gv.a0 ((Gv.ble hg Gv.bw : w.heap.size ≤ gb412)); have n3_ := Gv.a0 ((Gv.ble hg Gv.bw : w.heap.size ≤ gb412)); clear HB; have HB := n0_; have BK412 := n1_; have GW412 := n2_; have GE412 := n3_; clear n0_ n1_ n2_ n3_; clear hb hbox hg) | ((with_reducible refine gate_store (t := 55) (p := 2) rfl ?_); refine Gv.store_event rfl rfl rfl rfl rfl (Gv.kb BK412.out) (by kernel_rfl) rfl (by simp; and_intros <;> rfl) ?_; intro w167s hbox hoth hbel; have n0_ := Gv.a0 (hbox); have n1_ := Gv.a0 (hbel w Gv.bw GE412.out); clear BK412 HB; have BK412 := n0_; have HB := n1_; clear n0_ n1_ hbox hoth hbel) | ((with_reducible refine gate_dst (N := 3) rfl ?_); refine box_event ?hg (N := 3) ?hd (cs := #[.int .i64 a1_0, .int .i64 a1_1, .int .i64 a1_2, .int .i64 a1_3, .int .i64 a1_4, .int .i64 a1_5, .int .i64 a1_6, .int .i64 a1_7, .int .i64 a1_8, .int .i64 a1_9, .int .i64 a1_10, .int .i64 a1_11, .int .i64 a1_12, .int .i64 a1_13, .int .i64 a1_14, .int .i64 a1_15, .int .i64 a1_16, .int .i64 a1_17, .int .i64 a1_18, .int .i64 a1_19, .int .i64 a1_20]) (t := 55) ?hr ?_; (case hd => rfl); (case hg => rfl); (case hr => first | (go_simp; done) | (go_simp; rfl)); intro gb413 hg w168 hbox hb; have n0_ := Gv.a0 (Gv.bb BK412.out hb); have n1_ := Gv.a0 (below_step Gv.bw hb); have n2_ := Gv.a0 (hbox); have n3_ := Gv.a0 ((Gv.ble hg Gv.bw : w.heap.size ≤ gb413)); have n4_ := Gv.a0 ((Gv.ble hg Gv.bw : w.heap.size ≤ gb413)); have n5_ := Gv.a0 ((Gv.nlt hg (Gv.kb BK412.out) : gb412 ≠ gb413)); have n6_ := Gv.a0 ((Gv.ngt hg (Gv.kb BK412.out) : gb413 ≠ gb412)); clear BK412; clear HB; have BK412 := n0_; have HB := n1_; have BK413 := n2_; have GW413 := n3_; have GE413 := n4_; have NB412_413 := n5_; have NB413_412 := n6_; clear n0_ n1_ n2_ n3_ n4_ n5_ n6_; clear hb hbox hg; have hnb169 := NB412_413.out; have hnc169 := NB413_412.out; obtain ⟨hcz170_0, hcz170_1, hcz170_2, hcz170_3, hcz170_4, hcz170_5, hcz170_6, hcz170_7, hcz170_8, hcz170_9, hcz170_10, hcz170_11, hcz170_12, hcz170_13, hcz170_14, hcz170_15, hcz170_16, hcz170_17, hcz170_18, hcz170_19, hcz170_20⟩ := Gv.c21 BK412.out) | ((with_reducible refine gate_store (t := 55) (p := 3) rfl ?_); refine Gv.store_event rfl rfl rfl rfl rfl (Gv.kb BK413.out) (by kernel_rfl) rfl (by simp; and_intros <;> rfl) ?_; intro w168s hbox hoth hbel; have n0_ := Gv.a0 (hbox); have n1_ := Gv.a0 (hbel w Gv.bw GE413.out); have n2_ := Gv.a0 ((hoth gb412 NB412_413.out).trans (Gv.kb BK412.out)); clear BK413 HB BK412; have BK413 := n0_; have HB := n1_; have BK412 := n2_; clear n0_ n1_ n2_ hbox hoth hbel; (try clear hcz170_0 hcz170_1 hcz170_2 hcz170_3 hcz170_4 hcz170_5 hcz170_6 hcz170_7 hcz170_8 hcz170_9 hcz170_10 hcz170_11 hcz170_12 hcz170_13 hcz170_14 hcz170_15 hcz170_16 hcz170_17 hcz170_18 hcz170_19 hcz170_20); obtain ⟨hcz170_0, hcz170_1, hcz170_2, hcz170_3, hcz170_4, hcz170_5, hcz170_6, hcz170_7, hcz170_8, hcz170_9, hcz170_10, hcz170_11, hcz170_12, hcz170_13, hcz170_14, hcz170_15, hcz170_16, hcz170_17, hcz170_18, hcz170_19, hcz170_20⟩ := Gv.c21 BK412.out) | ((with_reducible refine gate_callee (f := 29) rfl ?_); refine goesL_ (some 6) rfl rfl Try.func29 (by kernel_rfl) rfl #[.agg #[.int .i64 a0_0, .int .i64 a0_1, .int .i64 a0_2, .int .i64 a0_3, .int .i64 a0_4, .int .i64 a0_5, .int .i64 a0_6, .int .i64 a0_7, .int .i64 a0_8, .int .i64 a0_9, .int .i64 a0_10, .int .i64 a0_11, .int .i64 a0_12, .int .i64 a0_13, .int .i64 a0_14, .int .i64 a0_15, .int .i64 a0_16, .int .i64 a0_17, .int .i64 a0_18, .int .i64 a0_19, .int .i64 a0_20]] rfl Gv.lm ?_; (with_reducible refine (impl_RuleOk.calls k a0_0 a0_1 a0_2 a0_3 a0_4 a0_5 a0_6 a0_7 a0_8 a0_9 a0_10 a0_11 a0_12 a0_13 a0_14 a0_15 a0_16 a0_17 a0_18 a0_19 a0_20 true _ A3.out).mono ?_); rintro e w171 ⟨rfl, hb⟩; refine ⟨_, rfl, ?_⟩; have n0_ := Gv.a0 (Gv.bb BK412.out hb); have n1_ := Gv.a0 (Gv.bb BK413.out hb); have n2_ := Gv.a0 (below_step Gv.bw hb); clear BK412; clear BK413; clear HB; have BK412 := n0_; have BK413 := n1_; have HB := n2_; clear n0_ n1_ n2_; (try clear hb); (try clear hb2); (try clear hk); (try clear hi); obtain ⟨hcz172_0, hcz172_1, hcz172_2, hcz172_3, hcz172_4, hcz172_5, hcz172_6, hcz172_7, hcz172_8, hcz172_9, hcz172_10, hcz172_11, hcz172_12, hcz172_13, hcz172_14, hcz172_15, hcz172_16, hcz172_17, hcz172_18, hcz172_19, hcz172_20⟩ := Gv.c21 BK413.out) | (go_at_call 29; (with_reducible refine (impl_RuleOk.calls k a1_0 a1_1 a1_2 a1_3 a1_4 a1_5 a1_6 a1_7 a1_8 a1_9 a1_10 a1_11 a1_12 a1_13 a1_14 a1_15 a1_16 a1_17 a1_18 a1_19 a1_20 true _ A5.out).mono ?_); rintro e w173 ⟨rfl, hb⟩; have n0_ := Gv.a0 (Gv.bb BK412.out hb); have n1_ := Gv.a0 (Gv.bb BK413.out hb); have n2_ := Gv.a0 (below_step Gv.bw hb); clear BK412; clear BK413; clear HB; have BK412 := n0_; have BK413 := n1_; have HB := n2_; clear n0_ n1_ n2_; (try clear hb); (try clear hb2); (try clear hk); (try clear hi); obtain ⟨hcz174_0, hcz174_1, hcz174_2, hcz174_3, hcz174_4, hcz174_5, hcz174_6, hcz174_7, hcz174_8, hcz174_9, hcz174_10, hcz174_11, hcz174_12, hcz174_13, hcz174_14, hcz174_15, hcz174_16, hcz174_17, hcz174_18, hcz174_19, hcz174_20⟩ := Gv.c21 BK413.out; obtain ⟨hcz175_0, hcz175_1, hcz175_2, hcz175_3, hcz175_4, hcz175_5, hcz175_6, hcz175_7, hcz175_8, hcz175_9, hcz175_10, hcz175_11, hcz175_12, hcz175_13, hcz175_14, hcz175_15, hcz175_16, hcz175_17, hcz175_18, hcz175_19, hcz175_20⟩ := Gv.c21 BK412.out) | (go_at_call 57; (with_reducible refine (impl_PrefixIn.calls k a1_1 a1_2 a1_3 a1_4 a1_5 a1_6 a0_1 a0_2 a0_3 a0_4 a0_5 a0_6 false _ A7.out).mono ?_); rintro e w176 ⟨rfl, hb⟩; have n0_ := Gv.a0 (Gv.bb BK412.out hb); have n1_ := Gv.a0 (Gv.bb BK413.out hb); have n2_ := Gv.a0 (below_step Gv.bw hb); clear BK412; clear BK413; clear HB; have BK412 := n0_; have BK413 := n1_; have HB := n2_; clear n0_ n1_ n2_; (try clear hb); (try clear hb2); (try clear hk); (try clear hi)) | ((with_reducible refine Gv.gate_load (t := 55) rfl ?_); (try (refine gate_guard (by rfl) ?_; dsimp only)); refine wpList_load_row rfl 55 _ rfl gb412 rfl 55 _ _ _ (by first | exact Gv.kb0 BK412.out | exact Gv.kb1 (Gv.kb0 BK412.out)) Try.underlying55 rfl (by kernel_rfl) ?_) | ((with_reducible refine Gv.gate_load (t := 55) rfl ?_); (try (refine gate_guard (by rfl) ?_; dsimp only)); refine wpList_load_row rfl 55 _ rfl gb413 rfl 55 _ _ _ (by first | exact Gv.kb0 BK413.out | exact Gv.kb1 (Gv.kb0 BK413.out)) Try.underlying55 rfl (by kernel_rfl) ?_))
    go_ret
    exact ⟨Gv.rt, Gv.bw⟩
  ·replace c6 := Bool.eq_false_iff.mpr c6
   subst c6
   have H1 : (some false) = some r := by rw [if_neg (show ¬ (false = true) by decide)] at H; exact H
   clear H
   have H := H1
   clear H1
   obtain rfl := Option.some.inj H
   go_enter Try.func40, Try.ntmps40
   go_wp2_with (first | ((with_reducible refine gate_dst (N := 2) rfl ?_); refine box_event ?hg (N := 2) ?hd (cs := #[.int .i64 a0_0, .int .i64 a0_1, .int .i64 a0_2, .int .i64 a0_3, .int .i64 a0_4, .int .i64 a0_5, .int .i64 a0_6, .int .i64 a0_7, .int .i64 a0_8, .int .i64 a0_9, .int .i64 a0_10, .int .i64 a0_11, .int .i64 a0_12, .int .i64 a0_13, .int .i64 a0_14, .int .i64 a0_15, .int .i64 a0_16, .int .i64 a0_17, .int .i64 a0_18, .int .i64 a0_19, .int .i64 a0_20]) (t := 55) ?hr ?_; (case hd => rfl); (case hg => rfl); (case hr => first | (go_simp; done) | (go_simp; rfl)); intro gb412 hg w177 hbox hb; have n0_ := Gv.a0 (below_step Gv.bw hb); have n1_ := Gv.a0 (hbox); have n2_ := Gv.a0 ((Gv.ble hg Gv.bw : w.heap.size ≤ gb412)); have n3_ := Gv.a0 ((Gv.ble hg Gv.bw : w.heap.size ≤ gb412)); clear HB; have HB := n0_; have BK412 := n1_; have GW412 := n2_; have GE412 := n3_; clear n0_ n1_ n2_ n3_; clear hb hbox hg) | ((with_reducible refine gate_store (t := 55) (p := 2) rfl ?_); refine Gv.store_event rfl rfl rfl rfl rfl (Gv.kb BK412.out) (by kernel_rfl) rfl (by simp; and_intros <;> rfl) ?_; intro w177s hbox hoth hbel; have n0_ := Gv.a0 (hbox); have n1_ := Gv.a0 (hbel w Gv.bw GE412.out); clear BK412 HB; have BK412 := n0_; have HB := n1_; clear n0_ n1_ hbox hoth hbel) | ((with_reducible refine gate_dst (N := 3) rfl ?_); refine box_event ?hg (N := 3) ?hd (cs := #[.int .i64 a1_0, .int .i64 a1_1, .int .i64 a1_2, .int .i64 a1_3, .int .i64 a1_4, .int .i64 a1_5, .int .i64 a1_6, .int .i64 a1_7, .int .i64 a1_8, .int .i64 a1_9, .int .i64 a1_10, .int .i64 a1_11, .int .i64 a1_12, .int .i64 a1_13, .int .i64 a1_14, .int .i64 a1_15, .int .i64 a1_16, .int .i64 a1_17, .int .i64 a1_18, .int .i64 a1_19, .int .i64 a1_20]) (t := 55) ?hr ?_; (case hd => rfl); (case hg => rfl); (case hr => first | (go_simp; done) | (go_simp; rfl)); intro gb413 hg w178 hbox hb; have n0_ := Gv.a0 (Gv.bb BK412.out hb); have n1_ := Gv.a0 (below_step Gv.bw hb); have n2_ := Gv.a0 (hbox); have n3_ := Gv.a0 ((Gv.ble hg Gv.bw : w.heap.size ≤ gb413)); have n4_ := Gv.a0 ((Gv.ble hg Gv.bw : w.heap.size ≤ gb413)); have n5_ := Gv.a0 ((Gv.nlt hg (Gv.kb BK412.out) : gb412 ≠ gb413)); have n6_ := Gv.a0 ((Gv.ngt hg (Gv.kb BK412.out) : gb413 ≠ gb412)); clear BK412; clear HB; have BK412 := n0_; have HB := n1_; have BK413 := n2_; have GW413 := n3_; have GE413 := n4_; have NB412_413 := n5_; have NB413_412 := n6_; clear n0_ n1_ n2_ n3_ n4_ n5_ n6_; clear hb hbox hg; have hnb179 := NB412_413.out; have hnc179 := NB413_412.out; obtain ⟨hcz180_0, hcz180_1, hcz180_2, hcz180_3, hcz180_4, hcz180_5, hcz180_6, hcz180_7, hcz180_8, hcz180_9, hcz180_10, hcz180_11, hcz180_12, hcz180_13, hcz180_14, hcz180_15, hcz180_16, hcz180_17, hcz180_18, hcz180_19, hcz180_20⟩ := Gv.c21 BK412.out) | ((with_reducible refine gate_store (t := 55) (p := 3) rfl ?_); refine Gv.store_event rfl rfl rfl rfl rfl (Gv.kb BK413.out) (by kernel_rfl) rfl (by simp; and_intros <;> rfl) ?_; intro w178s hbox hoth hbel; have n0_ := Gv.a0 (hbox); have n1_ := Gv.a0 (hbel w Gv.bw GE413.out); have n2_ := Gv.a0 ((hoth gb412 NB412_413.out).trans (Gv.kb BK412.out)); clear BK413 HB BK412; have BK413 := n0_; have HB := n1_; have BK412 := n2_; clear n0_ n1_ n2_ hbox hoth hbel; (try clear hcz180_0 hcz180_1 hcz180_2 hcz180_3 hcz180_4 hcz180_5 hcz180_6 hcz180_7 hcz180_8 hcz180_9 hcz180_10 hcz180_11 hcz180_12 hcz180_13 hcz180_14 hcz180_15 hcz180_16 hcz180_17 hcz180_18 hcz180_19 hcz180_20); obtain ⟨hcz180_0, hcz180_1, hcz180_2, hcz180_3, hcz180_4, hcz180_5, hcz180_6, hcz180_7, hcz180_8, hcz180_9, hcz180_10, hcz180_11, hcz180_12, hcz180_13, hcz180_14, hcz180_15, hcz180_16, hcz180_17, hcz180_18, hcz180_19, hcz180_20⟩ := Gv.c21 BK412.out) | ((with_reducible refine gate_callee (f := 29) rfl ?_); refine goesL_ (some 6) rfl rfl Try.func29 (by kernel_rfl) rfl #[.agg #[.int .i64 a0_0, .int .i64 a0_1, .int .i64 a0_2, .int .i64 a0_3, .int .i64 a0_4, .int .i64 a0_5, .int .i64 a0_6, .int .i64 a0_7, .int .i64 a0_8, .int .i64 a0_9, .int .i64 a0_10, .int .i64 a0_11, .int .i64 a0_12, .int .i64 a0_13, .int .i64 a0_14, .int .i64 a0_15, .int .i64 a0_16, .int .i64 a0_17, .int .i64 a0_18, .int .i64 a0_19, .int .i64 a0_20]] rfl Gv.lm ?_; (with_reducible refine (impl_RuleOk.calls k a0_0 a0_1 a0_2 a0_3 a0_4 a0_5 a0_6 a0_7 a0_8 a0_9 a0_10 a0_11 a0_12 a0_13 a0_14 a0_15 a0_16 a0_17 a0_18 a0_19 a0_20 true _ A3.out).mono ?_); rintro e w181 ⟨rfl, hb⟩; refine ⟨_, rfl, ?_⟩; have n0_ := Gv.a0 (Gv.bb BK412.out hb); have n1_ := Gv.a0 (Gv.bb BK413.out hb); have n2_ := Gv.a0 (below_step Gv.bw hb); clear BK412; clear BK413; clear HB; have BK412 := n0_; have BK413 := n1_; have HB := n2_; clear n0_ n1_ n2_; (try clear hb); (try clear hb2); (try clear hk); (try clear hi); obtain ⟨hcz182_0, hcz182_1, hcz182_2, hcz182_3, hcz182_4, hcz182_5, hcz182_6, hcz182_7, hcz182_8, hcz182_9, hcz182_10, hcz182_11, hcz182_12, hcz182_13, hcz182_14, hcz182_15, hcz182_16, hcz182_17, hcz182_18, hcz182_19, hcz182_20⟩ := Gv.c21 BK413.out) | (go_at_call 29; (with_reducible refine (impl_RuleOk.calls k a1_0 a1_1 a1_2 a1_3 a1_4 a1_5 a1_6 a1_7 a1_8 a1_9 a1_10 a1_11 a1_12 a1_13 a1_14 a1_15 a1_16 a1_17 a1_18 a1_19 a1_20 false _ A5.out).mono ?_); rintro e w183 ⟨rfl, hb⟩; have n0_ := Gv.a0 (Gv.bb BK412.out hb); have n1_ := Gv.a0 (Gv.bb BK413.out hb); have n2_ := Gv.a0 (below_step Gv.bw hb); clear BK412; clear BK413; clear HB; have BK412 := n0_; have BK413 := n1_; have HB := n2_; clear n0_ n1_ n2_; (try clear hb); (try clear hb2); (try clear hk); (try clear hi)) | ((with_reducible refine Gv.gate_load (t := 55) rfl ?_); (try (refine gate_guard (by rfl) ?_; dsimp only)); refine wpList_load_row rfl 55 _ rfl gb412 rfl 55 _ _ _ (by first | exact Gv.kb0 BK412.out | exact Gv.kb1 (Gv.kb0 BK412.out)) Try.underlying55 rfl (by kernel_rfl) ?_) | ((with_reducible refine Gv.gate_load (t := 55) rfl ?_); (try (refine gate_guard (by rfl) ?_; dsimp only)); refine wpList_load_row rfl 55 _ rfl gb413 rfl 55 _ _ _ (by first | exact Gv.kb0 BK413.out | exact Gv.kb1 (Gv.kb0 BK413.out)) Try.underlying55 rfl (by kernel_rfl) ?_))
   go_ret
   exact ⟨Gv.rt, Gv.bw⟩
 ·replace c4 := Bool.eq_false_iff.mpr c4
  subst c4
  have H1 : (some false) = some r := by rw [if_neg (show ¬ (false = true) by decide)] at H; exact H
  clear H
  have H := H1
  clear H1
  obtain rfl := Option.some.inj H
  go_enter Try.func40, Try.ntmps40
  go_wp2_with (first | ((with_reducible refine gate_dst (N := 2) rfl ?_); refine box_event ?hg (N := 2) ?hd (cs := #[.int .i64 a0_0, .int .i64 a0_1, .int .i64 a0_2, .int .i64 a0_3, .int .i64 a0_4, .int .i64 a0_5, .int .i64 a0_6, .int .i64 a0_7, .int .i64 a0_8, .int .i64 a0_9, .int .i64 a0_10, .int .i64 a0_11, .int .i64 a0_12, .int .i64 a0_13, .int .i64 a0_14, .int .i64 a0_15, .int .i64 a0_16, .int .i64 a0_17, .int .i64 a0_18, .int .i64 a0_19, .int .i64 a0_20]) (t := 55) ?hr ?_; (case hd => rfl); (case hg => rfl); (case hr => first | (go_simp; done) | (go_simp; rfl)); intro gb412 hg w184 hbox hb; have n0_ := Gv.a0 (below_step Gv.bw hb); have n1_ := Gv.a0 (hbox); have n2_ := Gv.a0 ((Gv.ble hg Gv.bw : w.heap.size ≤ gb412)); have n3_ := Gv.a0 ((Gv.ble hg Gv.bw : w.heap.size ≤ gb412)); clear HB; have HB := n0_; have BK412 := n1_; have GW412 := n2_; have GE412 := n3_; clear n0_ n1_ n2_ n3_; clear hb hbox hg) | ((with_reducible refine gate_store (t := 55) (p := 2) rfl ?_); refine Gv.store_event rfl rfl rfl rfl rfl (Gv.kb BK412.out) (by kernel_rfl) rfl (by simp; and_intros <;> rfl) ?_; intro w184s hbox hoth hbel; have n0_ := Gv.a0 (hbox); have n1_ := Gv.a0 (hbel w Gv.bw GE412.out); clear BK412 HB; have BK412 := n0_; have HB := n1_; clear n0_ n1_ hbox hoth hbel) | ((with_reducible refine gate_dst (N := 3) rfl ?_); refine box_event ?hg (N := 3) ?hd (cs := #[.int .i64 a1_0, .int .i64 a1_1, .int .i64 a1_2, .int .i64 a1_3, .int .i64 a1_4, .int .i64 a1_5, .int .i64 a1_6, .int .i64 a1_7, .int .i64 a1_8, .int .i64 a1_9, .int .i64 a1_10, .int .i64 a1_11, .int .i64 a1_12, .int .i64 a1_13, .int .i64 a1_14, .int .i64 a1_15, .int .i64 a1_16, .int .i64 a1_17, .int .i64 a1_18, .int .i64 a1_19, .int .i64 a1_20]) (t := 55) ?hr ?_; (case hd => rfl); (case hg => rfl); (case hr => first | (go_simp; done) | (go_simp; rfl)); intro gb413 hg w185 hbox hb; have n0_ := Gv.a0 (Gv.bb BK412.out hb); have n1_ := Gv.a0 (below_step Gv.bw hb); have n2_ := Gv.a0 (hbox); have n3_ := Gv.a0 ((Gv.ble hg Gv.bw : w.heap.size ≤ gb413)); have n4_ := Gv.a0 ((Gv.ble hg Gv.bw : w.heap.size ≤ gb413)); have n5_ := Gv.a0 ((Gv.nlt hg (Gv.kb BK412.out) : gb412 ≠ gb413)); have n6_ := Gv.a0 ((Gv.ngt hg (Gv.kb BK412.out) : gb413 ≠ gb412)); clear BK412; clear HB; have BK412 := n0_; have HB := n1_; have BK413 := n2_; have GW413 := n3_; have GE413 := n4_; have NB412_413 := n5_; have NB413_412 := n6_; clear n0_ n1_ n2_ n3_ n4_ n5_ n6_; clear hb hbox hg; have hnb186 := NB412_413.out; have hnc186 := NB413_412.out; obtain ⟨hcz187_0, hcz187_1, hcz187_2, hcz187_3, hcz187_4, hcz187_5, hcz187_6, hcz187_7, hcz187_8, hcz187_9, hcz187_10, hcz187_11, hcz187_12, hcz187_13, hcz187_14, hcz187_15, hcz187_16, hcz187_17, hcz187_18, hcz187_19, hcz187_20⟩ := Gv.c21 BK412.out) | ((with_reducible refine gate_store (t := 55) (p := 3) rfl ?_); refine Gv.store_event rfl rfl rfl rfl rfl (Gv.kb BK413.out) (by kernel_rfl) rfl (by simp; and_intros <;> rfl) ?_; intro w185s hbox hoth hbel; have n0_ := Gv.a0 (hbox); have n1_ := Gv.a0 (hbel w Gv.bw GE413.out); have n2_ := Gv.a0 ((hoth gb412 NB412_413.out).trans (Gv.kb BK412.out)); clear BK413 HB BK412; have BK413 := n0_; have HB := n1_; have BK412 := n2_; clear n0_ n1_ n2_ hbox hoth hbel; (try clear hcz187_0 hcz187_1 hcz187_2 hcz187_3 hcz187_4 hcz187_5 hcz187_6 hcz187_7 hcz187_8 hcz187_9 hcz187_10 hcz187_11 hcz187_12 hcz187_13 hcz187_14 hcz187_15 hcz187_16 hcz187_17 hcz187_18 hcz187_19 hcz187_20); obtain ⟨hcz187_0, hcz187_1, hcz187_2, hcz187_3, hcz187_4, hcz187_5, hcz187_6, hcz187_7, hcz187_8, hcz187_9, hcz187_10, hcz187_11, hcz187_12, hcz187_13, hcz187_14, hcz187_15, hcz187_16, hcz187_17, hcz187_18, hcz187_19, hcz187_20⟩ := Gv.c21 BK412.out) | ((with_reducible refine gate_callee (f := 29) rfl ?_); refine goesL_ (some 6) rfl rfl Try.func29 (by kernel_rfl) rfl #[.agg #[.int .i64 a0_0, .int .i64 a0_1, .int .i64 a0_2, .int .i64 a0_3, .int .i64 a0_4, .int .i64 a0_5, .int .i64 a0_6, .int .i64 a0_7, .int .i64 a0_8, .int .i64 a0_9, .int .i64 a0_10, .int .i64 a0_11, .int .i64 a0_12, .int .i64 a0_13, .int .i64 a0_14, .int .i64 a0_15, .int .i64 a0_16, .int .i64 a0_17, .int .i64 a0_18, .int .i64 a0_19, .int .i64 a0_20]] rfl Gv.lm ?_; (with_reducible refine (impl_RuleOk.calls k a0_0 a0_1 a0_2 a0_3 a0_4 a0_5 a0_6 a0_7 a0_8 a0_9 a0_10 a0_11 a0_12 a0_13 a0_14 a0_15 a0_16 a0_17 a0_18 a0_19 a0_20 false _ A3.out).mono ?_); rintro e w188 ⟨rfl, hb⟩; refine ⟨_, rfl, ?_⟩; have n0_ := Gv.a0 (Gv.bb BK412.out hb); have n1_ := Gv.a0 (Gv.bb BK413.out hb); have n2_ := Gv.a0 (below_step Gv.bw hb); clear BK412; clear BK413; clear HB; have BK412 := n0_; have BK413 := n1_; have HB := n2_; clear n0_ n1_ n2_; (try clear hb); (try clear hb2); (try clear hk); (try clear hi)) | ((with_reducible refine Gv.gate_load (t := 55) rfl ?_); (try (refine gate_guard (by rfl) ?_; dsimp only)); refine wpList_load_row rfl 55 _ rfl gb412 rfl 55 _ _ _ (by first | exact Gv.kb0 BK412.out | exact Gv.kb1 (Gv.kb0 BK412.out)) Try.underlying55 rfl (by kernel_rfl) ?_) | ((with_reducible refine Gv.gate_load (t := 55) rfl ?_); (try (refine gate_guard (by rfl) ?_; dsimp only)); refine wpList_load_row rfl 55 _ rfl gb413 rfl 55 _ _ _ (by first | exact Gv.kb0 BK413.out | exact Gv.kb1 (Gv.kb0 BK413.out)) Try.underlying55 rfl (by kernel_rfl) ?_))
  go_ret
  exact ⟨Gv.rt, Gv.bw⟩

/-! ### impl_Rule_c39: function 38 over a closure -/
set_option maxHeartbeats 8000000 in
set_option maxRecDepth 100000 in
theorem impl_Rule_c39.idx (g : Nat) (lb : Array Value) (eg : ∀ args w, (callFunc g args).run Try.prog w = .ok (.enter g args) w) (p : S55 → Option Bool) (A0 : Option Addr) (c0 : Nat) (l0 : List S55) (r : Int) (w : World) (hr0 : Kd.C k55 w A0 l0.length l0)
    (hp : ∀ (W : World) (x : S55) (b : Bool), p x = some b → Below w.heap.size w W → Calls Try.prog g (#[.agg #[.int .i64 x.f0, .int .i64 x.f1.f0.f0, .int .i64 x.f1.f0.f1, .int .i64 x.f1.f0.f2, .int .i64 x.f1.f0.f3, .int .i64 x.f1.f0.f4, .int .i64 x.f1.f1, .int .i64 x.f2.f0.f0, .int .i64 x.f2.f0.f1, .int .i64 x.f2.f0.f2, .int .i64 x.f2.f0.f3, .int .i64 x.f2.f0.f4, .int .i64 x.f2.f1, .int .i64 x.f3, .int .i64 x.f4, .int .i64 x.f5, .int .i64 x.f6, .int .i64 x.f7, .int .i64 x.f8, .int .i64 x.f9, .int .i64 x.f10]] ++ lb) W fun e w' => e = .returned (.bool b) ∧ Below W.heap.size W w') (h : Gv.idxO p l0 0 = some r) :
    Calls Try.prog 34 #[.slice A0 l0.length c0, .func (.func g) #[] lb] w fun e w' => e = .returned (.int .i64 r) ∧ Below w.heap.size w w' := by
  have hu55 := Try.underlying55
  have HR0 := Aside0.mk hr0
  have HP := Aside0.mk hp
  have hlm := hr0.2.1
  have H0 := Aside0.mk h
  clear hr0 hp h
  go_enter Try.func34, Try.ntmps34
  go_wp2
  go_loopg [5, 8] l0.length (fun gg _ s8 wr => ∃ kk : Nat, kk ≤ l0.length ∧ l0.length - kk ≤ gg ∧ s8 = .int .i64 kk ∧ Aside0 (Below w.heap.size w wr) ∧ Aside0 (Gv.idxO p (l0.drop kk) kk = some r))
  case atStart => exact ⟨0, Nat.zero_le _, by omega, rfl, ⟨Below.refl _ w⟩, ⟨H0.out⟩⟩
  case round =>
    obtain ⟨kk, hkk, hg, rfl, HB, HN⟩ := hrel
    by_cases hlt : kk < l0.length
    · have hltz : (kk : Int) < (l0.length : Int) := by omega
      have hk0 : 0 ≤ (kk : Int) := by omega
      obtain ⟨ad, e1, hx0, hx1, hx2, hx3, hx4, hx5, hx6, hx7, hx8, hx9, hx10, hx11, hx12, hx13, hx14, hx15, hx16, hx17, hx18, hx19, hx20⟩ := at_T55 (Kd.C_below HR0.out HB.out) (kk : Int) hk0 hltz
      cases e1
      obtain ⟨x_, hx_⟩ : ∃ x_, x_ = rd_T55 l0 kk := ⟨_, rfl⟩
      rw [← hx_, Int.toNat_natCast] at hx0 hx1 hx2 hx3 hx4 hx5 hx6 hx7 hx8 hx9 hx10 hx11 hx12 hx13 hx14 hx15 hx16 hx17 hx18 hx19 hx20
      have hN := HN.out
      have hget : l0.drop kk = x_ :: l0.drop (kk + 1) := by
        rw [hx_, List.drop_eq_getElem_cons hlt]
        congr 1
        unfold rd_T55
        rw [Int.toNat_natCast, List.getD_eq_getElem?_getD, List.getElem?_eq_getElem hlt]
        rfl
      rw [hget] at hN
      obtain ⟨b, hq, hN⟩ := Option.bind_eq_some_iff.mp hN
      have hcall := HP.out wr x_ b hq HB.out
      have HC := Aside0.mk hcall
      have HN2 := Aside0.mk hN
      clear hcall hN hq hget HN hx_
      cases b with
      | true =>
        have HRr := Aside0.mk (show (kk : Int) = r from Option.some.inj HN2.out)
        go_wp2_with (first | ((with_reducible refine Gv.gate_load (t := 55) rfl ?_); refine Gv.load_event (cs := [_, _, _, _, _, _, _, _, _, _, _, _, _, _, _, _, _, _, _, _, _]) rfl rfl rfl ⟨hx0, hx1, hx2, hx3, hx4, hx5, hx6, hx7, hx8, hx9, hx10, hx11, hx12, hx13, hx14, hx15, hx16, hx17, hx18, hx19, hx20, trivial⟩ Try.underlying55 rfl (by kernel_rfl) ?_))
        refine HC.out.mono ?_
        rintro e w' ⟨rfl, hb⟩
        have HB' := Aside0.mk (HB.out.trans (hb.mono HB.out.size))
        clear hb
        go_wp2_with fail
        go_ret
        exact ⟨by rw [← HRr.out]; rfl, HB'.out⟩
      | false =>
        go_wp2_with (first | ((with_reducible refine Gv.gate_load (t := 55) rfl ?_); refine Gv.load_event (cs := [_, _, _, _, _, _, _, _, _, _, _, _, _, _, _, _, _, _, _, _, _]) rfl rfl rfl ⟨hx0, hx1, hx2, hx3, hx4, hx5, hx6, hx7, hx8, hx9, hx10, hx11, hx12, hx13, hx14, hx15, hx16, hx17, hx18, hx19, hx20, trivial⟩ Try.underlying55 rfl (by kernel_rfl) ?_))
        refine HC.out.mono ?_
        rintro e w' ⟨rfl, hb⟩
        have HB' := Aside0.mk (HB.out.trans (hb.mono HB.out.size))
        clear hb
        go_wp2_with fail
        go_roundg (l0.length - (kk + 1))
        case measure => omega
        case rel =>
          have e_ : ((kk + 1 : Nat) : Int) = (kk : Int) + 1 := by omega
          exact ⟨kk + 1, by omega, by omega, by go_num, HB', ⟨by rw [e_]; exact HN2.out⟩⟩
    · have hltz : ¬ (kk : Int) < (l0.length : Int) := by omega
      have HRr := Aside0.mk (show (-1 : Int) = r from by
        have hN := HN.out
        rw [List.drop_eq_nil_of_le (by omega)] at hN
        exact Option.some.inj hN)
      go_wp2_with fail
      go_ret
      exact ⟨by rw [← HRr.out]; rfl, HB.out⟩
set_option maxHeartbeats 8000000 in
set_option maxRecDepth 100000 in
theorem impl_Rule_c39.clo (k : Nat) (g0 : Nat) (c0_0 c0_1 c0_2 c0_3 c0_4 c0_5 c0_6 c0_7 c0_8 c0_9 c0_10 c0_11 c0_12 c0_13 c0_14 c0_15 c0_16 c0_17 c0_18 c0_19 c0_20 : Int) (x : S55) (b : Bool) (W : World) (hc0 : W.heap[g0]? = some (.cells #[.int .i64 c0_0, .int .i64 c0_1, .int .i64 c0_2, .int .i64 c0_3, .int .i64 c0_4, .int .i64 c0_5, .int .i64 c0_6, .int .i64 c0_7, .int .i64 c0_8, .int .i64 c0_9, .int .i64 c0_10, .int .i64 c0_11, .int .i64 c0_12, .int .i64 c0_13, .int .i64 c0_14, .int .i64 c0_15, .int .i64 c0_16, .int .i64 c0_17, .int .i64 c0_18, .int .i64 c0_19, .int .i64 c0_20] 55 (0, 0))) (h : (impl_RuleCovers.f k x.f0 x.f1.f0.f0 x.f1.f0.f1 x.f1.f0.f2 x.f1.f0.f3 x.f1.f0.f4 x.f1.f1 x.f2.f0.f0 x.f2.f0.f1 x.f2.f0.f2 x.f2.f0.f3 x.f2.f0.f4 x.f2.f1 x.f3 x.f4 x.f5 x.f6 x.f7 x.f8 x.f9 x.f10 c0_0 c0_1 c0_2 c0_3 c0_4 c0_5 c0_6 c0_7 c0_8 c0_9 c0_10 c0_11 c0_12 c0_13 c0_14 c0_15 c0_16 c0_17 c0_18 c0_19 c0_20) = some b) :
    Calls Try.prog 39 (#[.agg #[.int .i64 x.f0, .int .i64 x.f1.f0.f0, .int .i64 x.f1.f0.f1, .int .i64 x.f1.f0.f2, .int .i64 x.f1.f0.f3, .int .i64 x.f1.f0.f4, .int .i64 x.f1.f1, .int .i64 x.f2.f0.f0, .int .i64 x.f2.f0.f1, .int .i64 x.f2.f0.f2, .int .i64 x.f2.f0.f3, .int .i64 x.f2.f0.f4, .int .i64 x.f2.f1, .int .i64 x.f3, .int .i64 x.f4, .int .i64 x.f5, .int .i64 x.f6, .int .i64 x.f7, .int .i64 x.f8, .int .i64 x.f9, .int .i64 x.f10]] ++ #[.pointer (some ⟨g0, 0, none⟩)]) W fun e w' => e = .returned (.bool b) ∧ Below W.heap.size W w' := by
  have H := Aside0.mk h
  clear h
  have HC0 := Aside0.mk hc0
  clear hc0
  go_enter Try.func39, Try.ntmps39
  go_wp2_with (first | ((with_reducible refine gate_dst (N := 2) rfl ?_); refine box_event ?hg (N := 2) ?hd (cs := #[.int .i64 x.f0, .int .i64 x.f1.f0.f0, .int .i64 x.f1.f0.f1, .int .i64 x.f1.f0.f2, .int .i64 x.f1.f0.f3, .int .i64 x.f1.f0.f4, .int .i64 x.f1.f1, .int .i64 x.f2.f0.f0, .int .i64 x.f2.f0.f1, .int .i64 x.f2.f0.f2, .int .i64 x.f2.f0.f3, .int .i64 x.f2.f0.f4, .int .i64 x.f2.f1, .int .i64 x.f3, .int .i64 x.f4, .int .i64 x.f5, .int .i64 x.f6, .int .i64 x.f7, .int .i64 x.f8, .int .i64 x.f9, .int .i64 x.f10]) (t := 55) ?hr ?_; (case hd => rfl); (case hg => rfl); (case hr => first | (go_simp; done) | (go_simp; rfl)); intro gbx hg w1 hbox hb; have n0_ := Aside0.mk (blk_below HC0.out hb); have HX := Aside0.mk hbox; have HB0 := Aside0.mk hb; clear HC0 hbox hb hg; have HC0 := n0_; clear n0_) | ((with_reducible refine Gv.gate_load (t := 55) rfl ?_); refine wpList_load_row rfl 55 _ rfl gbx rfl 55 _ _ _ HX.out Try.underlying55 rfl (by kernel_rfl) ?_) | ((with_reducible refine Gv.gate_load (t := 55) rfl ?_); refine wpList_load_row rfl 55 _ rfl g0 rfl 55 _ _ _ HC0.out Try.underlying55 rfl (by kernel_rfl) ?_))
  refine (impl_RuleCovers.calls k _ _ _ _ _ _ _ _ _ _ _ _ _ _ _ _ _ _ _ _ _ _ _ _ _ _ _ _ _ _ _ _ _ _ _ _ _ _ _ _ _ _ _ _ H.out).mono ?_
  rintro e w' ⟨rfl, hb⟩
  have HB' := Aside0.mk hb
  clear hb
  go_wp2_with fail
  go_ret
  exact ⟨rfl, HB0.out.trans (HB'.out.mono HB0.out.size)⟩
def impl_Rule_c39.f (k : Nat) (l0 : List S55) (c0_0 c0_1 c0_2 c0_3 c0_4 c0_5 c0_6 c0_7 c0_8 c0_9 c0_10 c0_11 c0_12 c0_13 c0_14 c0_15 c0_16 c0_17 c0_18 c0_19 c0_20 : Int) : Option Bool := (Gv.idxO (fun x : S55 => impl_RuleCovers.f k x.f0 x.f1.f0.f0 x.f1.f0.f1 x.f1.f0.f2 x.f1.f0.f3 x.f1.f0.f4 x.f1.f1 x.f2.f0.f0 x.f2.f0.f1 x.f2.f0.f2 x.f2.f0.f3 x.f2.f0.f4 x.f2.f1 x.f3 x.f4 x.f5 x.f6 x.f7 x.f8 x.f9 x.f10 c0_0 c0_1 c0_2 c0_3 c0_4 c0_5 c0_6 c0_7 c0_8 c0_9 c0_10 c0_11 c0_12 c0_13 c0_14 c0_15 c0_16 c0_17 c0_18 c0_19 c0_20) l0 0).bind fun i => some (decide (i ≥ 0))
theorem impl_Rule_c39.mono : ∀ l0 c0_0 c0_1 c0_2 c0_3 c0_4 c0_5 c0_6 c0_7 c0_8 c0_9 c0_10 c0_11 c0_12 c0_13 c0_14 c0_15 c0_16 c0_17 c0_18 c0_19 c0_20 k, LeO (impl_Rule_c39.f k l0 c0_0 c0_1 c0_2 c0_3 c0_4 c0_5 c0_6 c0_7 c0_8 c0_9 c0_10 c0_11 c0_12 c0_13 c0_14 c0_15 c0_16 c0_17 c0_18 c0_19 c0_20) (impl_Rule_c39.f (k + 1) l0 c0_0 c0_1 c0_2 c0_3 c0_4 c0_5 c0_6 c0_7 c0_8 c0_9 c0_10 c0_11 c0_12 c0_13 c0_14 c0_15 c0_16 c0_17 c0_18 c0_19 c0_20) := by
  intro l0 c0_0 c0_1 c0_2 c0_3 c0_4 c0_5 c0_6 c0_7 c0_8 c0_9 c0_10 c0_11 c0_12 c0_13 c0_14 c0_15 c0_16 c0_17 c0_18 c0_19 c0_20 k r h
  unfold impl_Rule_c39.f at h ⊢
  obtain ⟨i, hi, h⟩ := Option.bind_eq_some_iff.mp h
  refine Option.bind_eq_some_iff.mpr ⟨i, Gv.idxO_mono (fun x b hb => ?_) _ _ _ hi, h⟩
  exact impl_RuleCovers.mono _ _ _ _ _ _ _ _ _ _ _ _ _ _ _ _ _ _ _ _ _ _ _ _ _ _ _ _ _ _ _ _ _ _ _ _ _ _ _ _ _ _  k _ hb
set_option maxHeartbeats 8000000 in
set_option maxRecDepth 100000 in
theorem impl_Rule_c39.calls (k : Nat) (A0 : Option Addr) (c0 : Nat) (l0 : List S55) (g0 : Nat) (c0_0 c0_1 c0_2 c0_3 c0_4 c0_5 c0_6 c0_7 c0_8 c0_9 c0_10 c0_11 c0_12 c0_13 c0_14 c0_15 c0_16 c0_17 c0_18 c0_19 c0_20 : Int) (r : Bool) (w : World) (hr0 : Kd.C k55 w A0 l0.length l0) (hc0_ : l0.length ≤ c0) (hc0 : w.heap[g0]? = some (.cells #[.int .i64 c0_0, .int .i64 c0_1, .int .i64 c0_2, .int .i64 c0_3, .int .i64 c0_4, .int .i64 c0_5, .int .i64 c0_6, .int .i64 c0_7, .int .i64 c0_8, .int .i64 c0_9, .int .i64 c0_10, .int .i64 c0_11, .int .i64 c0_12, .int .i64 c0_13, .int .i64 c0_14, .int .i64 c0_15, .int .i64 c0_16, .int .i64 c0_17, .int .i64 c0_18, .int .i64 c0_19, .int .i64 c0_20] 55 (0, 0))) (h : impl_Rule_c39.f k l0 c0_0 c0_1 c0_2 c0_3 c0_4 c0_5 c0_6 c0_7 c0_8 c0_9 c0_10 c0_11 c0_12 c0_13 c0_14 c0_15 c0_16 c0_17 c0_18 c0_19 c0_20 = some r) :
    Calls Try.prog 38 #[.slice A0 l0.length c0, .func (.func 39) #[] #[.pointer (some ⟨g0, 0, none⟩)]] w fun e w' => e = .returned (.bool r) ∧ Below w.heap.size w w' := by
  unfold impl_Rule_c39.f at h
  obtain ⟨i, hi, h⟩ := Option.bind_eq_some_iff.mp h
  obtain rfl := Option.some.inj h
  have HR := Aside0.mk hr0
  have HI := Aside0.mk hi
  clear hr0 hi h
  go_enter Try.func38, Try.ntmps38
  go_wp2_with fail
  refine (impl_Rule_c39.idx 39 #[.pointer (some ⟨g0, 0, none⟩)] (enters_of Try.func39 (by kernel_rfl) rfl) (fun x => impl_RuleCovers.f k x.f0 x.f1.f0.f0 x.f1.f0.f1 x.f1.f0.f2 x.f1.f0.f3 x.f1.f0.f4 x.f1.f1 x.f2.f0.f0 x.f2.f0.f1 x.f2.f0.f2 x.f2.f0.f3 x.f2.f0.f4 x.f2.f1 x.f3 x.f4 x.f5 x.f6 x.f7 x.f8 x.f9 x.f10 c0_0 c0_1 c0_2 c0_3 c0_4 c0_5 c0_6 c0_7 c0_8 c0_9 c0_10 c0_11 c0_12 c0_13 c0_14 c0_15 c0_16 c0_17 c0_18 c0_19 c0_20) A0 c0 l0 i w HR.out (fun W x b hb hW => impl_Rule_c39.clo k g0 c0_0 c0_1 c0_2 c0_3 c0_4 c0_5 c0_6 c0_7 c0_8 c0_9 c0_10 c0_11 c0_12 c0_13 c0_14 c0_15 c0_16 c0_17 c0_18 c0_19 c0_20 x b W (blk_below hc0 hW) hb) HI.out).mono ?_
  rintro e w' ⟨rfl, hb⟩
  have HB := Aside0.mk hb
  clear hb
  go_wp2_with fail
  go_ret
  exact ⟨rfl, HB.out⟩

/-! ### impl_Shadowed: function 17 -/
def impl_Shadowed.l0 : Nat → List (S55) → List Int → List (S55) → Int → Int → Option (List Int)
 | 0, _, _, _, _, _ => none
 | k + 1, x0, x3, x10, x11, x12 => if x12 < x11 then (if 0 ≤ x12 then (if x12 < (x10.length : Int) then (if x12 ≤ (x0.length : Int) then ((impl_Rule_c39.f k (x0.take (x12 : Int).toNat) ((rd_T55 x10 x12).f0) ((rd_T55 x10 x12).f1.f0.f0) ((rd_T55 x10 x12).f1.f0.f1) ((rd_T55 x10 x12).f1.f0.f2) ((rd_T55 x10 x12).f1.f0.f3) ((rd_T55 x10 x12).f1.f0.f4) ((rd_T55 x10 x12).f1.f1) ((rd_T55 x10 x12).f2.f0.f0) ((rd_T55 x10 x12).f2.f0.f1) ((rd_T55 x10 x12).f2.f0.f2) ((rd_T55 x10 x12).f2.f0.f3) ((rd_T55 x10 x12).f2.f0.f4) ((rd_T55 x10 x12).f2.f1) ((rd_T55 x10 x12).f3) ((rd_T55 x10 x12).f4) ((rd_T55 x10 x12).f5) ((rd_T55 x10 x12).f6) ((rd_T55 x10 x12).f7) ((rd_T55 x10 x12).f8) ((rd_T55 x10 x12).f9) ((rd_T55 x10 x12).f10)).bind fun t428 => (if t428 = true then (if x3.length < 17592186044416 then (impl_Shadowed.l0 k x0 (x3 ++ [x12]) x10 x11 (wrap64 (x12 + 1))) else (none)) else (impl_Shadowed.l0 k x0 x3 x10 x11 (wrap64 (x12 + 1))))) else (none)) else (none)) else (none)) else (some x3)
def impl_Shadowed.f (k : Nat) (l0 : List (S55)) : Option (List Int) := (impl_RulesOk.f k l0).bind fun t418 => (if t418 = true then (impl_Shadowed.l0 k l0 (([] : List Int)) l0 (l0.length : Int) 0) else (some ([] : List Int)))
theorem impl_Shadowed.mono_l : ∀ k, (∀ y0 y1 y2 y3 y4, LeO (impl_Shadowed.l0 k y0 y1 y2 y3 y4) (impl_Shadowed.l0 (k + 1) y0 y1 y2 y3 y4))
 | 0 => fun _ _ _ _ _ r h => by simp [impl_Shadowed.l0] at h
 | k + 1 => by
  have ih0 := impl_Shadowed.mono_l k
  ·intro y0 y1 y2 y3 y4
   unfold impl_Shadowed.l0
   repeat' first
   | (with_reducible exact ih0 _ _ _ _ _)
   | (with_reducible exact impl_Rule_c39.mono _ _ _ _ _ _ _ _ _ _ _ _ _ _ _ _ _ _ _ _ _ _ _)
   | (with_reducible exact impl_RulesOk.mono _ _)
   | (with_reducible exact LeO.refl _)
   | (with_reducible exact LeO.none _)
   | (with_reducible refine LeO.ite ?_ ?_)
   | (with_reducible refine LeO.bind ?_ (fun _ => ?_))
   | exact ih0 _ _ _ _ _
   | exact impl_Rule_c39.mono _ _ _ _ _ _ _ _ _ _ _ _ _ _ _ _ _ _ _ _ _ _ _
   | exact impl_RulesOk.mono _ _
   | exact LeO.none _
   | refine LeO.ite ?_ ?_
   | refine LeO.bind ?_ (fun _ => ?_)
theorem impl_Shadowed.mono : ∀ a0 k, LeO (impl_Shadowed.f k a0) (impl_Shadowed.f (k + 1) a0) := by
 intro a0 k
 have ih0 := impl_Shadowed.mono_l k
 unfold impl_Shadowed.f
 repeat' first
   | (with_reducible exact ih0 _ _ _ _ _)
   | (with_reducible exact impl_Rule_c39.mono _ _ _ _ _ _ _ _ _ _ _ _ _ _ _ _ _ _ _ _ _ _ _)
   | (with_reducible exact impl_RulesOk.mono _ _)
   | (with_reducible exact LeO.refl _)
   | (with_reducible exact LeO.none _)
   | (with_reducible refine LeO.ite ?_ ?_)
   | (with_reducible refine LeO.bind ?_ (fun _ => ?_))
   | exact ih0 _ _ _ _ _
   | exact impl_Rule_c39.mono _ _ _ _ _ _ _ _ _ _ _ _ _ _ _ _ _ _ _ _ _ _ _
   | exact impl_RulesOk.mono _ _
   | exact LeO.none _
   | refine LeO.ite ?_ ?_
   | refine LeO.bind ?_ (fun _ => ?_)
set_option maxHeartbeats 8000000 in
set_option maxRecDepth 100000 in
theorem impl_Shadowed.calls (k : Nat) (A0 : Option Addr) (c0 : Nat) (l0 : List (S55)) (r : List Int) (w : World) (hr0 : Kd.C k55 w A0 l0.length l0) (hc0 : l0.length ≤ c0) (h : impl_Shadowed.f k l0 = some r) :
  Calls Try.prog 17 #[.slice A0 l0.length c0] w fun e w' => ∃ v0_ : Value, e = .returned (v0_) ∧ Kd.R (Kd.int .i64) 3 w' w.heap.size (fun _ => True) v0_ r ∧ Below w.heap.size w w' := by
 have hu55 := Try.underlying55
 have HR0 := Gv.a0 hr0
 have HC0 := Gv.a0 hc0
 clear hr0 hc0
 have HB := Gv.a0 (Below.refl w.heap.size w)
 have H : ((impl_RulesOk.f k l0).bind fun t418 => (if t418 = true then (impl_Shadowed.l0 k l0 (([] : List Int)) l0 (l0.length : Int) 0) else (some ([] : List Int)))) = some r := h
 clear h
 replace H := Option.bind_eq_some_iff.mp H
 obtain ⟨t418, A20, H⟩ := H
 replace H : (if t418 = true then (impl_Shadowed.l0 k l0 (([] : List Int)) l0 (l0.length : Int) 0) else (some ([] : List Int))) = some r := H
 have A2 := Gv.a0 A20
 clear A20
 by_cases c3 : t418 = true
 ·subst c3
  have H1 : (impl_Shadowed.l0 k l0 (([] : List Int)) l0 (l0.length : Int) 0) = some r := by rw [if_pos rfl] at H; exact H
  clear H
  have H := H1
  clear H1
  obtain ⟨y419, hy419⟩ : ∃ y_ : List Int, y_ = (([] : List Int)) := ⟨_, rfl⟩
  replace H : (impl_Shadowed.l0 k l0 y419 l0 (l0.length : Int) 0) = some r := by first | (rw [hy419]; with_reducible exact H) | (have H2_ := (Option.bind_some _ _).symm.trans H; rw [hy419]; with_reducible exact H2_) | (have H2_ := (Option.bind_some _ _).symm.trans H; with_reducible exact H2_) | with_reducible exact H | (rw [hy419]; exact H) | exact H
  have Ny419 := Gv.a0 hy419
  clear hy419
  have H' := Gv.a0 H
  clear H
  have hmf : ∀ (fn : Fn) (first cap : Array Value) (w : World), (Instr.makeFunc fn first cap).run Try.prog w = .ok (.func fn first cap) w := fun _ _ _ _ => rfl
  go_enter Try.func17, Try.ntmps17
  go_wp2_with (first | ((with_reducible refine gate_callee (f := 11) rfl ?_); refine goesL_ (some 7) rfl rfl Try.func11 (by kernel_rfl) rfl #[.slice A0 l0.length c0] rfl Gv.lm ?_; (with_reducible refine (impl_RulesOk.calls k _ _ l0 true _ ?side1 ?side2 A2.out).mono ?_); (case side1 => repeat (first | exact HR0.out | (with_reducible refine Kd.C_alloc ?_ _) | (with_reducible refine Kd.C_drewN ?_ _) | (with_reducible refine Kd.C_drew ?_))); (case side2 => exact HC0.out); rintro e w4 ⟨rfl, hb⟩; refine ⟨_, rfl, ?_⟩; have n0_ := Gv.a0 (below_step Gv.bw hb); clear HB; have HB := n0_; clear n0_; (try clear hb); (try clear hb2); (try clear hk); (try clear hi)) | ((with_reducible refine gate_dst (N := 9) rfl ?_); refine Kd.R_lit (Kd.int .i64) _ 3 ?hg (N := 9) ?hd (xs := ([] : List Int)) (inner := []) (ok := fun _ => True) (okp := fun _ => True) ?hr ?hp (fun _ hk => hk) trivial (Below.refl _ _) (Nat.le_refl _) (by simp) ?_; (case hd => rfl); (case hg => rfl); (case hr => first | (go_simp; done) | (go_simp; rfl)); (case hp => exact (Reps.none _ _)); intro v420 w5 ho6 hb hg_ hnew_; clear hg_ hnew_; (first | rw [← Ny419.out] at ho6 | (simp only [Int.reduceToNat] at ho6; rw [← Ny419.out] at ho6)); have n0_ := Gv.a0 (Kd.R_lower ho6 (below_size Gv.bw)); have n1_ := Gv.a0 (below_step Gv.bw hb); clear HB; have HO421 := n0_; have HB := n1_; clear n0_ n1_; clear hb ho6) | ((with_reducible refine Gv.gate_load (t := 55) rfl ?_); (try (refine gate_guard (by rfl) ?_; dsimp only)); refine wpList_load_row rfl 55 _ rfl gb423 rfl 55 _ _ _ (by first | exact Gv.kb0 BK423.out | exact Gv.kb1 (Gv.kb0 BK423.out)) Try.underlying55 rfl (by kernel_rfl) ?_))
  go_loopg [3, 12] k (fun kq v3 v12 w' => ∃ (x3_1 : List Int) (x12_1 : Int), v12 = .int .i64 x12_1 ∧ Aside0 (impl_Shadowed.l0 kq l0 x3_1 l0 (l0.length : Int) x12_1 = some r) ∧ Aside0 (kq ≤ k) ∧ Aside0 (Kd.R (Kd.int .i64) 3 w' w.heap.size (fun _ => True) v3 x3_1) ∧ Aside0 (Below w.heap.size w w'))
  case atStart => exact ⟨(y419), (0), Gv.rq, H', ⟨Nat.le_refl _⟩, ⟨Gv.kr HO421.out⟩, ⟨Gv.bw⟩⟩
  case round =>
   clear H'
   try clear c1
   try clear p2
   try clear c3
   obtain ⟨x3_1, x12_1, rfl, HA, HK1, HO_3, HB⟩ := hrel
   cases gk with
   | zero => exact absurd HA.out (by simp [impl_Shadowed.l0])
   | succ k1 =>
    have H := HA.out
    clear HA
    simp only [impl_Shadowed.l0] at H
    by_cases c7 : x12_1 < (l0.length : Int)
    ·rw [if_pos c7] at H
     have c7b0 : decide (x12_1 < (l0.length : Int)) = true := decide_eq_true c7
     clear c7
     by_cases c8 : 0 ≤ x12_1
     ·rw [if_pos c8] at H
      have c8b0 : decide (0 ≤ x12_1) = true := decide_eq_true c8
      clear c8
      by_cases c9 : x12_1 < (l0.length : Int)
      ·rw [if_pos c9] at H
       have c9b0 : decide (x12_1 < (l0.length : Int)) = true := decide_eq_true c9
       clear c9
       have c10b0 := eq_true (of_decide_eq_true (by first | (with_reducible assumption) | assumption) : 0 ≤ x12_1)
       by_cases c11 : x12_1 ≤ (l0.length : Int)
       ·rw [if_pos c11] at H
        have c11b0 := eq_true c11
        have c11b1 : decide (x12_1 ≤ (l0.length : Int)) = true := decide_eq_true c11
        clear c11
        obtain ⟨y424, hy424⟩ : ∃ y_ : List (S55), y_ = (l0.take (x12_1 : Int).toNat) := ⟨_, rfl⟩
        replace H : ((impl_Rule_c39.f k1 y424 ((rd_T55 l0 x12_1).f0) ((rd_T55 l0 x12_1).f1.f0.f0) ((rd_T55 l0 x12_1).f1.f0.f1) ((rd_T55 l0 x12_1).f1.f0.f2) ((rd_T55 l0 x12_1).f1.f0.f3) ((rd_T55 l0 x12_1).f1.f0.f4) ((rd_T55 l0 x12_1).f1.f1) ((rd_T55 l0 x12_1).f2.f0.f0) ((rd_T55 l0 x12_1).f2.f0.f1) ((rd_T55 l0 x12_1).f2.f0.f2) ((rd_T55 l0 x12_1).f2.f0.f3) ((rd_T55 l0 x12_1).f2.f0.f4) ((rd_T55 l0 x12_1).f2.f1) ((rd_T55 l0 x12_1).f3) ((rd_T55 l0 x12_1).f4) ((rd_T55 l0 x12_1).f5) ((rd_T55 l0 x12_1).f6) ((rd_T55 l0 x12_1).f7) ((rd_T55 l0 x12_1).f8) ((rd_T55 l0 x12_1).f9) ((rd_T55 l0 x12_1).f10)).bind fun t428 => (if t428 = true then (if x3_1.length < 17592186044416 then (impl_Shadowed.l0 k1 l0 (x3_1 ++ [x12_1]) l0 (l0.length : Int) (wrap64 (x12_1 + 1))) else (none)) else (impl_Shadowed.l0 k1 l0 x3_1 l0 (l0.length : Int) (wrap64 (x12_1 + 1))))) = some r := by first | (rw [hy424]; with_reducible exact H) | (have H2_ := (Option.bind_some _ _).symm.trans H; rw [hy424]; with_reducible exact H2_) | (have H2_ := (Option.bind_some _ _).symm.trans H; with_reducible exact H2_) | with_reducible exact H | (rw [hy424]; exact H) | exact H
        have Ny424 := Gv.a0 hy424
        clear hy424
        replace H := Option.bind_eq_some_iff.mp H
        obtain ⟨t428, A120, H⟩ := H
        replace H : (if t428 = true then (if x3_1.length < 17592186044416 then (impl_Shadowed.l0 k1 l0 (x3_1 ++ [x12_1]) l0 (l0.length : Int) (wrap64 (x12_1 + 1))) else (none)) else (impl_Shadowed.l0 k1 l0 x3_1 l0 (l0.length : Int) (wrap64 (x12_1 + 1)))) = some r := H
        have A12 := Gv.a0 A120
        clear A120
        by_cases c13 : t428 = true
        ·subst c13
         have H1 : (if x3_1.length < 17592186044416 then (impl_Shadowed.l0 k1 l0 (x3_1 ++ [x12_1]) l0 (l0.length : Int) (wrap64 (x12_1 + 1))) else (none)) = some r := by rw [if_pos rfl] at H; exact H
         clear H
         have H := H1
         clear H1
         by_cases c14 : x3_1.length < 17592186044416
         ·rw [if_pos c14] at H
          have LMc14 := Gv.a0 c14
          clear c14
          obtain ⟨y429, hy429⟩ : ∃ y_ : List Int, y_ = (x3_1 ++ [x12_1]) := ⟨_, rfl⟩
          replace H : (impl_Shadowed.l0 k1 l0 y429 l0 (l0.length : Int) (wrap64 (x12_1 + 1))) = some r := by first | (rw [hy429]; with_reducible exact H) | (have H2_ := (Option.bind_some _ _).symm.trans H; rw [hy429]; with_reducible exact H2_) | (have H2_ := (Option.bind_some _ _).symm.trans H; with_reducible exact H2_) | with_reducible exact H | (rw [hy429]; exact H) | exact H
          have Ny429 := Gv.a0 hy429
          clear hy429
          have H' := Gv.a0 H
          clear H
          have p422 : 0 ≤ (x12_1 : Int) := of_decide_eq_true (by first | (with_reducible assumption) | assumption)
          have q422 : x12_1 < (l0.length : Int) := of_decide_eq_true (by first | (with_reducible assumption) | assumption)
          obtain ⟨ad422, e422, hx422_0, hx422_1, hx422_2, hx422_3, hx422_4, hx422_5, hx422_6, hx422_7, hx422_8, hx422_9, hx422_10, hx422_11, hx422_12, hx422_13, hx422_14, hx422_15, hx422_16, hx422_17, hx422_18, hx422_19, hx422_20⟩ := at_T55 HR0.out x12_1 p422 q422
          cases e422
          replace hx422_0 := Gv.bx HB.out hx422_0
          replace hx422_1 := Gv.bx HB.out hx422_1
          replace hx422_2 := Gv.bx HB.out hx422_2
          replace hx422_3 := Gv.bx HB.out hx422_3
          replace hx422_4 := Gv.bx HB.out hx422_4
          replace hx422_5 := Gv.bx HB.out hx422_5
          replace hx422_6 := Gv.bx HB.out hx422_6
          replace hx422_7 := Gv.bx HB.out hx422_7
          replace hx422_8 := Gv.bx HB.out hx422_8
          replace hx422_9 := Gv.bx HB.out hx422_9
          replace hx422_10 := Gv.bx HB.out hx422_10
          replace hx422_11 := Gv.bx HB.out hx422_11
          replace hx422_12 := Gv.bx HB.out hx422_12
          replace hx422_13 := Gv.bx HB.out hx422_13
          replace hx422_14 := Gv.bx HB.out hx422_14
          replace hx422_15 := Gv.bx HB.out hx422_15
          replace hx422_16 := Gv.bx HB.out hx422_16
          replace hx422_17 := Gv.bx HB.out hx422_17
          replace hx422_18 := Gv.bx HB.out hx422_18
          replace hx422_19 := Gv.bx HB.out hx422_19
          replace hx422_20 := Gv.bx HB.out hx422_20
          replace p422 := eq_true p422
          replace q422 := eq_true q422
          go_wp2_with (first | ((with_reducible refine gate_dst (N := 5) rfl ?_); refine box_event ?hg (N := 5) ?hd (cs := #[.int .i64 0, .int .i64 0, .int .i64 0, .int .i64 0, .int .i64 0, .int .i64 0, .int .i64 0, .int .i64 0, .int .i64 0, .int .i64 0, .int .i64 0, .int .i64 0, .int .i64 0, .int .i64 0, .int .i64 0, .int .i64 0, .int .i64 0, .int .i64 0, .int .i64 0, .int .i64 0, .int .i64 0]) (t := 55) ?hr ?_; (case hd => rfl); (case hg => rfl); (case hr => first | (go_simp; done) | (go_simp; rfl)); intro gb423 hg w15 hbox hb; have n0_ := Gv.a0 (Kd.R_below (Gv.kr HO_3.out) hb); have n1_ := Gv.a0 (below_step Gv.bw hb); have n2_ := Gv.a0 (hbox); have n3_ := Gv.a0 ((Gv.ble hg Gv.bw : w.heap.size ≤ gb423)); have n4_ := Gv.a0 ((Gv.ble hg Gv.bw : w.heap.size ≤ gb423)); clear HO_3; clear HB; have HO_3 := n0_; have HB := n1_; have BK423 := n2_; have GW423 := n3_; have GE423 := n4_; clear n0_ n1_ n2_ n3_ n4_; clear hb hbox hg; obtain ⟨hcz16_0, hcz16_1, hcz16_2, hcz16_3, hcz16_4, hcz16_5, hcz16_6, hcz16_7, hcz16_8, hcz16_9, hcz16_10, hcz16_11, hcz16_12, hcz16_13, hcz16_14, hcz16_15, hcz16_16, hcz16_17, hcz16_18, hcz16_19, hcz16_20⟩ := Gv.c21 BK423.out) | ((with_reducible refine gate_store (t := 55) (p := 5) rfl ?_); refine Gv.store_event rfl rfl rfl rfl rfl (Gv.kb BK423.out) (by kernel_rfl) rfl (by simp; and_intros <;> rfl) ?_; intro w15s hbox hoth hbel; have n0_ := Gv.a0 (hbox); have n1_ := Gv.a0 (hbel w Gv.bw GE423.out); have n2_ := Gv.a0 (Gv.ro (Gv.kr HO_3.out) (Gv.kb BK423.out) (by decide) hoth); clear BK423 HB HO_3; have BK423 := n0_; have HB := n1_; have HO_3 := n2_; clear n0_ n1_ n2_ hbox hoth hbel; (try clear hcz16_0 hcz16_1 hcz16_2 hcz16_3 hcz16_4 hcz16_5 hcz16_6 hcz16_7 hcz16_8 hcz16_9 hcz16_10 hcz16_11 hcz16_12 hcz16_13 hcz16_14 hcz16_15 hcz16_16 hcz16_17 hcz16_18 hcz16_19 hcz16_20); obtain ⟨hcz16_0, hcz16_1, hcz16_2, hcz16_3, hcz16_4, hcz16_5, hcz16_6, hcz16_7, hcz16_8, hcz16_9, hcz16_10, hcz16_11, hcz16_12, hcz16_13, hcz16_14, hcz16_15, hcz16_16, hcz16_17, hcz16_18, hcz16_19, hcz16_20⟩ := Gv.c21 BK423.out; have q18 : (x12_1 : Int) ≤ ((l0.length : Int) : Int) := of_decide_eq_true (by first | (with_reducible assumption) | assumption); obtain ⟨i018, hi018, _, hsz18, _⟩ := info_parts info55; have hroom18 : l0.length ≤ c0 := HC0.out; have hC18 : Kd.C k55 _ (some ad422) l0.length l0 := HR0.out; have hcut18 := cut_to (P := Try.prog) 25 55 .i64 Try.underlying25 hi018 (some ad422) l0.length c0 x12_1 (of_decide_eq_true (by first | (with_reducible assumption) | assumption)) q18 hroom18; have hr18 := Kd.C_take (m := (x12_1 : Int).toNat) hC18 (by omega); have hy18 : y424.length = (x12_1 : Int).toNat := (by rw [Ny424.out, List.length_take]; omega); rw [← Ny424.out] at hr18; rw [← hy18] at hcut18; have HR427 := Gv.a0 hr18; have HC427 := Gv.a0 (show y424.length ≤ c0 from by omega); clear hr18 hC18 hroom18 hi018 hsz18; have KY18 := Gv.a0 hy18; clear hy18; replace q18 := eq_true q18) | ((with_reducible refine gate_store (t := 55) (p := 5) rfl ?_); refine store_event (t := 55) (p := 5) (v := ?vo_w17) (w1 := (((((((((((((((((((((w15.setCell ⟨gb423, 0, none⟩ (.int .i64 ((rd_T55 l0 x12_1).f0))).setCell ⟨gb423, 1, none⟩ (.int .i64 ((rd_T55 l0 x12_1).f1.f0.f0))).setCell ⟨gb423, 2, none⟩ (.int .i64 ((rd_T55 l0 x12_1).f1.f0.f1))).setCell ⟨gb423, 3, none⟩ (.int .i64 ((rd_T55 l0 x12_1).f1.f0.f2))).setCell ⟨gb423, 4, none⟩ (.int .i64 ((rd_T55 l0 x12_1).f1.f0.f3))).setCell ⟨gb423, 5, none⟩ (.int .i64 ((rd_T55 l0 x12_1).f1.f0.f4))).setCell ⟨gb423, 6, none⟩ (.int .i64 ((rd_T55 l0 x12_1).f1.f1))).setCell ⟨gb423, 7, none⟩ (.int .i64 ((rd_T55 l0 x12_1).f2.f0.f0))).setCell ⟨gb423, 8, none⟩ (.int .i64 ((rd_T55 l0 x12_1).f2.f0.f1))).setCell ⟨gb423, 9, none⟩ (.int .i64 ((rd_T55 l0 x12_1).f2.f0.f2))).setCell ⟨gb423, 10, none⟩ (.int .i64 ((rd_T55 l0 x12_1).f2.f0.f3))).setCell ⟨gb423, 11, none⟩ (.int .i64 ((rd_T55 l0 x12_1).f2.f0.f4))).setCell ⟨gb423, 12, none⟩ (.int .i64 ((rd_T55 l0 x12_1).f2.f1))).setCell ⟨gb423, 13, none⟩ (.int .i64 ((rd_T55 l0 x12_1).f3))).setCell ⟨gb423, 14, none⟩ (.int .i64 ((rd_T55 l0 x12_1).f4))).setCell ⟨gb423, 15, none⟩ (.int .i64 ((rd_T55 l0 x12_1).f5))).setCell ⟨gb423, 16, none⟩ (.int .i64 ((rd_T55 l0 x12_1).f6))).setCell ⟨gb423, 17, none⟩ (.int .i64 ((rd_T55 l0 x12_1).f7))).setCell ⟨gb423, 18, none⟩ (.int .i64 ((rd_T55 l0 x12_1).f8))).setCell ⟨gb423, 19, none⟩ (.int .i64 ((rd_T55 l0 x12_1).f9))).setCell ⟨gb423, 20, none⟩ (.int .i64 ((rd_T55 l0 x12_1).f10)))) ?hg ?ho ?hn ?hr ?_; (case ho => rfl); (case hg => rfl); (case hn => rfl); (case hr => first | (go_simp; done) | (go_simp; rfl)); intro w17 hw; have n0_ : Aside0 (Kd.R (Kd.int .i64) 3 w17 w.heap.size (fun _ => True) u3 x3_1) := ⟨(by rw [hw]; exact (by (with_reducible repeat (first | apply Kd.R_alloc | apply Kd.R_drewN | apply Kd.R_drew)); exact Kd.R_mono (Kd.R_far (p := ⟨gb423, 20, none⟩) (Kd.R_far (p := ⟨gb423, 19, none⟩) (Kd.R_far (p := ⟨gb423, 18, none⟩) (Kd.R_far (p := ⟨gb423, 17, none⟩) (Kd.R_far (p := ⟨gb423, 16, none⟩) (Kd.R_far (p := ⟨gb423, 15, none⟩) (Kd.R_far (p := ⟨gb423, 14, none⟩) (Kd.R_far (p := ⟨gb423, 13, none⟩) (Kd.R_far (p := ⟨gb423, 12, none⟩) (Kd.R_far (p := ⟨gb423, 11, none⟩) (Kd.R_far (p := ⟨gb423, 10, none⟩) (Kd.R_far (p := ⟨gb423, 9, none⟩) (Kd.R_far (p := ⟨gb423, 8, none⟩) (Kd.R_far (p := ⟨gb423, 7, none⟩) (Kd.R_far (p := ⟨gb423, 6, none⟩) (Kd.R_far (p := ⟨gb423, 5, none⟩) (Kd.R_far (p := ⟨gb423, 4, none⟩) (Kd.R_far (p := ⟨gb423, 3, none⟩) (Kd.R_far (p := ⟨gb423, 2, none⟩) (Kd.R_far (p := ⟨gb423, 1, none⟩) (Kd.R_far (p := ⟨gb423, 0, none⟩) (Kd.R_types HO_3.out BK423.out (by decide)) (fun _ hk => hk.2) (.int .i64 ((rd_T55 l0 x12_1).f0))) (fun _ hk => hk.2) (.int .i64 ((rd_T55 l0 x12_1).f1.f0.f0))) (fun _ hk => hk.2) (.int .i64 ((rd_T55 l0 x12_1).f1.f0.f1))) (fun _ hk => hk.2) (.int .i64 ((rd_T55 l0 x12_1).f1.f0.f2))) (fun _ hk => hk.2) (.int .i64 ((rd_T55 l0 x12_1).f1.f0.f3))) (fun _ hk => hk.2) (.int .i64 ((rd_T55 l0 x12_1).f1.f0.f4))) (fun _ hk => hk.2) (.int .i64 ((rd_T55 l0 x12_1).f1.f1))) (fun _ hk => hk.2) (.int .i64 ((rd_T55 l0 x12_1).f2.f0.f0))) (fun _ hk => hk.2) (.int .i64 ((rd_T55 l0 x12_1).f2.f0.f1))) (fun _ hk => hk.2) (.int .i64 ((rd_T55 l0 x12_1).f2.f0.f2))) (fun _ hk => hk.2) (.int .i64 ((rd_T55 l0 x12_1).f2.f0.f3))) (fun _ hk => hk.2) (.int .i64 ((rd_T55 l0 x12_1).f2.f0.f4))) (fun _ hk => hk.2) (.int .i64 ((rd_T55 l0 x12_1).f2.f1))) (fun _ hk => hk.2) (.int .i64 ((rd_T55 l0 x12_1).f3))) (fun _ hk => hk.2) (.int .i64 ((rd_T55 l0 x12_1).f4))) (fun _ hk => hk.2) (.int .i64 ((rd_T55 l0 x12_1).f5))) (fun _ hk => hk.2) (.int .i64 ((rd_T55 l0 x12_1).f6))) (fun _ hk => hk.2) (.int .i64 ((rd_T55 l0 x12_1).f7))) (fun _ hk => hk.2) (.int .i64 ((rd_T55 l0 x12_1).f8))) (fun _ hk => hk.2) (.int .i64 ((rd_T55 l0 x12_1).f9))) (fun _ hk => hk.2) (.int .i64 ((rd_T55 l0 x12_1).f10))) (fun _ hk => trivial)))⟩; have n1_ : Aside0 (w17.heap[gb423]? = some (.cells #[.int .i64 ((rd_T55 l0 x12_1).f0), .int .i64 ((rd_T55 l0 x12_1).f1.f0.f0), .int .i64 ((rd_T55 l0 x12_1).f1.f0.f1), .int .i64 ((rd_T55 l0 x12_1).f1.f0.f2), .int .i64 ((rd_T55 l0 x12_1).f1.f0.f3), .int .i64 ((rd_T55 l0 x12_1).f1.f0.f4), .int .i64 ((rd_T55 l0 x12_1).f1.f1), .int .i64 ((rd_T55 l0 x12_1).f2.f0.f0), .int .i64 ((rd_T55 l0 x12_1).f2.f0.f1), .int .i64 ((rd_T55 l0 x12_1).f2.f0.f2), .int .i64 ((rd_T55 l0 x12_1).f2.f0.f3), .int .i64 ((rd_T55 l0 x12_1).f2.f0.f4), .int .i64 ((rd_T55 l0 x12_1).f2.f1), .int .i64 ((rd_T55 l0 x12_1).f3), .int .i64 ((rd_T55 l0 x12_1).f4), .int .i64 ((rd_T55 l0 x12_1).f5), .int .i64 ((rd_T55 l0 x12_1).f6), .int .i64 ((rd_T55 l0 x12_1).f7), .int .i64 ((rd_T55 l0 x12_1).f8), .int .i64 ((rd_T55 l0 x12_1).f9), .int .i64 ((rd_T55 l0 x12_1).f10)] 55 (0, 0))) := ⟨(by rw [hw]; exact (by (with_reducible repeat (first | refine blk_drewN ?_ _ | refine blk_drew ?_ | refine blk_alloc ?_ _)); exact BK423.out))⟩; have n2_ : Aside0 (Below w.heap.size w w17) := ⟨(by rw [hw]; exact Gv.bw)⟩; clear hw; clear HO_3; clear BK423; clear HB; have HO_3 := n0_; have BK423 := n1_; have HB := n2_; clear n0_ n1_ n2_; have q18 : (x12_1 : Int) ≤ ((l0.length : Int) : Int) := of_decide_eq_true (by first | (with_reducible assumption) | assumption); obtain ⟨i018, hi018, _, hsz18, _⟩ := info_parts info55; have hroom18 : l0.length ≤ c0 := HC0.out; have hC18 : Kd.C k55 _ (some ad422) l0.length l0 := HR0.out; have hcut18 := cut_to (P := Try.prog) 25 55 .i64 Try.underlying25 hi018 (some ad422) l0.length c0 x12_1 (of_decide_eq_true (by first | (with_reducible assumption) | assumption)) q18 hroom18; have hr18 := Kd.C_take (m := (x12_1 : Int).toNat) hC18 (by omega); have hy18 : y424.length = (x12_1 : Int).toNat := (by rw [Ny424.out, List.length_take]; omega); rw [← Ny424.out] at hr18; rw [← hy18] at hcut18; have HR427 := Gv.a0 hr18; have HC427 := Gv.a0 (show y424.length ≤ c0 from by omega); clear hr18 hC18 hroom18 hi018 hsz18; have KY18 := Gv.a0 hy18; clear hy18; replace q18 := eq_true q18) | ((with_reducible refine gate_callee (f := 38) rfl ?_); refine goesL_ (some 21) rfl rfl Try.func38 (by kernel_rfl) rfl #[.slice (some ad422) y424.length c0, .func (.func 39) #[] #[.pointer (some ⟨gb423, 0, none⟩)]] rfl Gv.lm ?_; (with_reducible refine (impl_Rule_c39.calls k1 _ _ y424 gb423 _ _ _ _ _ _ _ _ _ _ _ _ _ _ _ _ _ _ _ _ _ true _ ?side1 ?side2 ?side3 A12.out).mono ?_); (case side1 => repeat (first | exact (Kd.C_below HR427.out HB.out) | (with_reducible refine Kd.C_alloc ?_ _) | (with_reducible refine Kd.C_drewN ?_ _) | (with_reducible refine Kd.C_drew ?_))); (case side2 => exact HC427.out); (case side3 => exact Gv.bk); rintro e w19 ⟨rfl, hb⟩; refine ⟨_, rfl, ?_⟩; have n0_ := Gv.a0 (Kd.R_below (Gv.kr HO_3.out) hb); have n1_ := Gv.a0 (Gv.bb BK423.out hb); have n2_ := Gv.a0 (below_step Gv.bw hb); clear HO_3; clear BK423; clear HB; have HO_3 := n0_; have BK423 := n1_; have HB := n2_; clear n0_ n1_ n2_; (try clear hb); (try clear hb2); (try clear hk); (try clear hi)) | ((with_reducible refine gate_builtin (b := .append) (xs := #[.tmp 22, .tmp 24]) rfl ?_); at_builtin; refine Kd.R_append (Kd.int .i64) (w0 := w) w.heap.size rfl (.tmp 22) (.tmp 24) 39 3 (.int .i64 0) 8 rfl Try.underlying39 info3 rfl (by decide) (by omega) u3 x3_1 x12_1 [.int .i64 x12_1] (fun _ => True) (fun _ => False) rfl rfl ?aP (fun _ hk => hk.elim) ?aF ?aO ?aB ?aS ?aL ?_; (case aP => exact rfl); (case aB => exact Gv.bw); (case aF => exact (fun _ _ => trivial)); (case aO => exact (Gv.kr HO_3.out)); (case aS => exact (below_size Gv.bw)); (case aL => have := LMc14.out; omega); intro v430 w20 ho hb hg hat; rw [← Ny429.out] at ho; have n0_ := Gv.a0 (blk_grown (g := gb423) (o := .cells #[.int .i64 ((rd_T55 l0 x12_1).f0), .int .i64 ((rd_T55 l0 x12_1).f1.f0.f0), .int .i64 ((rd_T55 l0 x12_1).f1.f0.f1), .int .i64 ((rd_T55 l0 x12_1).f1.f0.f2), .int .i64 ((rd_T55 l0 x12_1).f1.f0.f3), .int .i64 ((rd_T55 l0 x12_1).f1.f0.f4), .int .i64 ((rd_T55 l0 x12_1).f1.f1), .int .i64 ((rd_T55 l0 x12_1).f2.f0.f0), .int .i64 ((rd_T55 l0 x12_1).f2.f0.f1), .int .i64 ((rd_T55 l0 x12_1).f2.f0.f2), .int .i64 ((rd_T55 l0 x12_1).f2.f0.f3), .int .i64 ((rd_T55 l0 x12_1).f2.f0.f4), .int .i64 ((rd_T55 l0 x12_1).f2.f1), .int .i64 ((rd_T55 l0 x12_1).f3), .int .i64 ((rd_T55 l0 x12_1).f4), .int .i64 ((rd_T55 l0 x12_1).f5), .int .i64 ((rd_T55 l0 x12_1).f6), .int .i64 ((rd_T55 l0 x12_1).f7), .int .i64 ((rd_T55 l0 x12_1).f8), .int .i64 ((rd_T55 l0 x12_1).f9), .int .i64 ((rd_T55 l0 x12_1).f10)] 55 (0, 0)) Gv.bk hg (Kd.R_ne HO_3.out BK423.out (by decide))); have n1_ := Gv.a0 (hb); have n2_ := Gv.a0 (ho); clear BK423; clear HB; clear HO_3; have BK423 := n0_; have HB := n1_; have HO431 := n2_; clear n0_ n1_ n2_; clear ho hb hg hat) | ((with_reducible refine Gv.gate_load (t := 55) rfl ?_); (try (refine gate_guard (by rfl) ?_; dsimp only)); refine wpList_load_row rfl 55 _ rfl gb423 rfl 55 _ _ _ (by first | exact Gv.kb0 BK423.out | exact Gv.kb1 (Gv.kb0 BK423.out)) Try.underlying55 rfl (by kernel_rfl) ?_) | ((with_reducible refine Gv.gate_load (t := 55) rfl ?_); refine Gv.load_event (cs := [_, _, _, _, _, _, _, _, _, _, _, _, _, _, _, _, _, _, _, _, _]) rfl rfl rfl ⟨hx422_0, hx422_1, hx422_2, hx422_3, hx422_4, hx422_5, hx422_6, hx422_7, hx422_8, hx422_9, hx422_10, hx422_11, hx422_12, hx422_13, hx422_14, hx422_15, hx422_16, hx422_17, hx422_18, hx422_19, hx422_20, trivial⟩ Try.underlying55 rfl (by kernel_rfl) ?_))
          go_roundg k1
          case measure => have := HK1.out; omega
          case rel => exact ⟨(y429), (wrap64 (x12_1 + 1)), Gv.rq, H', ⟨by have := HK1.out; omega⟩, ⟨Gv.kr HO431.out⟩, ⟨Gv.bw⟩⟩
         ·rw [if_neg c14] at H
          exact absurd H (by simp)
        ·replace c13 := Bool.eq_false_iff.mpr c13
         subst c13
         have H1 : (impl_Shadowed.l0 k1 l0 x3_1 l0 (l0.length : Int) (wrap64 (x12_1 + 1))) = some r := by rw [if_neg (show ¬ (false = true) by decide)] at H; exact H
         clear H
         have H := H1
         clear H1
         have H' := Gv.a0 H
         clear H
         have p422 : 0 ≤ (x12_1 : Int) := of_decide_eq_true (by first | (with_reducible assumption) | assumption)
         have q422 : x12_1 < (l0.length : Int) := of_decide_eq_true (by first | (with_reducible assumption) | assumption)
         obtain ⟨ad422, e422, hx422_0, hx422_1, hx422_2, hx422_3, hx422_4, hx422_5, hx422_6, hx422_7, hx422_8, hx422_9, hx422_10, hx422_11, hx422_12, hx422_13, hx422_14, hx422_15, hx422_16, hx422_17, hx422_18, hx422_19, hx422_20⟩ := at_T55 HR0.out x12_1 p422 q422
         cases e422
         replace hx422_0 := Gv.bx HB.out hx422_0
         replace hx422_1 := Gv.bx HB.out hx422_1
         replace hx422_2 := Gv.bx HB.out hx422_2
         replace hx422_3 := Gv.bx HB.out hx422_3
         replace hx422_4 := Gv.bx HB.out hx422_4
         replace hx422_5 := Gv.bx HB.out hx422_5
         replace hx422_6 := Gv.bx HB.out hx422_6
         replace hx422_7 := Gv.bx HB.out hx422_7
         replace hx422_8 := Gv.bx HB.out hx422_8
         replace hx422_9 := Gv.bx HB.out hx422_9
         replace hx422_10 := Gv.bx HB.out hx422_10
         replace hx422_11 := Gv.bx HB.out hx422_11
         replace hx422_12 := Gv.bx HB.out hx422_12
         replace hx422_13 := Gv.bx HB.out hx422_13
         replace hx422_14 := Gv.bx HB.out hx422_14
         replace hx422_15 := Gv.bx HB.out hx422_15
         replace hx422_16 := Gv.bx HB.out hx422_16
         replace hx422_17 := Gv.bx HB.out hx422_17
         replace hx422_18 := Gv.bx HB.out hx422_18
         replace hx422_19 := Gv.bx HB.out hx422_19
         replace hx422_20 := Gv.bx HB.out hx422_20
         replace p422 := eq_true p422
         replace q422 := eq_true q422
         go_wp2_with (first | ((with_reducible refine gate_dst (N := 5) rfl ?_); refine box_event ?hg (N := 5) ?hd (cs := #[.int .i64 0, .int .i64 0, .int .i64 0, .int .i64 0, .int .i64 0, .int .i64 0, .int .i64 0, .int .i64 0, .int .i64 0, .int .i64 0, .int .i64 0, .int .i64 0, .int .i64 0, .int .i64 0, .int .i64 0, .int .i64 0, .int .i64 0, .int .i64 0, .int .i64 0, .int .i64 0, .int .i64 0]) (t := 55) ?hr ?_; (case hd => rfl); (case hg => rfl); (case hr => first | (go_simp; done) | (go_simp; rfl)); intro gb423 hg w21 hbox hb; have n0_ := Gv.a0 (Kd.R_below (Gv.kr HO_3.out) hb); have n1_ := Gv.a0 (below_step Gv.bw hb); have n2_ := Gv.a0 (hbox); have n3_ := Gv.a0 ((Gv.ble hg Gv.bw : w.heap.size ≤ gb423)); have n4_ := Gv.a0 ((Gv.ble hg Gv.bw : w.heap.size ≤ gb423)); clear HO_3; clear HB; have HO_3 := n0_; have HB := n1_; have BK423 := n2_; have GW423 := n3_; have GE423 := n4_; clear n0_ n1_ n2_ n3_ n4_; clear hb hbox hg; obtain ⟨hcz22_0, hcz22_1, hcz22_2, hcz22_3, hcz22_4, hcz22_5, hcz22_6, hcz22_7, hcz22_8, hcz22_9, hcz22_10, hcz22_11, hcz22_12, hcz22_13, hcz22_14, hcz22_15, hcz22_16, hcz22_17, hcz22_18, hcz22_19, hcz22_20⟩ := Gv.c21 BK423.out) | ((with_reducible refine gate_store (t := 55) (p := 5) rfl ?_); refine Gv.store_event rfl rfl rfl rfl rfl (Gv.kb BK423.out) (by kernel_rfl) rfl (by simp; and_intros <;> rfl) ?_; intro w21s hbox hoth hbel; have n0_ := Gv.a0 (hbox); have n1_ := Gv.a0 (hbel w Gv.bw GE423.out); have n2_ := Gv.a0 (Gv.ro (Gv.kr HO_3.out) (Gv.kb BK423.out) (by decide) hoth); clear BK423 HB HO_3; have BK423 := n0_; have HB := n1_; have HO_3 := n2_; clear n0_ n1_ n2_ hbox hoth hbel; (try clear hcz22_0 hcz22_1 hcz22_2 hcz22_3 hcz22_4 hcz22_5 hcz22_6 hcz22_7 hcz22_8 hcz22_9 hcz22_10 hcz22_11 hcz22_12 hcz22_13 hcz22_14 hcz22_15 hcz22_16 hcz22_17 hcz22_18 hcz22_19 hcz22_20); obtain ⟨hcz22_0, hcz22_1, hcz22_2, hcz22_3, hcz22_4, hcz22_5, hcz22_6, hcz22_7, hcz22_8, hcz22_9, hcz22_10, hcz22_11, hcz22_12, hcz22_13, hcz22_14, hcz22_15, hcz22_16, hcz22_17, hcz22_18, hcz22_19, hcz22_20⟩ := Gv.c21 BK423.out; have q24 : (x12_1 : Int) ≤ ((l0.length : Int) : Int) := of_decide_eq_true (by first | (with_reducible assumption) | assumption); obtain ⟨i024, hi024, _, hsz24, _⟩ := info_parts info55; have hroom24 : l0.length ≤ c0 := HC0.out; have hC24 : Kd.C k55 _ (some ad422) l0.length l0 := HR0.out; have hcut24 := cut_to (P := Try.prog) 25 55 .i64 Try.underlying25 hi024 (some ad422) l0.length c0 x12_1 (of_decide_eq_true (by first | (with_reducible assumption) | assumption)) q24 hroom24; have hr24 := Kd.C_take (m := (x12_1 : Int).toNat) hC24 (by omega); have hy24 : y424.length = (x12_1 : Int).toNat := (by rw [Ny424.out, List.length_take]; omega); rw [← Ny424.out] at hr24; rw [← hy24] at hcut24; have HR427 := Gv.a0 hr24; have HC427 := Gv.a0 (show y424.length ≤ c0 from by omega); clear hr24 hC24 hroom24 hi024 hsz24; have KY24 := Gv.a0 hy24; clear hy24; replace q24 := eq_true q24) | ((with_reducible refine gate_store (t := 55) (p := 5) rfl ?_); refine store_event (t := 55) (p := 5) (v := ?vo_w23) (w1 := (((((((((((((((((((((w21.setCell ⟨gb423, 0, none⟩ (.int .i64 ((rd_T55 l0 x12_1).f0))).setCell ⟨gb423, 1, none⟩ (.int .i64 ((rd_T55 l0 x12_1).f1.f0.f0))).setCell ⟨gb423, 2, none⟩ (.int .i64 ((rd_T55 l0 x12_1).f1.f0.f1))).setCell ⟨gb423, 3, none⟩ (.int .i64 ((rd_T55 l0 x12_1).f1.f0.f2))).setCell ⟨gb423, 4, none⟩ (.int .i64 ((rd_T55 l0 x12_1).f1.f0.f3))).setCell ⟨gb423, 5, none⟩ (.int .i64 ((rd_T55 l0 x12_1).f1.f0.f4))).setCell ⟨gb423, 6, none⟩ (.int .i64 ((rd_T55 l0 x12_1).f1.f1))).setCell ⟨gb423, 7, none⟩ (.int .i64 ((rd_T55 l0 x12_1).f2.f0.f0))).setCell ⟨gb423, 8, none⟩ (.int .i64 ((rd_T55 l0 x12_1).f2.f0.f1))).setCell ⟨gb423, 9, none⟩ (.int .i64 ((rd_T55 l0 x12_1).f2.f0.f2))).setCell ⟨gb423, 10, none⟩ (.int .i64 ((rd_T55 l0 x12_1).f2.f0.f3))).setCell ⟨gb423, 11, none⟩ (.int .i64 ((rd_T55 l0 x12_1).f2.f0.f4))).setCell ⟨gb423, 12, none⟩ (.int .i64 ((rd_T55 l0 x12_1).f2.f1))).setCell ⟨gb423, 13, none⟩ (.int .i64 ((rd_T55 l0 x12_1).f3))).setCell ⟨gb423, 14, none⟩ (.int .i64 ((rd_T55 l0 x12_1).f4))).setCell ⟨gb423, 15, none⟩ (.int .i64 ((rd_T55 l0 x12_1).f5))).setCell ⟨gb423, 16, none⟩ (.int .i64 ((rd_T55 l0 x12_1).f6))).setCell ⟨gb423, 17, none⟩ (.int .i64 ((rd_T55 l0 x12_1).f7))).setCell ⟨gb423, 18, none⟩ (.int .i64 ((rd_T55 l0 x12_1).f8))).setCell ⟨gb423, 19, none⟩ (.int .i64 ((rd_T55 l0 x12_1).f9))).setCell ⟨gb423, 20, none⟩ (.int .i64 ((rd_T55 l0 x12_1).f10)))) ?hg ?ho ?hn ?hr ?_; (case ho => rfl); (case hg => rfl); (case hn => rfl); (case hr => first | (go_simp; done) | (go_simp; rfl)); intro w23 hw; have n0_ : Aside0 (Kd.R (Kd.int .i64) 3 w23 w.heap.size (fun _ => True) u3 x3_1) := ⟨(by rw [hw]; exact (by (with_reducible repeat (first | apply Kd.R_alloc | apply Kd.R_drewN | apply Kd.R_drew)); exact Kd.R_mono (Kd.R_far (p := ⟨gb423, 20, none⟩) (Kd.R_far (p := ⟨gb423, 19, none⟩) (Kd.R_far (p := ⟨gb423, 18, none⟩) (Kd.R_far (p := ⟨gb423, 17, none⟩) (Kd.R_far (p := ⟨gb423, 16, none⟩) (Kd.R_far (p := ⟨gb423, 15, none⟩) (Kd.R_far (p := ⟨gb423, 14, none⟩) (Kd.R_far (p := ⟨gb423, 13, none⟩) (Kd.R_far (p := ⟨gb423, 12, none⟩) (Kd.R_far (p := ⟨gb423, 11, none⟩) (Kd.R_far (p := ⟨gb423, 10, none⟩) (Kd.R_far (p := ⟨gb423, 9, none⟩) (Kd.R_far (p := ⟨gb423, 8, none⟩) (Kd.R_far (p := ⟨gb423, 7, none⟩) (Kd.R_far (p := ⟨gb423, 6, none⟩) (Kd.R_far (p := ⟨gb423, 5, none⟩) (Kd.R_far (p := ⟨gb423, 4, none⟩) (Kd.R_far (p := ⟨gb423, 3, none⟩) (Kd.R_far (p := ⟨gb423, 2, none⟩) (Kd.R_far (p := ⟨gb423, 1, none⟩) (Kd.R_far (p := ⟨gb423, 0, none⟩) (Kd.R_types HO_3.out BK423.out (by decide)) (fun _ hk => hk.2) (.int .i64 ((rd_T55 l0 x12_1).f0))) (fun _ hk => hk.2) (.int .i64 ((rd_T55 l0 x12_1).f1.f0.f0))) (fun _ hk => hk.2) (.int .i64 ((rd_T55 l0 x12_1).f1.f0.f1))) (fun _ hk => hk.2) (.int .i64 ((rd_T55 l0 x12_1).f1.f0.f2))) (fun _ hk => hk.2) (.int .i64 ((rd_T55 l0 x12_1).f1.f0.f3))) (fun _ hk => hk.2) (.int .i64 ((rd_T55 l0 x12_1).f1.f0.f4))) (fun _ hk => hk.2) (.int .i64 ((rd_T55 l0 x12_1).f1.f1))) (fun _ hk => hk.2) (.int .i64 ((rd_T55 l0 x12_1).f2.f0.f0))) (fun _ hk => hk.2) (.int .i64 ((rd_T55 l0 x12_1).f2.f0.f1))) (fun _ hk => hk.2) (.int .i64 ((rd_T55 l0 x12_1).f2.f0.f2))) (fun _ hk => hk.2) (.int .i64 ((rd_T55 l0 x12_1).f2.f0.f3))) (fun _ hk => hk.2) (.int .i64 ((rd_T55 l0 x12_1).f2.f0.f4))) (fun _ hk => hk.2) (.int .i64 ((rd_T55 l0 x12_1).f2.f1))) (fun _ hk => hk.2) (.int .i64 ((rd_T55 l0 x12_1).f3))) (fun _ hk => hk.2) (.int .i64 ((rd_T55 l0 x12_1).f4))) (fun _ hk => hk.2) (.int .i64 ((rd_T55 l0 x12_1).f5))) (fun _ hk => hk.2) (.int .i64 ((rd_T55 l0 x12_1).f6))) (fun _ hk => hk.2) (.int .i64 ((rd_T55 l0 x12_1).f7))) (fun _ hk => hk.2) (.int .i64 ((rd_T55 l0 x12_1).f8))) (fun _ hk => hk.2) (.int .i64 ((rd_T55 l0 x12_1).f9))) (fun _ hk => hk.2) (.int .i64 ((rd_T55 l0 x12_1).f10))) (fun _ hk => trivial)))⟩; have n1_ : Aside0 (w23.heap[gb423]? = some (.cells #[.int .i64 ((rd_T55 l0 x12_1).f0), .int .i64 ((rd_T55 l0 x12_1).f1.f0.f0), .int .i64 ((rd_T55 l0 x12_1).f1.f0.f1), .int .i64 ((rd_T55 l0 x12_1).f1.f0.f2), .int .i64 ((rd_T55 l0 x12_1).f1.f0.f3), .int .i64 ((rd_T55 l0 x12_1).f1.f0.f4), .int .i64 ((rd_T55 l0 x12_1).f1.f1), .int .i64 ((rd_T55 l0 x12_1).f2.f0.f0), .int .i64 ((rd_T55 l0 x12_1).f2.f0.f1), .int .i64 ((rd_T55 l0 x12_1).f2.f0.f2), .int .i64 ((rd_T55 l0 x12_1).f2.f0.f3), .int .i64 ((rd_T55 l0 x12_1).f2.f0.f4), .int .i64 ((rd_T55 l0 x12_1).f2.f1), .int .i64 ((rd_T55 l0 x12_1).f3), .int .i64 ((rd_T55 l0 x12_1).f4), .int .i64 ((rd_T55 l0 x12_1).f5), .int .i64 ((rd_T55 l0 x12_1).f6), .int .i64 ((rd_T55 l0 x12_1).f7), .int .i64 ((rd_T55 l0 x12_1).f8), .int .i64 ((rd_T55 l0 x12_1).f9), .int .i64 ((rd_T55 l0 x12_1).f10)] 55 (0, 0))) := ⟨(by rw [hw]; exact (by (with_reducible repeat (first | refine blk_drewN ?_ _ | refine blk_drew ?_ | refine blk_alloc ?_ _)); exact BK423.out))⟩; have n2_ : Aside0 (Below w.heap.size w w23) := ⟨(by rw [hw]; exact Gv.bw)⟩; clear hw; clear HO_3; clear BK423; clear HB; have HO_3 := n0_; have BK423 := n1_; have HB := n2_; clear n0_ n1_ n2_; have q24 : (x12_1 : Int) ≤ ((l0.length : Int) : Int) := of_decide_eq_true (by first | (with_reducible assumption) | assumption); obtain ⟨i024, hi024, _, hsz24, _⟩ := info_parts info55; have hroom24 : l0.length ≤ c0 := HC0.out; have hC24 : Kd.C k55 _ (some ad422) l0.length l0 := HR0.out; have hcut24 := cut_to (P := Try.prog) 25 55 .i64 Try.underlying25 hi024 (some ad422) l0.length c0 x12_1 (of_decide_eq_true (by first | (with_reducible assumption) | assumption)) q24 hroom24; have hr24 := Kd.C_take (m := (x12_1 : Int).toNat) hC24 (by omega); have hy24 : y424.length = (x12_1 : Int).toNat := (by rw [Ny424.out, List.length_take]; omega); rw [← Ny424.out] at hr24; rw [← hy24] at hcut24; have HR427 := Gv.a0 hr24; have HC427 := Gv.a0 (show y424.length ≤ c0 from by omega); clear hr24 hC24 hroom24 hi024 hsz24; have KY24 := Gv.a0 hy24; clear hy24; replace q24 := eq_true q24) | ((with_reducible refine gate_callee (f := 38) rfl ?_); refine goesL_ (some 21) rfl rfl Try.func38 (by kernel_rfl) rfl #[.slice (some ad422) y424.length c0, .func (.func 39) #[] #[.pointer (some ⟨gb423, 0, none⟩)]] rfl Gv.lm ?_; (with_reducible refine (impl_Rule_c39.calls k1 _ _ y424 gb423 _ _ _ _ _ _ _ _ _ _ _ _ _ _ _ _ _ _ _ _ _ false _ ?side1 ?side2 ?side3 A12.out).mono ?_); (case side1 => repeat (first | exact (Kd.C_below HR427.out HB.out) | (with_reducible refine Kd.C_alloc ?_ _) | (with_reducible refine Kd.C_drewN ?_ _) | (with_reducible refine Kd.C_drew ?_))); (case side2 => exact HC427.out); (case side3 => exact Gv.bk); rintro e w25 ⟨rfl, hb⟩; refine ⟨_, rfl, ?_⟩; have n0_ := Gv.a0 (Kd.R_below (Gv.kr HO_3.out) hb); have n1_ := Gv.a0 (Gv.bb BK423.out hb); have n2_ := Gv.a0 (below_step Gv.bw hb); clear HO_3; clear BK423; clear HB; have HO_3 := n0_; have BK423 := n1_; have HB := n2_; clear n0_ n1_ n2_; (try clear hb); (try clear hb2); (try clear hk); (try clear hi)) | ((with_reducible refine Gv.gate_load (t := 55) rfl ?_); (try (refine gate_guard (by rfl) ?_; dsimp only)); refine wpList_load_row rfl 55 _ rfl gb423 rfl 55 _ _ _ (by first | exact Gv.kb0 BK423.out | exact Gv.kb1 (Gv.kb0 BK423.out)) Try.underlying55 rfl (by kernel_rfl) ?_) | ((with_reducible refine Gv.gate_load (t := 55) rfl ?_); refine Gv.load_event (cs := [_, _, _, _, _, _, _, _, _, _, _, _, _, _, _, _, _, _, _, _, _]) rfl rfl rfl ⟨hx422_0, hx422_1, hx422_2, hx422_3, hx422_4, hx422_5, hx422_6, hx422_7, hx422_8, hx422_9, hx422_10, hx422_11, hx422_12, hx422_13, hx422_14, hx422_15, hx422_16, hx422_17, hx422_18, hx422_19, hx422_20, trivial⟩ Try.underlying55 rfl (by kernel_rfl) ?_))
         go_roundg k1
         case measure => have := HK1.out; omega
         case rel => exact ⟨(x3_1), (wrap64 (x12_1 + 1)), Gv.rq, H', ⟨by have := HK1.out; omega⟩, ⟨Gv.kr HO_3.out⟩, ⟨Gv.bw⟩⟩
       ·rw [if_neg c11] at H
        exact absurd H (by simp)
      ·rw [if_neg c9] at H
       exact absurd H (by simp)
     ·rw [if_neg c8] at H
      exact absurd H (by simp)
    ·rw [if_neg c7] at H
     have c7b0 : decide (x12_1 < (l0.length : Int)) = false := decide_eq_false c7
     clear c7
     obtain rfl := Option.some.inj H
     go_wp2_with (first | ((with_reducible refine Gv.gate_load (t := 55) rfl ?_); (try (refine gate_guard (by rfl) ?_; dsimp only)); refine wpList_load_row rfl 55 _ rfl gb423 rfl 55 _ _ _ (by first | exact Gv.kb0 BK423.out | exact Gv.kb1 (Gv.kb0 BK423.out)) Try.underlying55 rfl (by kernel_rfl) ?_))
     go_ret
     exact ⟨_, Gv.rt, Gv.kr HO_3.out, Gv.bw⟩
 ·replace c3 := Bool.eq_false_iff.mpr c3
  subst c3
  have H1 : (some ([] : List Int)) = some r := by rw [if_neg (show ¬ (false = true) by decide)] at H; exact H
  clear H
  have H := H1
  clear H1
  obtain rfl := Option.some.inj H
  have hmf : ∀ (fn : Fn) (first cap : Array Value) (w : World), (Instr.makeFunc fn first cap).run Try.prog w = .ok (.func fn first cap) w := fun _ _ _ _ => rfl
  go_enter Try.func17, Try.ntmps17
  go_wp2_with (first | ((with_reducible refine gate_callee (f := 11) rfl ?_); refine goesL_ (some 7) rfl rfl Try.func11 (by kernel_rfl) rfl #[.slice A0 l0.length c0] rfl Gv.lm ?_; (with_reducible refine (impl_RulesOk.calls k _ _ l0 false _ ?side1 ?side2 A2.out).mono ?_); (case side1 => repeat (first | exact HR0.out | (with_reducible refine Kd.C_alloc ?_ _) | (with_reducible refine Kd.C_drewN ?_ _) | (with_reducible refine Kd.C_drew ?_))); (case side2 => exact HC0.out); rintro e w26 ⟨rfl, hb⟩; refine ⟨_, rfl, ?_⟩; have n0_ := Gv.a0 (below_step Gv.bw hb); clear HB; have HB := n0_; clear n0_; (try clear hb); (try clear hb2); (try clear hk); (try clear hi)) | ((with_reducible refine Gv.gate_load (t := 55) rfl ?_); (try (refine gate_guard (by rfl) ?_; dsimp only)); refine wpList_load_row rfl 55 _ rfl gb423 rfl 55 _ _ _ (by first | exact Gv.kb0 BK423.out | exact Gv.kb1 (Gv.kb0 BK423.out)) Try.underlying55 rfl (by kernel_rfl) ?_))
  go_ret
  exact ⟨_, Gv.rt, by first | exact Kd.R_nil _ _ _ _ _ | exact Kd.N_nil _ _ _ _ _ | exact Kd.V_nil _ _ _ _ _ | exact Kd.Q_nil _ _ _ _ _ | exact Kd.S_nil _ _ _ _ _, Gv.bw⟩

/-! ### laws_eqIntS: function 18 -/
def laws_eqIntS.l0 : Nat → List Int → List Int → Int → Option (Bool)
 | 0, _, _, _ => none
 | k + 1, x0, x1, x5 => if x5 < (x0.length : Int) then (if 0 ≤ x5 then (if x5 < (x1.length : Int) then (if (rd x0 x5) = (rd x1 x5) then (laws_eqIntS.l0 k x0 x1 (wrap64 (x5 + 1))) else (none)) else (none)) else (none)) else (some true)
def laws_eqIntS.f (k : Nat) (l0 : List Int) (l1 : List Int) : Option (Bool) := if (l0.length : Int) = (l1.length : Int) then (laws_eqIntS.l0 k l0 l1 0) else (none)
theorem laws_eqIntS.mono_l : ∀ k, (∀ y0 y1 y2, LeO (laws_eqIntS.l0 k y0 y1 y2) (laws_eqIntS.l0 (k + 1) y0 y1 y2))
 | 0 => fun _ _ _ r h => by simp [laws_eqIntS.l0] at h
 | k + 1 => by
  have ih0 := laws_eqIntS.mono_l k
  ·intro y0 y1 y2
   unfold laws_eqIntS.l0
   repeat' first
   | (with_reducible exact ih0 _ _ _)
   | (with_reducible exact LeO.refl _)
   | (with_reducible exact LeO.none _)
   | (with_reducible refine LeO.ite ?_ ?_)
   | (with_reducible refine LeO.bind ?_ (fun _ => ?_))
   | exact ih0 _ _ _
   | exact LeO.none _
   | refine LeO.ite ?_ ?_
   | refine LeO.bind ?_ (fun _ => ?_)
theorem laws_eqIntS.mono : ∀ a0 a1 k, LeO (laws_eqIntS.f k a0 a1) (laws_eqIntS.f (k + 1) a0 a1) := by
 intro a0 a1 k
 have ih0 := laws_eqIntS.mono_l k
 unfold laws_eqIntS.f
 repeat' first
   | (with_reducible exact ih0 _ _ _)
   | (with_reducible exact LeO.refl _)
   | (with_reducible exact LeO.none _)
   | (with_reducible refine LeO.ite ?_ ?_)
   | (with_reducible refine LeO.bind ?_ (fun _ => ?_))
   | exact ih0 _ _ _
   | exact LeO.none _
   | refine LeO.ite ?_ ?_
   | refine LeO.bind ?_ (fun _ => ?_)
set_option maxHeartbeats 8000000 in
set_option maxRecDepth 100000 in
theorem laws_eqIntS.calls (k : Nat) (A0 : Option Addr) (c0 : Nat) (l0 : List Int) (A1 : Option Addr) (c1 : Nat) (l1 : List Int) (r : Bool) (w : World) (hr0 : Kd.C (Kd.int .i64) w A0 l0.length l0) (hc0 : l0.length ≤ c0) (hr1 : Kd.C (Kd.int .i64) w A1 l1.length l1) (hc1 : l1.length ≤ c1) (h : laws_eqIntS.f k l0 l1 = some r) :
  Calls Try.prog 18 #[.slice A0 l0.length c0, .slice A1 l1.length c1] w fun e w' => e = .returned (.bool r) ∧ Drawn0 w w' := by
 have HR0 := Gv.a0 hr0
 have HC0 := Gv.a0 hc0
 clear hr0 hc0
 have HR1 := Gv.a0 hr1
 have HC1 := Gv.a0 hc1
 clear hr1 hc1
 have H : (if (l0.length : Int) = (l1.length : Int) then (laws_eqIntS.l0 k l0 l1 0) else (none)) = some r := h
 clear h
 by_cases c3 : (l0.length : Int) = (l1.length : Int)
 ·rw [if_pos c3] at H
  have c3b0 : ((l0.length : Int) == (l1.length : Int)) = true := beq_iff_eq.mpr c3
  have c3b1 : ((l0.length : Int) != (l1.length : Int)) = false := bne_eq_false_iff_eq.mpr c3
  have c3b2 : (l0.length == l1.length) = true := by first | simpa using c3 | (simp at c3 ⊢; omega)
  clear c3
  have H' := Gv.a0 H
  clear H
  go_enter Try.func18, Try.ntmps18
  go_wp2
  repeat (go_quiet (fail); try go_wp2)
  go_loopg [5] k (fun kq v5 w' => ∃ (x5_1 : Int), v5 = .int .i64 x5_1 ∧ Aside0 (laws_eqIntS.l0 kq l0 l1 x5_1 = some r) ∧ Aside0 (kq ≤ k) ∧ Drawn0 w w')
  case atStart => exact ⟨(0), Gv.rq, H', ⟨Nat.le_refl _⟩, by repeat (first | exact Drawn0.refl _ | apply Drawn0.step)⟩
  case round =>
   clear H'
   try clear c1
   try clear p2
   try clear c3
   try clear c3b0
   try clear c3b1
   try clear c3b2
   obtain ⟨x5_1, rfl, HA, HK1, ⟨m1, rfl⟩⟩ := hrel
   cases gk with
   | zero => exact absurd HA.out (by simp [laws_eqIntS.l0])
   | succ k1 =>
    have H := HA.out
    clear HA
    simp only [laws_eqIntS.l0] at H
    by_cases c4 : x5_1 < (l0.length : Int)
    ·rw [if_pos c4] at H
     have c4b0 : decide (x5_1 < (l0.length : Int)) = true := decide_eq_true c4
     clear c4
     by_cases c5 : 0 ≤ x5_1
     ·rw [if_pos c5] at H
      have c5b0 : decide (0 ≤ x5_1) = true := decide_eq_true c5
      clear c5
      by_cases c6 : x5_1 < (l1.length : Int)
      ·rw [if_pos c6] at H
       have c6b0 : decide (x5_1 < (l1.length : Int)) = true := decide_eq_true c6
       clear c6
       by_cases c7 : (rd l0 x5_1) = (rd l1 x5_1)
       ·rw [if_pos c7] at H
        have c7b0 : ((rd l0 x5_1) == (rd l1 x5_1)) = true := beq_iff_eq.mpr c7
        have c7b1 : ((rd l0 x5_1) != (rd l1 x5_1)) = false := bne_eq_false_iff_eq.mpr c7
        clear c7
        have H' := Gv.a0 H
        clear H
        have p432 : 0 ≤ (x5_1 : Int) := of_decide_eq_true (by first | (with_reducible assumption) | assumption)
        have q432 : x5_1 < (l0.length : Int) := of_decide_eq_true (by first | (with_reducible assumption) | assumption)
        obtain ⟨ad432, e432, hx432_0⟩ := Kd.at_int HR0.out x5_1 p432 q432
        cases e432
        replace p432 := eq_true p432
        replace q432 := eq_true q432
        have p433 : 0 ≤ (x5_1 : Int) := of_decide_eq_true (by first | (with_reducible assumption) | assumption)
        have q433 : x5_1 < (l1.length : Int) := of_decide_eq_true (by first | (with_reducible assumption) | assumption)
        obtain ⟨ad433, e433, hx433_0⟩ := Kd.at_int HR1.out x5_1 p433 q433
        cases e433
        replace p433 := eq_true p433
        replace q433 := eq_true q433
        go_wp2
        repeat (go_quiet (fail); try go_wp2)
        go_roundg k1
        case measure => have := HK1.out; omega
        case rel => exact ⟨(wrap64 (x5_1 + 1)), Gv.rq, H', ⟨by have := HK1.out; omega⟩, by repeat (first | exact Drawn0.refl _ | apply Drawn0.step)⟩
       ·rw [if_neg c7] at H
        exact absurd H (by simp)
      ·rw [if_neg c6] at H
       exact absurd H (by simp)
     ·rw [if_neg c5] at H
      exact absurd H (by simp)
    ·rw [if_neg c4] at H
     have c4b0 : decide (x5_1 < (l0.length : Int)) = false := decide_eq_false c4
     clear c4
     obtain rfl := Option.some.inj H
     go_wp2
     repeat (go_quiet (fail); try go_wp2)
     go_ret
     exact ⟨by first | rfl | (simp; done) | (simp [Int.tdiv_eq_ediv_of_nonneg]; done) | (simp [*]; done), by repeat (first | exact Drawn0.refl _ | apply Drawn0.step)⟩
 ·rw [if_neg c3] at H
  exact absurd H (by simp)

/-! ### laws_markRuleS: function 19 -/
def laws_markRuleS.f (l0 : List (S55)) (a1 : Int) : Option (Int × (List (S55))) := some (Gv.stepN (Gv.stepN Gv.nx 21) l0.length a1, Gv.mkL (fun a : Int => (⟨(Gv.stepN Gv.nx 0 a), (⟨(⟨(Gv.stepN Gv.nx 1 a), (Gv.stepN Gv.nx 2 a), (Gv.stepN Gv.nx 3 a), (Gv.stepN Gv.nx 4 a), (Gv.stepN Gv.nx 5 a)⟩ : S34), (Gv.stepN Gv.nx 6 a)⟩ : S53), (⟨(⟨(Gv.stepN Gv.nx 7 a), (Gv.stepN Gv.nx 8 a), (Gv.stepN Gv.nx 9 a), (Gv.stepN Gv.nx 10 a), (Gv.stepN Gv.nx 11 a)⟩ : S34), (Gv.stepN Gv.nx 12 a)⟩ : S53), (Gv.stepN Gv.nx 13 a), (Gv.stepN Gv.nx 14 a), (Gv.stepN Gv.nx 15 a), (Gv.stepN Gv.nx 16 a), (Gv.stepN Gv.nx 17 a), (Gv.stepN Gv.nx 18 a), (Gv.stepN Gv.nx 19 a), (Gv.stepN Gv.nx 20 a)⟩ : S55)) (Gv.stepN Gv.nx 21) l0.length a1)
set_option maxHeartbeats 8000000 in
set_option maxRecDepth 100000 in
theorem laws_markRuleS.calls (P0_ : Nat → Prop) (u9000_ : Value) (l0 : List (S55)) (a1 : Int) (r1 : Int) (r2 : List (S55)) (w0 w : World) (hB : Below w0.heap.size w0 w) (ho0 : Kd.R k55 55 w w0.heap.size P0_ u9000_ l0) (h : laws_markRuleS.f l0 a1 = some (r1, r2)) :
  Calls Try.prog 19 #[u9000_, .int .i64 a1] w fun e w' => e = .returned (.int .i64 r1) ∧ Kd.R k55 55 w' w0.heap.size (fun k_ => (P0_ k_ ∨ w.heap.size ≤ k_)) u9000_ r2 ∧ Below w0.heap.size w0 w' ∧ Kept w w' (fun k_ => P0_ k_) := by
 obtain ⟨rfl, rfl⟩ := Prod.mk.inj (Option.some.inj h)
 clear h
 obtain ⟨hok, inner, ⟨hlen, ho⟩, hrep⟩ := ho0
 rcases ho with ⟨rfl, hz⟩ | ⟨g, cap, cur, rfl, hbase, hg, hnc, hcm, hsz, htk⟩
 ·have hl : l0 = [] := List.length_eq_zero_iff.1 hz
  subst hl
  have HB := Gv.a0 hB
  clear hrep hok hlen hB
  go_enter Try.func19, Try.ntmps19
  go_wp2
  go_loopg [1, 5] 0 (fun gg s1 s5 wr => s1 = .int .i64 a1 ∧ s5 = .int .i64 0 ∧ wr = w)
  case atStart => exact ⟨rfl, rfl, rfl⟩
  case round =>
   obtain ⟨rfl, rfl, rfl⟩ := hrel
   go_wp2_with fail
   go_ret
   exact ⟨rfl, Kd.R_nil _ _ _ _ _, HB.out, Kept.refl _ _⟩
 ·have hS : l0.length * 21 ≤ cap * 21 := Nat.mul_le_mul_right _ hnc
  have hN : inner.length = l0.length * 21 := hlen
  have hP : P0_ g := hok g rfl
  have hle : w0.heap.size ≤ g := hbase
  have hcap : cap ≤ 9223372036854775807 := by
   unfold maxLen at hcm
   omega
  have HM0 := Gv.a0 (show Gv.MK w0 w g 55 (l0.length * 21) (cap * 21) inner w [] 0 from ⟨rfl, ⟨cur, hg, hsz, htk⟩, fun _ _ => rfl, hB, Nat.le_refl _⟩)
  have HF := Gv.a0 (And.intro hnc (And.intro hcm hP))
  clear hok hlen hrep hbase hg hcm hsz htk hB hP hnc
  go_enter Try.func19, Try.ntmps19
  go_wp2
  go_loopg [1, 5] l0.length (fun gg s1 s5 wr => ∃ kk : Nat, kk ≤ l0.length ∧ l0.length - kk ≤ gg ∧ s1 = .int .i64 (Gv.stepN (Gv.stepN Gv.nx 21) kk a1) ∧ s5 = .int .i64 kk ∧ Aside0 (Gv.MK w0 w g 55 (l0.length * 21) (cap * 21) inner wr ((Gv.mkL (fun a : Int => (⟨(Gv.stepN Gv.nx 0 a), (⟨(⟨(Gv.stepN Gv.nx 1 a), (Gv.stepN Gv.nx 2 a), (Gv.stepN Gv.nx 3 a), (Gv.stepN Gv.nx 4 a), (Gv.stepN Gv.nx 5 a)⟩ : S34), (Gv.stepN Gv.nx 6 a)⟩ : S53), (⟨(⟨(Gv.stepN Gv.nx 7 a), (Gv.stepN Gv.nx 8 a), (Gv.stepN Gv.nx 9 a), (Gv.stepN Gv.nx 10 a), (Gv.stepN Gv.nx 11 a)⟩ : S34), (Gv.stepN Gv.nx 12 a)⟩ : S53), (Gv.stepN Gv.nx 13 a), (Gv.stepN Gv.nx 14 a), (Gv.stepN Gv.nx 15 a), (Gv.stepN Gv.nx 16 a), (Gv.stepN Gv.nx 17 a), (Gv.stepN Gv.nx 18 a), (Gv.stepN Gv.nx 19 a), (Gv.stepN Gv.nx 20 a)⟩ : S55)) (Gv.stepN Gv.nx 21) kk a1).flatMap (fun x : S55 => ([.int .i64 x.f0, .int .i64 x.f1.f0.f0, .int .i64 x.f1.f0.f1, .int .i64 x.f1.f0.f2, .int .i64 x.f1.f0.f3, .int .i64 x.f1.f0.f4, .int .i64 x.f1.f1, .int .i64 x.f2.f0.f0, .int .i64 x.f2.f0.f1, .int .i64 x.f2.f0.f2, .int .i64 x.f2.f0.f3, .int .i64 x.f2.f0.f4, .int .i64 x.f2.f1, .int .i64 x.f3, .int .i64 x.f4, .int .i64 x.f5, .int .i64 x.f6, .int .i64 x.f7, .int .i64 x.f8, .int .i64 x.f9, .int .i64 x.f10] : List Value))) (kk * 21)))
  case atStart => exact ⟨0, Nat.zero_le _, by omega, rfl, rfl, ⟨HM0.out⟩⟩
  case round =>
   obtain ⟨kk, hkk, hgg, rfl, rfl, HM⟩ := hrel
   obtain ⟨x_, hx_⟩ : ∃ x_, x_ = Gv.stepN (Gv.stepN Gv.nx 21) kk a1 := ⟨_, rfl⟩
   rw [← hx_]
   obtain ⟨done, hd_⟩ : ∃ d_, d_ = (Gv.mkL (fun a : Int => (⟨(Gv.stepN Gv.nx 0 a), (⟨(⟨(Gv.stepN Gv.nx 1 a), (Gv.stepN Gv.nx 2 a), (Gv.stepN Gv.nx 3 a), (Gv.stepN Gv.nx 4 a), (Gv.stepN Gv.nx 5 a)⟩ : S34), (Gv.stepN Gv.nx 6 a)⟩ : S53), (⟨(⟨(Gv.stepN Gv.nx 7 a), (Gv.stepN Gv.nx 8 a), (Gv.stepN Gv.nx 9 a), (Gv.stepN Gv.nx 10 a), (Gv.stepN Gv.nx 11 a)⟩ : S34), (Gv.stepN Gv.nx 12 a)⟩ : S53), (Gv.stepN Gv.nx 13 a), (Gv.stepN Gv.nx 14 a), (Gv.stepN Gv.nx 15 a), (Gv.stepN Gv.nx 16 a), (Gv.stepN Gv.nx 17 a), (Gv.stepN Gv.nx 18 a), (Gv.stepN Gv.nx 19 a), (Gv.stepN Gv.nx 20 a)⟩ : S55)) (Gv.stepN Gv.nx 21) kk a1).flatMap (fun x : S55 => ([.int .i64 x.f0, .int .i64 x.f1.f0.f0, .int .i64 x.f1.f0.f1, .int .i64 x.f1.f0.f2, .int .i64 x.f1.f0.f3, .int .i64 x.f1.f0.f4, .int .i64 x.f1.f1, .int .i64 x.f2.f0.f0, .int .i64 x.f2.f0.f1, .int .i64 x.f2.f0.f2, .int .i64 x.f2.f0.f3, .int .i64 x.f2.f0.f4, .int .i64 x.f2.f1, .int .i64 x.f3, .int .i64 x.f4, .int .i64 x.f5, .int .i64 x.f6, .int .i64 x.f7, .int .i64 x.f8, .int .i64 x.f9, .int .i64 x.f10] : List Value)) := ⟨_, rfl⟩
   rw [← hd_] at HM
   have HX := Gv.a0 hx_
   have HD := Gv.a0 hd_
   clear hx_ hd_
   by_cases hlt : kk < l0.length
   ·have hltz : (kk : Int) < (l0.length : Int) := by omega
    have hk0 : 0 ≤ (kk : Int) := by omega
    go_wp2_with (first | ((with_reducible refine gate_store (t := 3) rfl ?_); refine Gv.mark_event rfl rfl rfl rfl rfl (.inl ⟨_, _, rfl⟩) (by kernel_rfl) HM.out hS hN (by omega) (by omega) hle ?_; intro wm hM; have HM' := Gv.a0 hM; clear hM HM; have HM := HM'; clear HM'))
    go_roundg (l0.length - (kk + 1))
    case measure => omega
    case rel =>
     refine ⟨kk + 1, by omega, by omega, by rw [Gv.stepN, ← HX.out]; rfl, by go_num, ⟨?_⟩⟩
     have hm := HM.out
     rw [HD.out] at hm
     rw [Gv.mkL, List.flatMap_append, ← HX.out, Nat.succ_mul]
     simp only [List.append_assoc, List.cons_append, List.nil_append] at hm
     exact hm
   ·have hk : kk = l0.length := by omega
    have hltz : ¬ (kk : Int) < (l0.length : Int) := by omega
    have HK := Gv.a0 hk
    clear hk
    go_wp2_with fail
    go_ret
    obtain ⟨h1, ⟨cur, h2, h3, h4⟩, h5, h6, h7⟩ := HM.out
    have hk := HK.out
    subst hk
    rw [HX.out]
    rw [HD.out, List.drop_eq_nil_of_le (by omega), List.append_nil] at h4
    refine ⟨rfl, ⟨fun k hk => ?_, _, ⟨?_, .inr ⟨g, cap, cur, ?_, hle, h2, ?_, HF.out.2.1, h3, ?_⟩⟩, Gv.mkL_reps _ _ _ (fun x => k55_mkM _ _ _ x) (fun _ => rfl) _⟩, h6, h7, fun i hi hni => h5 i (fun e => hni (by rw [e]; exact HF.out.2.2))⟩
    ·have : g = k := by simpa [Value.ownBlock] using hk
     subst this
     exact .inl HF.out.2.2
    ·rw [← HD.out, h1, Gv.mkL_length]; rfl
    ·rw [Gv.mkL_length]
    ·rw [Gv.mkL_length]; exact HF.out.1
    ·rw [Gv.mkL_length]; exact h4

/-! ### laws_markIntS: function 20 -/
def laws_markIntS.l0 : Nat → List Int → Int → Int → Option (Int × List Int)
 | 0, _, _, _ => none
 | k + 1, x0, x1, x5 => if x5 < (x0.length : Int) then (if 0 ≤ x5 then (laws_markIntS.l0 k (x0.set (x5 : Int).toNat x1) (wrap64 (x1 + 1)) (wrap64 (x5 + 1))) else (none)) else (some (x1, x0))
def laws_markIntS.f (k : Nat) (l0 : List Int) (a1 : Int) : Option (Int × List Int) := laws_markIntS.l0 k l0 a1 0
theorem laws_markIntS.mono_l : ∀ k, (∀ y0 y1 y2, LeO (laws_markIntS.l0 k y0 y1 y2) (laws_markIntS.l0 (k + 1) y0 y1 y2))
 | 0 => fun _ _ _ r h => by simp [laws_markIntS.l0] at h
 | k + 1 => by
  have ih0 := laws_markIntS.mono_l k
  ·intro y0 y1 y2
   unfold laws_markIntS.l0
   repeat' first
   | (with_reducible exact ih0 _ _ _)
   | (with_reducible exact LeO.refl _)
   | (with_reducible exact LeO.none _)
   | (with_reducible refine LeO.ite ?_ ?_)
   | (with_reducible refine LeO.bind ?_ (fun _ => ?_))
   | exact ih0 _ _ _
   | exact LeO.none _
   | refine LeO.ite ?_ ?_
   | refine LeO.bind ?_ (fun _ => ?_)
theorem laws_markIntS.mono : ∀ a0 a1 k, LeO (laws_markIntS.f k a0 a1) (laws_markIntS.f (k + 1) a0 a1) := by
 intro a0 a1 k
 have ih0 := laws_markIntS.mono_l k
 unfold laws_markIntS.f
 repeat' first
   | (with_reducible exact ih0 _ _ _)
   | (with_reducible exact LeO.refl _)
   | (with_reducible exact LeO.none _)
   | (with_reducible refine LeO.ite ?_ ?_)
   | (with_reducible refine LeO.bind ?_ (fun _ => ?_))
   | exact ih0 _ _ _
   | exact LeO.none _
   | refine LeO.ite ?_ ?_
   | refine LeO.bind ?_ (fun _ => ?_)
set_option maxHeartbeats 8000000 in
set_option maxRecDepth 100000 in
theorem laws_markIntS.calls (k : Nat) (P0_ : Nat → Prop) (u9000_ : Value) (l0 : List Int) (a1 : Int) (r1 : Int) (r2 : List Int) (w0 w : World) (hB : Below w0.heap.size w0 w) (ho0 : Kd.R (Kd.int .i64) 3 w w0.heap.size P0_ u9000_ l0) (h : laws_markIntS.f k l0 a1 = some (r1, r2)) :
  Calls Try.prog 20 #[u9000_, .int .i64 a1] w fun e w' => e = .returned (.int .i64 r1) ∧ Kd.R (Kd.int .i64) 3 w' w0.heap.size (fun k_ => (P0_ k_ ∨ w.heap.size ≤ k_)) u9000_ r2 ∧ Below w0.heap.size w0 w' ∧ Kept w w' (fun k_ => P0_ k_) := by
 have HO0 := Gv.a0 (show Kd.R (Kd.int .i64) 3 w w0.heap.size (fun k_ => (P0_ k_ ∨ w.heap.size ≤ k_)) u9000_ l0 from Kd.R_mono ho0 (fun k_ hk => (.inl hk)))
 have HK := Gv.a0 (Kept.refl w (fun k_ => P0_ k_))
 have HW0 := Gv.a0 hB.size
 have HB := Gv.a0 hB
 clear hB
 have H : (laws_markIntS.l0 k l0 a1 0) = some (r1, r2) := h
 clear h
 have H' := Gv.a0 H
 clear H
 go_enter Try.func20, Try.ntmps20
 go_wp2
 go_loopg [1, 5] k (fun kq v1 v5 w' => ∃ (x0_1 : List Int) (x1_1 : Int) (x5_1 : Int), v1 = .int .i64 x1_1 ∧ v5 = .int .i64 x5_1 ∧ Aside0 (laws_markIntS.l0 kq x0_1 x1_1 x5_1 = some (r1, r2)) ∧ Aside0 (kq ≤ k) ∧ Aside0 (Kd.R (Kd.int .i64) 3 w' w0.heap.size (fun k_ => (P0_ k_ ∨ w.heap.size ≤ k_)) u9000_ x0_1) ∧ Aside0 (Kept w w' (fun k_ => P0_ k_)) ∧ Aside0 (Below w0.heap.size w0 w'))
 case atStart => exact ⟨(l0), (a1), (0), Gv.rq, Gv.rq, H', ⟨Nat.le_refl _⟩, ⟨Gv.kr HO0.out⟩, ⟨by repeat (first | (with_reducible first | exact HK.out | apply Kept.alloc | apply Kept.drewN | apply Kept.drew) | exact HK.out)⟩, ⟨Gv.bw⟩⟩
 case round =>
  clear H'
  try clear c2
  try clear p2
  obtain ⟨x0_1, x1_1, x5_1, rfl, rfl, HA, HK1, HO_0, HK, HB⟩ := hrel
  cases gk with
  | zero => exact absurd HA.out (by simp [laws_markIntS.l0])
  | succ k1 =>
   have H := HA.out
   clear HA
   simp only [laws_markIntS.l0] at H
   by_cases c3 : x5_1 < (x0_1.length : Int)
   ·rw [if_pos c3] at H
    have c3b0 : decide (x5_1 < (x0_1.length : Int)) = true := decide_eq_true c3
    clear c3
    by_cases c4 : 0 ≤ x5_1
    ·rw [if_pos c4] at H
     have c4b0 : decide (0 ≤ x5_1) = true := decide_eq_true c4
     clear c4
     obtain ⟨y435, hy435⟩ : ∃ y_ : List Int, y_ = (x0_1.set (x5_1 : Int).toNat x1_1) := ⟨_, rfl⟩
     replace H : (laws_markIntS.l0 k1 y435 (wrap64 (x1_1 + 1)) (wrap64 (x5_1 + 1))) = some (r1, r2) := by first | (rw [hy435]; with_reducible exact H) | (have H2_ := (Option.bind_some _ _).symm.trans H; rw [hy435]; with_reducible exact H2_) | (have H2_ := (Option.bind_some _ _).symm.trans H; with_reducible exact H2_) | with_reducible exact H | (rw [hy435]; exact H) | exact H
     have Ny435 := Gv.a0 hy435
     clear hy435
     have H' := Gv.a0 H
     clear H
     obtain ⟨Ao6, co6, eo6⟩ := Kd.R_slice HO_0.out
     subst eo6
     have p5 : 0 ≤ (x5_1 : Int) := of_decide_eq_true (by first | (with_reducible assumption) | assumption)
     have q5 : (x5_1 : Int) < ((x0_1.length : Int) : Int) := of_decide_eq_true (by first | (with_reducible assumption) | assumption)
     obtain ⟨go5, co5, eo5, gb5, gl5, cl5, HG5⟩ := Kd.R_form HO_0.out (by omega)
     (first | cases eo5 | (injection eo5 with ea_ en_ ec_; (first | subst ea_ | (injection ea_ with ea_; subst ea_)); subst ec_; clear en_))
     have GB5 := Gv.a0 gb5
     have GG5 := Gv.a0 HG5
     clear gb5 gl5 HG5
     have HMgo5 := Gv.a0 (show (P0_ go5 ∨ w.heap.size ≤ go5) from (HO_0.out.1 _ rfl))
     obtain ⟨hx5_0, hf5_0⟩ := Kd.R_celln 0 HO_0.out (x5_1 : Int) p5 q5
     replace p5 := eq_true p5
     replace q5 := eq_true q5
     have HP7 := Kd.R_putg HO_0.out (x5_1 : Int) x1_1
     go_wp2_with (first | ((with_reducible refine gate_store (t := 3) (p := 15) rfl ?_); refine store_event (t := 3) (p := 15) (v := ?vo_w8) (w1 := (wr.setCell ⟨go5, (x5_1 : Int).toNat, none⟩ (.int .i64 x1_1))) ?hg ?ho ?hn ?hr ?_; (case ho => rfl); (case hg => rfl); (case hn => rfl); (case hr => first | (go_simp; done) | (go_simp; rfl)); intro w8 hw; have hg : wr.grownBy w8 (some go5) := (by rw [hw]; exact HP7.2); have hp_ : Kd.R (Kd.int .i64) 3 w8 w0.heap.size (fun k_ => (P0_ k_ ∨ w.heap.size ≤ k_)) (.slice (some ⟨go5, 0, none⟩) x0_1.length co6) y435 := (by rw [hw, Ny435.out]; exact HP7.1); clear HP7; have n0_ := Gv.a0 (hp_); have n1_ := Gv.a0 ((by rw [hw]; exact below_set (HB.out) GB5.out : Below w0.heap.size w0 w8)); have n2_ := Gv.a0 (Kept.of_grown (S := (fun k_ => P0_ k_)) hg (by repeat (first | (with_reducible first | exact HK.out | apply Kept.alloc | apply Kept.drewN | apply Kept.drew) | exact HK.out)) (fun k_ e_ => (HO_0.out.1 k_ e_))); clear HO_0; clear HB; clear HK; have HO_0 := n0_; have HB := n1_; have HK := n2_; clear n0_ n1_ n2_; clear hg hw hp_))
     go_roundg k1
     case measure => have := HK1.out; omega
     case rel => exact ⟨(y435), (wrap64 (x1_1 + 1)), (wrap64 (x5_1 + 1)), Gv.rq, Gv.rq, H', ⟨by have := HK1.out; omega⟩, ⟨Gv.kr HO_0.out⟩, ⟨by repeat (first | (with_reducible first | exact HK.out | apply Kept.alloc | apply Kept.drewN | apply Kept.drew) | exact HK.out)⟩, ⟨Gv.bw⟩⟩
    ·rw [if_neg c4] at H
     exact absurd H (by simp)
   ·rw [if_neg c3] at H
    have c3b0 : decide (x5_1 < (x0_1.length : Int)) = false := decide_eq_false c3
    clear c3
    simp only [Option.some.injEq, Prod.mk.injEq] at H
    obtain ⟨rfl, rfl⟩ := H
    obtain ⟨Ao9, co9, eo9⟩ := Kd.R_slice HO_0.out
    subst eo9
    go_wp2
    go_ret
    exact ⟨Gv.rt, Gv.kr HO_0.out, Gv.bw, by repeat (first | (with_reducible first | exact HK.out | apply Kept.alloc | apply Kept.drewN | apply Kept.drew) | exact HK.out)⟩

/-! ### laws_heldIntS: function 21 -/
def laws_heldIntS.l0 : Nat → List Int → Int → Int → Option (Int)
 | 0, _, _, _ => none
 | k + 1, x0, x1, x5 => if x5 < (x0.length : Int) then (if 0 ≤ x5 then (if (rd x0 x5) = x1 then (laws_heldIntS.l0 k x0 (wrap64 (x1 + 1)) (wrap64 (x5 + 1))) else (some (-1))) else (none)) else (some x1)
def laws_heldIntS.f (k : Nat) (l0 : List Int) (a1 : Int) : Option (Int) := laws_heldIntS.l0 k l0 a1 0
theorem laws_heldIntS.mono_l : ∀ k, (∀ y0 y1 y2, LeO (laws_heldIntS.l0 k y0 y1 y2) (laws_heldIntS.l0 (k + 1) y0 y1 y2))
 | 0 => fun _ _ _ r h => by simp [laws_heldIntS.l0] at h
 | k + 1 => by
  have ih0 := laws_heldIntS.mono_l k
  ·intro y0 y1 y2
   unfold laws_heldIntS.l0
   repeat' first
   | (with_reducible exact ih0 _ _ _)
   | (with_reducible exact LeO.refl _)
   | (with_reducible exact LeO.none _)
   | (with_reducible refine LeO.ite ?_ ?_)
   | (with_reducible refine LeO.bind ?_ (fun _ => ?_))
   | exact ih0 _ _ _
   | exact LeO.none _
   | refine LeO.ite ?_ ?_
   | refine LeO.bind ?_ (fun _ => ?_)
theorem laws_heldIntS.mono : ∀ a0 a1 k, LeO (laws_heldIntS.f k a0 a1) (laws_heldIntS.f (k + 1) a0 a1) := by
 intro a0 a1 k
 have ih0 := laws_heldIntS.mono_l k
 unfold laws_heldIntS.f
 repeat' first
   | (with_reducible exact ih0 _ _ _)
   | (with_reducible exact LeO.refl _)
   | (with_reducible exact LeO.none _)
   | (with_reducible refine LeO.ite ?_ ?_)
   | (with_reducible refine LeO.bind ?_ (fun _ => ?_))
   | exact ih0 _ _ _
   | exact LeO.none _
   | refine LeO.ite ?_ ?_
   | refine LeO.bind ?_ (fun _ => ?_)
set_option maxHeartbeats 8000000 in
set_option maxRecDepth 100000 in
theorem laws_heldIntS.calls (k : Nat) (A0 : Option Addr) (c0 : Nat) (l0 : List Int) (a1 : Int) (r : Int) (w : World) (hr0 : Kd.C (Kd.int .i64) w A0 l0.length l0) (hc0 : l0.length ≤ c0) (h : laws_heldIntS.f k l0 a1 = some r) :
  Calls Try.prog 21 #[.slice A0 l0.length c0, .int .i64 a1] w fun e w' => e = .returned (.int .i64 r) ∧ Drawn0 w w' := by
 have HR0 := Gv.a0 hr0
 have HC0 := Gv.a0 hc0
 clear hr0 hc0
 have H : (laws_heldIntS.l0 k l0 a1 0) = some r := h
 clear h
 have H' := Gv.a0 H
 clear H
 go_enter Try.func21, Try.ntmps21
 go_wp2
 go_loopg [1, 5] k (fun kq v1 v5 w' => ∃ (x1_1 : Int) (x5_1 : Int), v1 = .int .i64 x1_1 ∧ v5 = .int .i64 x5_1 ∧ Aside0 (laws_heldIntS.l0 kq l0 x1_1 x5_1 = some r) ∧ Aside0 (kq ≤ k) ∧ Drawn0 w w')
 case atStart => exact ⟨(a1), (0), Gv.rq, Gv.rq, H', ⟨Nat.le_refl _⟩, by repeat (first | exact Drawn0.refl _ | apply Drawn0.step)⟩
 case round =>
  clear H'
  try clear c2
  try clear p2
  obtain ⟨x1_1, x5_1, rfl, rfl, HA, HK1, ⟨m1, rfl⟩⟩ := hrel
  cases gk with
  | zero => exact absurd HA.out (by simp [laws_heldIntS.l0])
  | succ k1 =>
   have H := HA.out
   clear HA
   simp only [laws_heldIntS.l0] at H
   by_cases c3 : x5_1 < (l0.length : Int)
   ·rw [if_pos c3] at H
    have c3b0 : decide (x5_1 < (l0.length : Int)) = true := decide_eq_true c3
    clear c3
    by_cases c4 : 0 ≤ x5_1
    ·rw [if_pos c4] at H
     have c4b0 : decide (0 ≤ x5_1) = true := decide_eq_true c4
     clear c4
     by_cases c5 : (rd l0 x5_1) = x1_1
     ·rw [if_pos c5] at H
      have c5b0 : ((rd l0 x5_1) == x1_1) = true := beq_iff_eq.mpr c5
      have c5b1 : ((rd l0 x5_1) != x1_1) = false := bne_eq_false_iff_eq.mpr c5
      clear c5
      have H' := Gv.a0 H
      clear H
      have p436 : 0 ≤ (x5_1 : Int) := of_decide_eq_true (by first | (with_reducible assumption) | assumption)
      have q436 : x5_1 < (l0.length : Int) := of_decide_eq_true (by first | (with_reducible assumption) | assumption)
      obtain ⟨ad436, e436, hx436_0⟩ := Kd.at_int HR0.out x5_1 p436 q436
      cases e436
      replace p436 := eq_true p436
      replace q436 := eq_true q436
      go_wp2
      go_roundg k1
      case measure => have := HK1.out; omega
      case rel => exact ⟨(wrap64 (x1_1 + 1)), (wrap64 (x5_1 + 1)), Gv.rq, Gv.rq, H', ⟨by have := HK1.out; omega⟩, by repeat (first | exact Drawn0.refl _ | apply Drawn0.step)⟩
     ·rw [if_neg c5] at H
      have c5b0 : ((rd l0 x5_1) == x1_1) = false := beq_eq_false_iff_ne.mpr c5
      have c5b1 : ((rd l0 x5_1) != x1_1) = true := bne_iff_ne.mpr c5
      obtain rfl := Option.some.inj H
      have p436 : 0 ≤ (x5_1 : Int) := of_decide_eq_true (by first | (with_reducible assumption) | assumption)
      have q436 : x5_1 < (l0.length : Int) := of_decide_eq_true (by first | (with_reducible assumption) | assumption)
      obtain ⟨ad436, e436, hx436_0⟩ := Kd.at_int HR0.out x5_1 p436 q436
      cases e436
      replace p436 := eq_true p436
      replace q436 := eq_true q436
      go_wp2
      go_ret
      exact ⟨by first | rfl | (simp; done) | (simp [Int.tdiv_eq_ediv_of_nonneg]; done) | (simp [*]; done), by repeat (first | exact Drawn0.refl _ | apply Drawn0.step)⟩
    ·rw [if_neg c4] at H
     exact absurd H (by simp)
   ·rw [if_neg c3] at H
    have c3b0 : decide (x5_1 < (l0.length : Int)) = false := decide_eq_false c3
    clear c3
    obtain rfl := Option.some.inj H
    go_wp2
    go_ret
    exact ⟨by first | rfl | (simp; done) | (simp [Int.tdiv_eq_ediv_of_nonneg]; done) | (simp [*]; done), by repeat (first | exact Drawn0.refl _ | apply Drawn0.step)⟩

/-! ### laws_FnExactShadowed: function 5 -/
def laws_FnExactShadowed.f (k : Nat) (l0 : List (S50)) : Option (Bool) := (laws_szRuleS.f l0 1048576).bind fun t437 => (if t437 < 0 then (some true) else ((laws_toRuleS.f k l0).bind fun t438 => ((spec_Shadowed.f k t438).bind fun t441 => ((laws_toRuleS.f k l0).bind fun t444 => ((impl_Shadowed.f k t444).bind fun t447 => ((laws_eqIntS.f k t447 t441).bind fun t450 => (if t450 = true then ((laws_toRuleS.f k l0).bind fun t451 => ((laws_eqRuleS.f k t444 t451).bind fun t454 => (if t454 = true then ((laws_markRuleS.f t444 1).bind fun bt455 => (if bt455.1 < 0 then (none) else ((laws_eqIntS.f k t447 t441).bind fun t457 => (if t457 = true then ((laws_markIntS.f k t447 1).bind fun bt458 => ((laws_heldIntS.f k bt458.2 1).bind fun t460 => (if t460 < 0 then (none) else (if t460 = bt458.1 then ((laws_toRuleS.f k l0).bind fun t461 => ((impl_Shadowed.f k t461).bind fun t464 => ((laws_eqIntS.f k t464 t441).bind fun t467 => (if t467 = true then ((laws_heldIntS.f k bt458.2 1).bind fun t468 => (if t468 < 0 then (none) else (if t468 = bt458.1 then (some true) else (none)))) else (none))))) else (none))))) else (none))))) else (none)))) else (none))))))))
theorem laws_FnExactShadowed.mono : ∀ a0 k, LeO (laws_FnExactShadowed.f k a0) (laws_FnExactShadowed.f (k + 1) a0) := by
 intro a0 k
 unfold laws_FnExactShadowed.f
 repeat' first
   | (with_reducible exact impl_Shadowed.mono _ _)
   | (with_reducible exact laws_eqIntS.mono _ _ _)
   | (with_reducible exact laws_eqRuleS.mono _ _ _)
   | (with_reducible exact laws_heldIntS.mono _ _ _)
   | (with_reducible exact laws_markIntS.mono _ _ _)
   | (with_reducible exact laws_toRuleS.mono _ _)
   | (with_reducible exact spec_Shadowed.mono _ _)
   | (with_reducible exact LeO.refl _)
   | (with_reducible exact LeO.none _)
   | (with_reducible refine LeO.ite ?_ ?_)
   | (with_reducible refine LeO.bind ?_ (fun _ => ?_))
   | exact impl_Shadowed.mono _ _
   | exact laws_eqIntS.mono _ _ _
   | exact laws_eqRuleS.mono _ _ _
   | exact laws_heldIntS.mono _ _ _
   | exact laws_markIntS.mono _ _ _
   | exact laws_toRuleS.mono _ _
   | exact spec_Shadowed.mono _ _
   | exact LeO.none _
   | refine LeO.ite ?_ ?_
   | refine LeO.bind ?_ (fun _ => ?_)
set_option maxHeartbeats 8000000 in
set_option maxRecDepth 100000 in
theorem laws_FnExactShadowed.calls (k : Nat) (A0 : Option Addr) (c0 : Nat) (l0 : List (S50)) (r : Bool) (w : World) (hr0 : Kd.C k50 w A0 l0.length l0) (hc0 : l0.length ≤ c0) (h : laws_FnExactShadowed.f k l0 = some r) :
  Calls Try.prog 5 #[.slice A0 l0.length c0] w fun e w' => e = .returned (.bool r) ∧ Below w.heap.size w w' := by
 have HR0 := Gv.a0 hr0
 have HC0 := Gv.a0 hc0
 clear hr0 hc0
 have HB := Gv.a0 (Below.refl w.heap.size w)
 have H : ((laws_szRuleS.f l0 1048576).bind fun t437 => (if t437 < 0 then (some true) else ((laws_toRuleS.f k l0).bind fun t438 => ((spec_Shadowed.f k t438).bind fun t441 => ((laws_toRuleS.f k l0).bind fun t444 => ((impl_Shadowed.f k t444).bind fun t447 => ((laws_eqIntS.f k t447 t441).bind fun t450 => (if t450 = true then ((laws_toRuleS.f k l0).bind fun t451 => ((laws_eqRuleS.f k t444 t451).bind fun t454 => (if t454 = true then ((laws_markRuleS.f t444 1).bind fun bt455 => (if bt455.1 < 0 then (none) else ((laws_eqIntS.f k t447 t441).bind fun t457 => (if t457 = true then ((laws_markIntS.f k t447 1).bind fun bt458 => ((laws_heldIntS.f k bt458.2 1).bind fun t460 => (if t460 < 0 then (none) else (if t460 = bt458.1 then ((laws_toRuleS.f k l0).bind fun t461 => ((impl_Shadowed.f k t461).bind fun t464 => ((laws_eqIntS.f k t464 t441).bind fun t467 => (if t467 = true then ((laws_heldIntS.f k bt458.2 1).bind fun t468 => (if t468 < 0 then (none) else (if t468 = bt458.1 then (some true) else (none)))) else (none))))) else (none))))) else (none))))) else (none)))) else (none))))))))) = some r := h
 clear h
 replace H := Option.bind_eq_some_iff.mp H
 obtain ⟨t437, A20, H⟩ := H
 replace H : (if t437 < 0 then (some true) else ((laws_toRuleS.f k l0).bind fun t438 => ((spec_Shadowed.f k t438).bind fun t441 => ((laws_toRuleS.f k l0).bind fun t444 => ((impl_Shadowed.f k t444).bind fun t447 => ((laws_eqIntS.f k t447 t441).bind fun t450 => (if t450 = true then ((laws_toRuleS.f k l0).bind fun t451 => ((laws_eqRuleS.f k t444 t451).bind fun t454 => (if t454 = true then ((laws_markRuleS.f t444 1).bind fun bt455 => (if bt455.1 < 0 then (none) else ((laws_eqIntS.f k t447 t441).bind fun t457 => (if t457 = true then ((laws_markIntS.f k t447 1).bind fun bt458 => ((laws_heldIntS.f k bt458.2 1).bind fun t460 => (if t460 < 0 then (none) else (if t460 = bt458.1 then ((laws_toRuleS.f k l0).bind fun t461 => ((impl_Shadowed.f k t461).bind fun t464 => ((laws_eqIntS.f k t464 t441).bind fun t467 => (if t467 = true then ((laws_heldIntS.f k bt458.2 1).bind fun t468 => (if t468 < 0 then (none) else (if t468 = bt458.1 then (some true) else (none)))) else (none))))) else (none))))) else (none))))) else (none)))) else (none)))))))) = some r := H
 have A2 := Gv.a0 A20
 clear A20
 by_cases c3 : t437 < 0
 ·rw [if_pos c3] at H
  have c3b0 : decide (t437 < 0) = true := decide_eq_true c3
  clear c3
  obtain rfl := Option.some.inj H
  go_enter Try.func5, Try.ntmps5
  go_wp2_with (first | ((with_reducible refine gate_callee (f := 8) rfl ?_); refine goesL_ (some 13) rfl rfl Try.func8 (by kernel_rfl) rfl #[.slice A0 l0.length c0, .int .i64 1048576] rfl Gv.lm ?_; (with_reducible refine (laws_szRuleS.calls _ _ l0 1048576 t437 _ ?side1 ?side2 A2.out).mono ?_); (case side1 => repeat (first | exact HR0.out | (with_reducible refine Kd.C_alloc ?_ _) | (with_reducible refine Kd.C_drewN ?_ _) | (with_reducible refine Kd.C_drew ?_))); (case side2 => exact HC0.out); rintro e w' ⟨rfl, ⟨nd, rfl⟩⟩; refine ⟨_, rfl, ?_⟩))
  go_ret
  exact ⟨Gv.rt, Gv.bw⟩
 ·rw [if_neg c3] at H
  have c3b0 : decide (t437 < 0) = false := decide_eq_false c3
  clear c3
  replace H := Option.bind_eq_some_iff.mp H
  obtain ⟨t438, A40, H⟩ := H
  replace H : ((spec_Shadowed.f k t438).bind fun t441 => ((laws_toRuleS.f k l0).bind fun t444 => ((impl_Shadowed.f k t444).bind fun t447 => ((laws_eqIntS.f k t447 t441).bind fun t450 => (if t450 = true then ((laws_toRuleS.f k l0).bind fun t451 => ((laws_eqRuleS.f k t444 t451).bind fun t454 => (if t454 = true then ((laws_markRuleS.f t444 1).bind fun bt455 => (if bt455.1 < 0 then (none) else ((laws_eqIntS.f k t447 t441).bind fun t457 => (if t457 = true then ((laws_markIntS.f k t447 1).bind fun bt458 => ((laws_heldIntS.f k bt458.2 1).bind fun t460 => (if t460 < 0 then (none) else (if t460 = bt458.1 then ((laws_toRuleS.f k l0).bind fun t461 => ((impl_Shadowed.f k t461).bind fun t464 => ((laws_eqIntS.f k t464 t441).bind fun t467 => (if t467 = true then ((laws_heldIntS.f k bt458.2 1).bind fun t468 => (if t468 < 0 then (none) else (if t468 = bt458.1 then (some true) else (none)))) else (none))))) else (none))))) else (none))))) else (none)))) else (none)))))) = some r := H
  have A4 := Gv.a0 A40
  clear A40
  replace H := Option.bind_eq_some_iff.mp H
  obtain ⟨t441, A50, H⟩ := H
  replace H : ((laws_toRuleS.f k l0).bind fun t444 => ((impl_Shadowed.f k t444).bind fun t447 => ((laws_eqIntS.f k t447 t441).bind fun t450 => (if t450 = true then ((laws_toRuleS.f k l0).bind fun t451 => ((laws_eqRuleS.f k t444 t451).bind fun t454 => (if t454 = true then ((laws_markRuleS.f t444 1).bind fun bt455 => (if bt455.1 < 0 then (none) else ((laws_eqIntS.f k t447 t441).bind fun t457 => (if t457 = true then ((laws_markIntS.f k t447 1).bind fun bt458 => ((laws_heldIntS.f k bt458.2 1).bind fun t460 => (if t460 < 0 then (none) else (if t460 = bt458.1 then ((laws_toRuleS.f k l0).bind fun t461 => ((impl_Shadowed.f k t461).bind fun t464 => ((laws_eqIntS.f k t464 t441).bind fun t467 => (if t467 = true then ((laws_heldIntS.f k bt458.2 1).bind fun t468 => (if t468 < 0 then (none) else (if t468 = bt458.1 then (some true) else (none)))) else (none))))) else (none))))) else (none))))) else (none)))) else (none))))) = some r := H
  have A5 := Gv.a0 A50
  clear A50
  replace H := Option.bind_eq_some_iff.mp H
  obtain ⟨t444, A60, H⟩ := H
  replace H : ((impl_Shadowed.f k t444).bind fun t447 => ((laws_eqIntS.f k t447 t441).bind fun t450 => (if t450 = true then ((laws_toRuleS.f k l0).bind fun t451 => ((laws_eqRuleS.f k t444 t451).bind fun t454 => (if t454 = true then ((laws_markRuleS.f t444 1).bind fun bt455 => (if bt455.1 < 0 then (none) else ((laws_eqIntS.f k t447 t441).bind fun t457 => (if t457 = true then ((laws_markIntS.f k t447 1).bind fun bt458 => ((laws_heldIntS.f k bt458.2 1).bind fun t460 => (if t460 < 0 then (none) else (if t460 = bt458.1 then ((laws_toRuleS.f k l0).bind fun t461 => ((impl_Shadowed.f k t461).bind fun t464 => ((laws_eqIntS.f k t464 t441).bind fun t467 => (if t467 = true then ((laws_heldIntS.f k bt458.2 1).bind fun t468 => (if t468 < 0 then (none) else (if t468 = bt458.1 then (some true) else (none)))) else (none))))) else (none))))) else (none))))) else (none)))) else (none)))) = some r := H
  have A6 := Gv.a0 A60
  clear A60
  replace H := Option.bind_eq_some_iff.mp H
  obtain ⟨t447, A70, H⟩ := H
  replace H : ((laws_eqIntS.f k t447 t441).bind fun t450 => (if t450 = true then ((laws_toRuleS.f k l0).bind fun t451 => ((laws_eqRuleS.f k t444 t451).bind fun t454 => (if t454 = true then ((laws_markRuleS.f t444 1).bind fun bt455 => (if bt455.1 < 0 then (none) else ((laws_eqIntS.f k t447 t441).bind fun t457 => (if t457 = true then ((laws_markIntS.f k t447 1).bind fun bt458 => ((laws_heldIntS.f k bt458.2 1).bind fun t460 => (if t460 < 0 then (none) else (if t460 = bt458.1 then ((laws_toRuleS.f k l0).bind fun t461 => ((impl_Shadowed.f k t461).bind fun t464 => ((laws_eqIntS.f k t464 t441).bind fun t467 => (if t467 = true then ((laws_heldIntS.f k bt458.2 1).bind fun t468 => (if t468 < 0 then (none) else (if t468 = bt458.1 then (some true) else (none)))) else (none))))) else (none))))) else (none))))) else (none)))) else (none))) = some r := H
  have A7 := Gv.a0 A70
  clear A70
  replace H := Option.bind_eq_some_iff.mp H
  obtain ⟨t450, A80, H⟩ := H
  replace H : (if t450 = true then ((laws_toRuleS.f k l0).bind fun t451 => ((laws_eqRuleS.f k t444 t451).bind fun t454 => (if t454 = true then ((laws_markRuleS.f t444 1).bind fun bt455 => (if bt455.1 < 0 then (none) else ((laws_eqIntS.f k t447 t441).bind fun t457 => (if t457 = true then ((laws_markIntS.f k t447 1).bind fun bt458 => ((laws_heldIntS.f k bt458.2 1).bind fun t460 => (if t460 < 0 then (none) else (if t460 = bt458.1 then ((laws_toRuleS.f k l0).bind fun t461 => ((impl_Shadowed.f k t461).bind fun t464 => ((laws_eqIntS.f k t464 t441).bind fun t467 => (if t467 = true then ((laws_heldIntS.f k bt458.2 1).bind fun t468 => (if t468 < 0 then (none) else (if t468 = bt458.1 then (some true) else (none)))) else (none))))) else (none))))) else (none))))) else (none)))) else (none)) = some r := H
  have A8 := Gv.a0 A80
  clear A80
  by_cases c9 : t450 = true
  ·subst c9
   have H1 : ((laws_toRuleS.f k l0).bind fun t451 => ((laws_eqRuleS.f k t444 t451).bind fun t454 => (if t454 = true then ((laws_markRuleS.f t444 1).bind fun bt455 => (if bt455.1 < 0 then (none) else ((laws_eqIntS.f k t447 t441).bind fun t457 => (if t457 = true then ((laws_markIntS.f k t447 1).bind fun bt458 => ((laws_heldIntS.f k bt458.2 1).bind fun t460 => (if t460 < 0 then (none) else (if t460 = bt458.1 then ((laws_toRuleS.f k l0).bind fun t461 => ((impl_Shadowed.f k t461).bind fun t464 => ((laws_eqIntS.f k t464 t441).bind fun t467 => (if t467 = true then ((laws_heldIntS.f k bt458.2 1).bind fun t468 => (if t468 < 0 then (none) else (if t468 = bt458.1 then (some true) else (none)))) else (none))))) else (none))))) else (none))))) else (none)))) = some r := by rw [if_pos rfl] at H; exact H
   clear H
   have H := H1
   clear H1
   replace H := Option.bind_eq_some_iff.mp H
   obtain ⟨t451, A100, H⟩ := H
   replace H : ((laws_eqRuleS.f k t444 t451).bind fun t454 => (if t454 = true then ((laws_markRuleS.f t444 1).bind fun bt455 => (if bt455.1 < 0 then (none) else ((laws_eqIntS.f k t447 t441).bind fun t457 => (if t457 = true then ((laws_markIntS.f k t447 1).bind fun bt458 => ((laws_heldIntS.f k bt458.2 1).bind fun t460 => (if t460 < 0 then (none) else (if t460 = bt458.1 then ((laws_toRuleS.f k l0).bind fun t461 => ((impl_Shadowed.f k t461).bind fun t464 => ((laws_eqIntS.f k t464 t441).bind fun t467 => (if t467 = true then ((laws_heldIntS.f k bt458.2 1).bind fun t468 => (if t468 < 0 then (none) else (if t468 = bt458.1 then (some true) else (none)))) else (none))))) else (none))))) else (none))))) else (none))) = some r := H
   have A10 := Gv.a0 A100
   clear A100
   replace H := Option.bind_eq_some_iff.mp H
   obtain ⟨t454, A110, H⟩ := H
   replace H : (if t454 = true then ((laws_markRuleS.f t444 1).bind fun bt455 => (if bt455.1 < 0 then (none) else ((laws_eqIntS.f k t447 t441).bind fun t457 => (if t457 = true then ((laws_markIntS.f k t447 1).bind fun bt458 => ((laws_heldIntS.f k bt458.2 1).bind fun t460 => (if t460 < 0 then (none) else (if t460 = bt458.1 then ((laws_toRuleS.f k l0).bind fun t461 => ((impl_Shadowed.f k t461).bind fun t464 => ((laws_eqIntS.f k t464 t441).bind fun t467 => (if t467 = true then ((laws_heldIntS.f k bt458.2 1).bind fun t468 => (if t468 < 0 then (none) else (if t468 = bt458.1 then (some true) else (none)))) else (none))))) else (none))))) else (none))))) else (none)) = some r := H
   have A11 := Gv.a0 A110
   clear A110
   by_cases c12 : t454 = true
   ·subst c12
    have H1 : ((laws_markRuleS.f t444 1).bind fun bt455 => (if bt455.1 < 0 then (none) else ((laws_eqIntS.f k t447 t441).bind fun t457 => (if t457 = true then ((laws_markIntS.f k t447 1).bind fun bt458 => ((laws_heldIntS.f k bt458.2 1).bind fun t460 => (if t460 < 0 then (none) else (if t460 = bt458.1 then ((laws_toRuleS.f k l0).bind fun t461 => ((impl_Shadowed.f k t461).bind fun t464 => ((laws_eqIntS.f k t464 t441).bind fun t467 => (if t467 = true then ((laws_heldIntS.f k bt458.2 1).bind fun t468 => (if t468 < 0 then (none) else (if t468 = bt458.1 then (some true) else (none)))) else (none))))) else (none))))) else (none))))) = some r := by rw [if_pos rfl] at H; exact H
    clear H
    have H := H1
    clear H1
    replace H := Option.bind_eq_some_iff.mp H
    obtain ⟨⟨t455, t456⟩, A130, H⟩ := H
    replace H : (if t455 < 0 then (none) else ((laws_eqIntS.f k t447 t441).bind fun t457 => (if t457 = true then ((laws_markIntS.f k t447 1).bind fun bt458 => ((laws_heldIntS.f k bt458.2 1).bind fun t460 => (if t460 < 0 then (none) else (if t460 = bt458.1 then ((laws_toRuleS.f k l0).bind fun t461 => ((impl_Shadowed.f k t461).bind fun t464 => ((laws_eqIntS.f k t464 t441).bind fun t467 => (if t467 = true then ((laws_heldIntS.f k bt458.2 1).bind fun t468 => (if t468 < 0 then (none) else (if t468 = bt458.1 then (some true) else (none)))) else (none))))) else (none))))) else (none)))) = some r := H
    have A13 := Gv.a0 A130
    clear A130
    by_cases c14 : t455 < 0
    ·rw [if_pos c14] at H
     exact absurd H (by simp)
    ·rw [if_neg c14] at H
     have c14b0 : decide (t455 < 0) = false := decide_eq_false c14
     clear c14
     replace H := Option.bind_eq_some_iff.mp H
     obtain ⟨t457, A150, H⟩ := H
     replace H : (if t457 = true then ((laws_markIntS.f k t447 1).bind fun bt458 => ((laws_heldIntS.f k bt458.2 1).bind fun t460 => (if t460 < 0 then (none) else (if t460 = bt458.1 then ((laws_toRuleS.f k l0).bind fun t461 => ((impl_Shadowed.f k t461).bind fun t464 => ((laws_eqIntS.f k t464 t441).bind fun t467 => (if t467 = true then ((laws_heldIntS.f k bt458.2 1).bind fun t468 => (if t468 < 0 then (none) else (if t468 = bt458.1 then (some true) else (none)))) else (none))))) else (none))))) else (none)) = some r := H
     have A15 := Gv.a0 A150
     clear A150
     by_cases c16 : t457 = true
     ·subst c16
      have H1 : ((laws_markIntS.f k t447 1).bind fun bt458 => ((laws_heldIntS.f k bt458.2 1).bind fun t460 => (if t460 < 0 then (none) else (if t460 = bt458.1 then ((laws_toRuleS.f k l0).bind fun t461 => ((impl_Shadowed.f k t461).bind fun t464 => ((laws_eqIntS.f k t464 t441).bind fun t467 => (if t467 = true then ((laws_heldIntS.f k bt458.2 1).bind fun t468 => (if t468 < 0 then (none) else (if t468 = bt458.1 then (some true) else (none)))) else (none))))) else (none))))) = some r := by rw [if_pos rfl] at H; exact H
      clear H
      have H := H1
      clear H1
      replace H := Option.bind_eq_some_iff.mp H
      obtain ⟨⟨t458, t459⟩, A170, H⟩ := H
      replace H : ((laws_heldIntS.f k t459 1).bind fun t460 => (if t460 < 0 then (none) else (if t460 = t458 then ((laws_toRuleS.f k l0).bind fun t461 => ((impl_Shadowed.f k t461).bind fun t464 => ((laws_eqIntS.f k t464 t441).bind fun t467 => (if t467 = true then ((laws_heldIntS.f k t459 1).bind fun t468 => (if t468 < 0 then (none) else (if t468 = t458 then (some true) else (none)))) else (none))))) else (none)))) = some r := H
      have A17 := Gv.a0 A170
      clear A170
      replace H := Option.bind_eq_some_iff.mp H
      obtain ⟨t460, A180, H⟩ := H
      replace H : (if t460 < 0 then (none) else (if t460 = t458 then ((laws_toRuleS.f k l0).bind fun t461 => ((impl_Shadowed.f k t461).bind fun t464 => ((laws_eqIntS.f k t464 t441).bind fun t467 => (if t467 = true then ((laws_heldIntS.f k t459 1).bind fun t468 => (if t468 < 0 then (none) else (if t468 = t458 then (some true) else (none)))) else (none))))) else (none))) = some r := H
      have A18 := Gv.a0 A180
      clear A180
      by_cases c19 : t460 < 0
      ·rw [if_pos c19] at H
       exact absurd H (by simp)
      ·rw [if_neg c19] at H
       have c19b0 : decide (t460 < 0) = false := decide_eq_false c19
       clear c19
       by_cases c20 : t460 = t458
       ·rw [if_pos c20] at H
        have c20b0 : (t460 == t458) = true := beq_iff_eq.mpr c20
        have c20b1 : (t460 != t458) = false := bne_eq_false_iff_eq.mpr c20
        clear c20
        replace H := Option.bind_eq_some_iff.mp H
        obtain ⟨t461, A210, H⟩ := H
        replace H : ((impl_Shadowed.f k t461).bind fun t464 => ((laws_eqIntS.f k t464 t441).bind fun t467 => (if t467 = true then ((laws_heldIntS.f k t459 1).bind fun t468 => (if t468 < 0 then (none) else (if t468 = t458 then (some true) else (none)))) else (none)))) = some r := H
        have A21 := Gv.a0 A210
        clear A210
        replace H := Option.bind_eq_some_iff.mp H
        obtain ⟨t464, A220, H⟩ := H
        replace H : ((laws_eqIntS.f k t464 t441).bind fun t467 => (if t467 = true then ((laws_heldIntS.f k t459 1).bind fun t468 => (if t468 < 0 then (none) else (if t468 = t458 then (some true) else (none)))) else (none))) = some r := H
        have A22 := Gv.a0 A220
        clear A220
        replace H := Option.bind_eq_some_iff.mp H
        obtain ⟨t467, A230, H⟩ := H
        replace H : (if t467 = true then ((laws_heldIntS.f k t459 1).bind fun t468 => (if t468 < 0 then (none) else (if t468 = t458 then (some true) else (none)))) else (none)) = some r := H
        have A23 := Gv.a0 A230
        clear A230
        by_cases c24 : t467 = true
        ·subst c24
         have H1 : ((laws_heldIntS.f k t459 1).bind fun t468 => (if t468 < 0 then (none) else (if t468 = t458 then (some true) else (none)))) = some r := by rw [if_pos rfl] at H; exact H
         clear H
         have H := H1
         clear H1
         replace H := Option.bind_eq_some_iff.mp H
         obtain ⟨t468, A250, H⟩ := H
         replace H : (if t468 < 0 then (none) else (if t468 = t458 then (some true) else (none))) = some r := H
         have A25 := Gv.a0 A250
         clear A250
         by_cases c26 : t468 < 0
         ·rw [if_pos c26] at H
          exact absurd H (by simp)
         ·rw [if_neg c26] at H
          have c26b0 : decide (t468 < 0) = false := decide_eq_false c26
          clear c26
          by_cases c27 : t468 = t458
          ·rw [if_pos c27] at H
           have c27b0 : (t468 == t458) = true := beq_iff_eq.mpr c27
           have c27b1 : (t468 != t458) = false := bne_eq_false_iff_eq.mpr c27
           clear c27
           obtain rfl := Option.some.inj H
           go_enter Try.func5, Try.ntmps5
           go_wp2_with (first | ((with_reducible refine gate_callee (f := 8) rfl ?_); refine goesL_ (some 13) rfl rfl Try.func8 (by kernel_rfl) rfl #[.slice A0 l0.length c0, .int .i64 1048576] rfl Gv.lm ?_; (with_reducible refine (laws_szRuleS.calls _ _ l0 1048576 t437 _ ?side1 ?side2 A2.out).mono ?_); (case side1 => repeat (first | exact HR0.out | (with_reducible refine Kd.C_alloc ?_ _) | (with_reducible refine Kd.C_drewN ?_ _) | (with_reducible refine Kd.C_drew ?_))); (case side2 => exact HC0.out); rintro e w' ⟨rfl, ⟨nd, rfl⟩⟩; refine ⟨_, rfl, ?_⟩) | ((with_reducible refine gate_callee (f := 10) rfl ?_); refine goesL_ (some 17) rfl rfl Try.func10 (by kernel_rfl) rfl #[.slice A0 l0.length c0] rfl Gv.lm ?_; (with_reducible refine (laws_toRuleS.calls k _ _ l0 t438 _ ?side1 ?side2 A4.out).mono ?_); (case side1 => repeat (first | exact HR0.out | (with_reducible refine Kd.C_alloc ?_ _) | (with_reducible refine Kd.C_drewN ?_ _) | (with_reducible refine Kd.C_drew ?_))); (case side2 => exact HC0.out); rintro e w28 ⟨v439, rfl, ho0, hb⟩; refine ⟨_, rfl, ?_⟩; have n0_ := Gv.a0 (Kd.R_lower ho0 (below_size Gv.bw)); have n1_ := Gv.a0 (below_step Gv.bw hb); clear HB; have HO440 := n0_; have HB := n1_; clear n0_ n1_; (try clear hb); (try clear hb2); (try clear hk); (try clear hi); (try clear ho0); obtain ⟨Ao29, co29, eo29⟩ := Kd.R_slice HO440.out; subst eo29) | ((with_reducible refine gate_callee (f := 16) rfl ?_); refine goesL_ (some 18) rfl rfl Try.func16 (by kernel_rfl) rfl #[.slice Ao29 t438.length co29] rfl Gv.lm ?_; (with_reducible refine (spec_Shadowed.calls k _ _ t438 t441 _ ?side1 ?side2 A5.out).mono ?_); (case side1 => repeat (first | exact (Kd.R_reads' HO440.out).2.2 | (with_reducible refine Kd.C_alloc ?_ _) | (with_reducible refine Kd.C_drewN ?_ _) | (with_reducible refine Kd.C_drew ?_))); (case side2 => exact (Kd.R_reads' HO440.out).2.1); rintro e w30 ⟨v442, rfl, ho0, hb⟩; refine ⟨_, rfl, ?_⟩; have n0_ := Gv.a0 (Kd.R_below (Gv.kr HO440.out) hb); have n1_ := Gv.a0 (Kd.R_lower ho0 (below_size Gv.bw)); have n2_ := Gv.a0 (below_step Gv.bw hb); clear HO440; clear HB; have HO440 := n0_; have HO443 := n1_; have HB := n2_; clear n0_ n1_ n2_; (try clear hb); (try clear hb2); (try clear hk); (try clear hi); (try clear ho0)) | ((with_reducible refine gate_callee (f := 10) rfl ?_); refine goesL_ (some 20) rfl rfl Try.func10 (by kernel_rfl) rfl #[.slice A0 l0.length c0] rfl Gv.lm ?_; (with_reducible refine (laws_toRuleS.calls k _ _ l0 t444 _ ?side1 ?side2 A6.out).mono ?_); (case side1 => repeat (first | exact (Kd.C_below HR0.out HB.out) | (with_reducible refine Kd.C_alloc ?_ _) | (with_reducible refine Kd.C_drewN ?_ _) | (with_reducible refine Kd.C_drew ?_))); (case side2 => exact HC0.out); rintro e w31 ⟨v445, rfl, ho0, hb⟩; refine ⟨_, rfl, ?_⟩; have n0_ := Gv.a0 (Kd.R_elder' (Gv.kr HO440.out) (Kd.R_base ho0) hb); have n1_ := Gv.a0 (Kd.R_below (Gv.kr HO443.out) hb); have n2_ := Gv.a0 (Kd.R_lower (Kd.R_new' ho0 (Kd.R_lt (Gv.kr HO440.out))) (below_size Gv.bw)); have n3_ := Gv.a0 (below_step Gv.bw hb); clear HO440; clear HO443; clear HB; have HO440 := n0_; have HO443 := n1_; have HO446 := n2_; have HB := n3_; clear n0_ n1_ n2_ n3_; (try clear hb); (try clear hb2); (try clear hk); (try clear hi); (try clear ho0); obtain ⟨Ao32, co32, eo32⟩ := Kd.R_slice HO446.out; subst eo32) | ((with_reducible refine gate_callee (f := 17) rfl ?_); refine goesL_ (some 22) rfl rfl Try.func17 (by kernel_rfl) rfl #[.slice Ao32 t444.length co32] rfl Gv.lm ?_; (with_reducible refine (impl_Shadowed.calls k _ _ t444 t447 _ ?side1 ?side2 A7.out).mono ?_); (case side1 => repeat (first | exact (Kd.R_reads' HO446.out).2.2 | (with_reducible refine Kd.C_alloc ?_ _) | (with_reducible refine Kd.C_drewN ?_ _) | (with_reducible refine Kd.C_drew ?_))); (case side2 => exact (Kd.R_reads' HO446.out).2.1); rintro e w33 ⟨v448, rfl, ho0, hb⟩; refine ⟨_, rfl, ?_⟩; have n0_ := Gv.a0 (Kd.R_below (Gv.kr HO440.out) hb); have n1_ := Gv.a0 (Kd.R_elder' (Gv.kr HO443.out) (Kd.R_base ho0) hb); have n2_ := Gv.a0 (Kd.R_below (Gv.kr HO446.out) hb); have n3_ := Gv.a0 (Kd.R_lower (Kd.R_new' ho0 (Kd.R_lt (Gv.kr HO443.out))) (below_size Gv.bw)); have n4_ := Gv.a0 (below_step Gv.bw hb); clear HO440; clear HO443; clear HO446; clear HB; have HO440 := n0_; have HO443 := n1_; have HO446 := n2_; have HO449 := n3_; have HB := n4_; clear n0_ n1_ n2_ n3_ n4_; (try clear hb); (try clear hb2); (try clear hk); (try clear hi); (try clear ho0); obtain ⟨Ao34, co34, eo34⟩ := Kd.R_slice HO449.out; subst eo34; obtain ⟨Ao35, co35, eo35⟩ := Kd.R_slice HO443.out; subst eo35) | ((with_reducible refine gate_callee (f := 18) rfl ?_); refine goesL_ (some 25) rfl rfl Try.func18 (by kernel_rfl) rfl #[.slice Ao34 t447.length co34, .slice Ao35 t441.length co35] rfl Gv.lm ?_; (with_reducible refine (laws_eqIntS.calls k _ _ t447 _ _ t441 true _ ?side1 ?side2 ?side3 ?side4 A8.out).mono ?_); (case side1 => repeat (first | exact (Kd.R_reads' HO449.out).2.2 | (with_reducible refine Kd.C_alloc ?_ _) | (with_reducible refine Kd.C_drewN ?_ _) | (with_reducible refine Kd.C_drew ?_))); (case side2 => exact (Kd.R_reads' HO449.out).2.1); (case side3 => repeat (first | exact (Kd.R_reads' HO443.out).2.2 | (with_reducible refine Kd.C_alloc ?_ _) | (with_reducible refine Kd.C_drewN ?_ _) | (with_reducible refine Kd.C_drew ?_))); (case side4 => exact (Kd.R_reads' HO443.out).2.1); rintro e w' ⟨rfl, ⟨nd, rfl⟩⟩; refine ⟨_, rfl, ?_⟩) | ((with_reducible refine gate_callee (f := 10) rfl ?_); refine goesL_ (some 29) rfl rfl Try.func10 (by kernel_rfl) rfl #[.slice A0 l0.length c0] rfl Gv.lm ?_; (with_reducible refine (laws_toRuleS.calls k _ _ l0 t451 _ ?side1 ?side2 A10.out).mono ?_); (case side1 => repeat (first | exact (Kd.C_below HR0.out Gv.bw) | (with_reducible refine Kd.C_alloc ?_ _) | (with_reducible refine Kd.C_drewN ?_ _) | (with_reducible refine Kd.C_drew ?_))); (case side2 => exact HC0.out); rintro e w36 ⟨v452, rfl, ho0, hb⟩; refine ⟨_, rfl, ?_⟩; have n0_ := Gv.a0 (Kd.R_elder' (Gv.kr HO440.out) (Kd.R_base ho0) hb); have n1_ := Gv.a0 (Kd.R_below (Gv.kr HO443.out) hb); have n2_ := Gv.a0 (Kd.R_elder' (Gv.kr HO446.out) (Kd.R_base ho0) hb); have n3_ := Gv.a0 (Kd.R_below (Gv.kr HO449.out) hb); have n4_ := Gv.a0 (Kd.R_lower (Kd.R_new' (Kd.R_new' ho0 (Kd.R_lt (Gv.kr HO440.out))) (Kd.R_lt (Gv.kr HO446.out))) (below_size Gv.bw)); have n5_ := Gv.a0 (below_step Gv.bw hb); clear HO440; clear HO443; clear HO446; clear HO449; clear HB; have HO440 := n0_; have HO443 := n1_; have HO446 := n2_; have HO449 := n3_; have HO453 := n4_; have HB := n5_; clear n0_ n1_ n2_ n3_ n4_ n5_; (try clear hb); (try clear hb2); (try clear hk); (try clear hi); (try clear ho0); obtain ⟨Ao37, co37, eo37⟩ := Kd.R_slice HO453.out; subst eo37) | ((with_reducible refine gate_callee (f := 12) rfl ?_); refine goesL_ (some 30) rfl rfl Try.func12 (by kernel_rfl) rfl #[.slice Ao32 t444.length co32, .slice Ao37 t451.length co37] rfl Gv.lm ?_; (with_reducible refine (laws_eqRuleS.calls k _ _ t444 _ _ t451 true _ ?side1 ?side2 ?side3 ?side4 A11.out).mono ?_); (case side1 => repeat (first | exact (Kd.R_reads' HO446.out).2.2 | (with_reducible refine Kd.C_alloc ?_ _) | (with_reducible refine Kd.C_drewN ?_ _) | (with_reducible refine Kd.C_drew ?_))); (case side2 => exact (Kd.R_reads' HO446.out).2.1); (case side3 => repeat (first | exact (Kd.R_reads' HO453.out).2.2 | (with_reducible refine Kd.C_alloc ?_ _) | (with_reducible refine Kd.C_drewN ?_ _) | (with_reducible refine Kd.C_drew ?_))); (case side4 => exact (Kd.R_reads' HO453.out).2.1); rintro e w38 ⟨rfl, hb⟩; refine ⟨_, rfl, ?_⟩; have n0_ := Gv.a0 (Kd.R_below (Gv.kr HO440.out) hb); have n1_ := Gv.a0 (Kd.R_below (Gv.kr HO443.out) hb); have n2_ := Gv.a0 (Kd.R_below (Gv.kr HO446.out) hb); have n3_ := Gv.a0 (Kd.R_below (Gv.kr HO449.out) hb); have n4_ := Gv.a0 (Kd.R_below (Gv.kr HO453.out) hb); have n5_ := Gv.a0 (below_step Gv.bw hb); clear HO440; clear HO443; clear HO446; clear HO449; clear HO453; clear HB; have HO440 := n0_; have HO443 := n1_; have HO446 := n2_; have HO449 := n3_; have HO453 := n4_; have HB := n5_; clear n0_ n1_ n2_ n3_ n4_ n5_; (try clear hb); (try clear hb2); (try clear hk); (try clear hi)) | ((with_reducible refine gate_callee (f := 19) rfl ?_); refine goesL_ (some 34) rfl rfl Try.func19 (by kernel_rfl) rfl #[.slice Ao32 t444.length co32, .int .i64 1] rfl Gv.lm ?_; (with_reducible refine (laws_markRuleS.calls (fun k_ => some k_ = (.slice Ao32 t444.length co32 : Value).ownBlock) (.slice Ao32 t444.length co32) t444 1 t455 t456 w _ ?side1 ?side2 A13.out).mono ?_); (case side1 => repeat (first | (with_reducible first | exact HB.out | apply below_alloc | apply pw_below_drewN | apply below_drew1) | exact HB.out)); (case side2 => exact Kd.R_tight rfl HO446.out); rintro e w39 ⟨rfl, hy0, hb, hkp⟩; refine ⟨_, rfl, ?_⟩; have n0_ := Gv.a0 (Kd.R_mono (ok' := fun k_ => some k_ ≠ (.slice Ao32 t444.length co32 : Value).ownBlock ∧ some k_ ≠ (.slice Ao37 t451.length co37 : Value).ownBlock) (Kd.R_keptB (HO440.out) hkp (fun k_ hk_ hs_ => (hk_.1.2) hs_)) (fun k_ hk_ => ⟨hk_.1.1.2, hk_.1.2⟩)); have n1_ := Gv.a0 (Kd.R_mono (ok' := fun k_ => some k_ ≠ (.slice Ao34 t447.length co34 : Value).ownBlock) (Kd.R_keptB ((Kd.R_apart' HO443.out (Kd.R_typed HO446.out) (by decide))) hkp (fun k_ hk_ hs_ => (hk_.2) hs_)) (fun k_ hk_ => hk_.1.1.2)); have n2_ := Gv.a0 (Kd.R_reok rfl hy0 (fun k_ e_ => HO446.out.1 k_ e_)); have n3_ := Gv.a0 (Kd.R_mono (ok' := fun k_ => some k_ ≠ (.slice Ao35 t441.length co35 : Value).ownBlock) (Kd.R_keptB ((Kd.R_apart' HO449.out (Kd.R_typed HO446.out) (by decide))) hkp (fun k_ hk_ hs_ => (hk_.2) hs_)) (fun k_ hk_ => hk_.1.1.2)); have n4_ := Gv.a0 (Kd.R_mono (ok' := fun k_ => some k_ ≠ (.slice Ao29 t438.length co29 : Value).ownBlock ∧ some k_ ≠ (.slice Ao32 t444.length co32 : Value).ownBlock) (Kd.R_keptB (HO453.out) hkp (fun k_ hk_ hs_ => (hk_.2) hs_)) (fun k_ hk_ => ⟨hk_.1.1.2, hk_.1.2⟩)); have n5_ := Gv.a0 (hb); clear HO440; clear HO443; clear HO446; clear HO449; clear HO453; clear HB; have HO440 := n0_; have HO443 := n1_; have HO446 := n2_; have HO449 := n3_; have HO453 := n4_; have HB := n5_; clear n0_ n1_ n2_ n3_ n4_ n5_; (try clear hb); (try clear hkp); (try clear hy0)) | (go_at_call 18; (with_reducible refine (laws_eqIntS.calls k _ _ t447 _ _ t441 true _ ?side1 ?side2 ?side3 ?side4 A15.out).mono ?_); (case side1 => repeat (first | exact (Kd.R_reads' HO449.out).2.2 | (with_reducible refine Kd.C_alloc ?_ _) | (with_reducible refine Kd.C_drewN ?_ _) | (with_reducible refine Kd.C_drew ?_))); (case side2 => exact (Kd.R_reads' HO449.out).2.1); (case side3 => repeat (first | exact (Kd.R_reads' HO443.out).2.2 | (with_reducible refine Kd.C_alloc ?_ _) | (with_reducible refine Kd.C_drewN ?_ _) | (with_reducible refine Kd.C_drew ?_))); (case side4 => exact (Kd.R_reads' HO443.out).2.1); rintro e w' ⟨rfl, ⟨nd, rfl⟩⟩) | ((with_reducible refine gate_callee (f := 20) rfl ?_); refine goesL_ (some 45) rfl rfl Try.func20 (by kernel_rfl) rfl #[.slice Ao34 t447.length co34, .int .i64 1] rfl Gv.lm ?_; (with_reducible refine (laws_markIntS.calls k (fun k_ => some k_ = (.slice Ao34 t447.length co34 : Value).ownBlock) (.slice Ao34 t447.length co34) t447 1 t458 t459 w _ ?side1 ?side2 A17.out).mono ?_); (case side1 => repeat (first | (with_reducible first | exact HB.out | apply below_alloc | apply pw_below_drewN | apply below_drew1) | exact HB.out)); (case side2 => exact Kd.R_tight rfl HO449.out); rintro e w40 ⟨rfl, hy0, hb, hkp⟩; refine ⟨_, rfl, ?_⟩; have n0_ := Gv.a0 (Kd.R_mono (ok' := fun k_ => some k_ ≠ (.slice Ao32 t444.length co32 : Value).ownBlock ∧ some k_ ≠ (.slice Ao37 t451.length co37 : Value).ownBlock) (Kd.R_keptB ((Kd.R_apart' HO440.out (Kd.R_typed HO449.out) (by decide))) hkp (fun k_ hk_ hs_ => (hk_.2) hs_)) (fun k_ hk_ => ⟨hk_.1.1.1, hk_.1.1.2⟩)); have n1_ := Gv.a0 (Kd.R_mono (ok' := fun k_ => some k_ ≠ (.slice Ao34 t447.length co34 : Value).ownBlock) (Kd.R_keptB (HO443.out) hkp (fun k_ hk_ hs_ => (hk_) hs_)) (fun k_ hk_ => hk_.1)); have n2_ := Gv.a0 (Kd.R_mono (ok' := fun k_ => some k_ ≠ (.slice Ao29 t438.length co29 : Value).ownBlock ∧ some k_ ≠ (.slice Ao37 t451.length co37 : Value).ownBlock) (Kd.R_keptB ((Kd.R_apart' HO446.out (Kd.R_typed HO449.out) (by decide))) hkp (fun k_ hk_ hs_ => (hk_.2) hs_)) (fun k_ hk_ => ⟨hk_.1.1.1.2, hk_.1.1.2⟩)); have n3_ := Gv.a0 (Kd.R_reok rfl hy0 (fun k_ e_ => HO449.out.1 k_ e_)); have n4_ := Gv.a0 (Kd.R_mono (ok' := fun k_ => some k_ ≠ (.slice Ao29 t438.length co29 : Value).ownBlock ∧ some k_ ≠ (.slice Ao32 t444.length co32 : Value).ownBlock) (Kd.R_keptB ((Kd.R_apart' HO453.out (Kd.R_typed HO449.out) (by decide))) hkp (fun k_ hk_ hs_ => (hk_.2) hs_)) (fun k_ hk_ => ⟨hk_.1.1.1, hk_.1.1.2⟩)); have n5_ := Gv.a0 (hb); clear HO440; clear HO443; clear HO446; clear HO449; clear HO453; clear HB; have HO440 := n0_; have HO443 := n1_; have HO446 := n2_; have HO449 := n3_; have HO453 := n4_; have HB := n5_; clear n0_ n1_ n2_ n3_ n4_ n5_; (try clear hb); (try clear hkp); (try clear hy0)) | ((with_reducible refine gate_callee (f := 21) rfl ?_); refine goesL_ (some 48) rfl rfl Try.func21 (by kernel_rfl) rfl #[.slice Ao34 t459.length co34, .int .i64 1] rfl (by (try simp only [List.map_toArray, List.map_cons, List.map_nil]); first | done | (rw [show t459.length = t447.length from (Kd.R_reads' HO449.out).1.symm] <;> rfl) | rfl | (simp only [List.length_drop, List.length_take]; rfl)) ?_; (with_reducible refine (laws_heldIntS.calls k _ _ t459 1 t460 _ ?side1 ?side2 A18.out).mono ?_); (case side1 => repeat (first | exact (Kd.R_reads' HO449.out).2.2 | (with_reducible refine Kd.C_alloc ?_ _) | (with_reducible refine Kd.C_drewN ?_ _) | (with_reducible refine Kd.C_drew ?_))); (case side2 => rw [show t459.length = t447.length from (Kd.R_reads' HO449.out).1.symm]; exact (Kd.R_reads' HO449.out).2.1); rintro e w' ⟨rfl, ⟨nd, rfl⟩⟩; refine ⟨_, rfl, ?_⟩) | ((with_reducible refine gate_callee (f := 10) rfl ?_); refine goesL_ (some 55) rfl rfl Try.func10 (by kernel_rfl) rfl #[.slice A0 l0.length c0] rfl Gv.lm ?_; (with_reducible refine (laws_toRuleS.calls k _ _ l0 t461 _ ?side1 ?side2 A21.out).mono ?_); (case side1 => repeat (first | exact (Kd.C_below HR0.out Gv.bw) | (with_reducible refine Kd.C_alloc ?_ _) | (with_reducible refine Kd.C_drewN ?_ _) | (with_reducible refine Kd.C_drew ?_))); (case side2 => exact HC0.out); rintro e w41 ⟨v462, rfl, ho0, hb⟩; refine ⟨_, rfl, ?_⟩; have n0_ := Gv.a0 (Kd.R_elder' (Gv.kr HO440.out) (Kd.R_base ho0) hb); have n1_ := Gv.a0 (Kd.R_below (Gv.kr HO443.out) hb); have n2_ := Gv.a0 (Kd.R_elder' (Gv.kr HO446.out) (Kd.R_base ho0) hb); have n3_ := Gv.a0 (Kd.R_below (Gv.kr HO449.out) hb); have n4_ := Gv.a0 (Kd.R_elder' (Gv.kr HO453.out) (Kd.R_base ho0) hb); have n5_ := Gv.a0 (Kd.R_lower (Kd.R_new' (Kd.R_new' (Kd.R_new' ho0 (Kd.R_lt (Gv.kr HO440.out))) (Kd.R_lt (Gv.kr HO446.out))) (Kd.R_lt (Gv.kr HO453.out))) (below_size Gv.bw)); have n6_ := Gv.a0 (below_step Gv.bw hb); clear HO440; clear HO443; clear HO446; clear HO449; clear HO453; clear HB; have HO440 := n0_; have HO443 := n1_; have HO446 := n2_; have HO449 := n3_; have HO453 := n4_; have HO463 := n5_; have HB := n6_; clear n0_ n1_ n2_ n3_ n4_ n5_ n6_; (try clear hb); (try clear hb2); (try clear hk); (try clear hi); (try clear ho0); obtain ⟨Ao42, co42, eo42⟩ := Kd.R_slice HO463.out; subst eo42) | ((with_reducible refine gate_callee (f := 17) rfl ?_); refine goesL_ (some 56) rfl rfl Try.func17 (by kernel_rfl) rfl #[.slice Ao42 t461.length co42] rfl Gv.lm ?_; (with_reducible refine (impl_Shadowed.calls k _ _ t461 t464 _ ?side1 ?side2 A22.out).mono ?_); (case side1 => repeat (first | exact (Kd.R_reads' HO463.out).2.2 | (with_reducible refine Kd.C_alloc ?_ _) | (with_reducible refine Kd.C_drewN ?_ _) | (with_reducible refine Kd.C_drew ?_))); (case side2 => exact (Kd.R_reads' HO463.out).2.1); rintro e w43 ⟨v465, rfl, ho0, hb⟩; refine ⟨_, rfl, ?_⟩; have n0_ := Gv.a0 (Kd.R_below (Gv.kr HO440.out) hb); have n1_ := Gv.a0 (Kd.R_elder' (Gv.kr HO443.out) (Kd.R_base ho0) hb); have n2_ := Gv.a0 (Kd.R_below (Gv.kr HO446.out) hb); have n3_ := Gv.a0 (Kd.R_elder' (Gv.kr HO449.out) (Kd.R_base ho0) hb); have n4_ := Gv.a0 (Kd.R_below (Gv.kr HO453.out) hb); have n5_ := Gv.a0 (Kd.R_below (Gv.kr HO463.out) hb); have n6_ := Gv.a0 (Kd.R_lower (Kd.R_new' (Kd.R_new' ho0 (Kd.R_lt (Gv.kr HO443.out))) (Kd.R_lt (Gv.kr HO449.out))) (below_size Gv.bw)); have n7_ := Gv.a0 (below_step Gv.bw hb); clear HO440; clear HO443; clear HO446; clear HO449; clear HO453; clear HO463; clear HB; have HO440 := n0_; have HO443 := n1_; have HO446 := n2_; have HO449 := n3_; have HO453 := n4_; have HO463 := n5_; have HO466 := n6_; have HB := n7_; clear n0_ n1_ n2_ n3_ n4_ n5_ n6_ n7_; (try clear hb); (try clear hb2); (try clear hk); (try clear hi); (try clear ho0); obtain ⟨Ao44, co44, eo44⟩ := Kd.R_slice HO466.out; subst eo44) | ((with_reducible refine gate_callee (f := 18) rfl ?_); refine goesL_ (some 59) rfl rfl Try.func18 (by kernel_rfl) rfl #[.slice Ao44 t464.length co44, .slice Ao35 t441.length co35] rfl Gv.lm ?_; (with_reducible refine (laws_eqIntS.calls k _ _ t464 _ _ t441 true _ ?side1 ?side2 ?side3 ?side4 A23.out).mono ?_); (case side1 => repeat (first | exact (Kd.R_reads' HO466.out).2.2 | (with_reducible refine Kd.C_alloc ?_ _) | (with_reducible refine Kd.C_drewN ?_ _) | (with_reducible refine Kd.C_drew ?_))); (case side2 => exact (Kd.R_reads' HO466.out).2.1); (case side3 => repeat (first | exact (Kd.R_reads' HO443.out).2.2 | (with_reducible refine Kd.C_alloc ?_ _) | (with_reducible refine Kd.C_drewN ?_ _) | (with_reducible refine Kd.C_drew ?_))); (case side4 => exact (Kd.R_reads' HO443.out).2.1); rintro e w' ⟨rfl, ⟨nd, rfl⟩⟩; refine ⟨_, rfl, ?_⟩) | ((with_reducible refine gate_callee (f := 21) rfl ?_); refine goesL_ (some 63) rfl rfl Try.func21 (by kernel_rfl) rfl #[.slice Ao34 t459.length co34, .int .i64 1] rfl (by (try simp only [List.map_toArray, List.map_cons, List.map_nil]); first | done | (rw [show t459.length = t447.length from (Kd.R_reads' HO449.out).1.symm] <;> rfl) | rfl | (simp only [List.length_drop, List.length_take]; rfl)) ?_; (with_reducible refine (laws_heldIntS.calls k _ _ t459 1 t468 _ ?side1 ?side2 A25.out).mono ?_); (case side1 => repeat (first | exact (Kd.R_reads' HO449.out).2.2 | (with_reducible refine Kd.C_alloc ?_ _) | (with_reducible refine Kd.C_drewN ?_ _) | (with_reducible refine Kd.C_drew ?_))); (case side2 => rw [show t459.length = t447.length from (Kd.R_reads' HO449.out).1.symm]; exact (Kd.R_reads' HO449.out).2.1); rintro e w' ⟨rfl, ⟨nd, rfl⟩⟩; refine ⟨_, rfl, ?_⟩))
           go_ret
           exact ⟨Gv.rt, Gv.bw⟩
          ·rw [if_neg c27] at H
           exact absurd H (by simp)
        ·replace c24 := Bool.eq_false_iff.mpr c24
         subst c24
         have H1 : (none) = some r := by rw [if_neg (show ¬ (false = true) by decide)] at H; exact H
         clear H
         have H := H1
         clear H1
         exact absurd H (by simp)
       ·rw [if_neg c20] at H
        exact absurd H (by simp)
     ·replace c16 := Bool.eq_false_iff.mpr c16
      subst c16
      have H1 : (none) = some r := by rw [if_neg (show ¬ (false = true) by decide)] at H; exact H
      clear H
      have H := H1
      clear H1
      exact absurd H (by simp)
   ·replace c12 := Bool.eq_false_iff.mpr c12
    subst c12
    have H1 : (none) = some r := by rw [if_neg (show ¬ (false = true) by decide)] at H; exact H
    clear H
    have H := H1
    clear H1
    exact absurd H (by simp)
  ·replace c9 := Bool.eq_false_iff.mpr c9
   subst c9
   have H1 : (none) = some r := by rw [if_neg (show ¬ (false = true) by decide)] at H; exact H
   clear H
   have H := H1
   clear H1
   exact absurd H (by simp)

end Go.Proofs.Ytbihbbkdciebhaa.PSh
