/- Plain Lean functions of a law's Go functions, their contracts, by a program of this session (wip/pr.py over the kit's print). -/
import Derived.Test.YtbihbbkdciebhaaGreatDoorPRrx0
import Derived.Test.YtbihbbkdciebhaaGreatDoorPRrx1
import Derived.Test.YtbihbbkdciebhaaGreatDoorPRrx3
import Derived.Test.YtbihbbkdciebhaaGreatDoorPRrx4
namespace Go.Proofs.YtbihbbkdciebhaaGreatDoor.PRr
open Go.RowKit Go.Proofs.YtbihbbkdciebhaaGreatDoorW.PrintWords Go.Proofs.YtbihbbkdciebhaaGreatDoorW.PrintLast Go.Proofs.YtbihbbkdciebhaaGreatDoorW.PrintMore
attribute [local go_sem] max2_int min2_int max_two min_two max_three min_three max_four min_four   -- for this text's walks alone
set_option linter.unusedVariables false
set_option linter.unusedSimpArgs false

attribute [local go_sem high] eqA23
/-! ### spec_PrefixOk: function 24 -/
def spec_PrefixOk.f (k : Nat) (a0_0 : Int) (a0_1 : Int) (a0_2 : Int) (a0_3 : Int) (a0_4 : Int) (a0_5 : Int) : Option (Bool) := (spec_l03Any.f a0_0 a0_1 a0_2 a0_3 a0_4 a0_5).bind fun t265 => (if t265 = true then (some true) else ((spec_AddrOk.f a0_0 a0_1 a0_2 a0_3 a0_4).bind fun t266 => (if t266 = true then (if a0_5 ≥ 0 then ((spec_l03Bits.f a0_0 a0_1 a0_2 a0_3 a0_4).bind fun t267 => (if a0_5 ≤ t267 then ((spec_Cut.f k a0_0 a0_1 a0_2 a0_3 a0_4 a0_5).bind fun bt268 => (some (bt268.1 == a0_0 && (bt268.2.1 == a0_1 && (bt268.2.2.1 == a0_2 && (bt268.2.2.2.1 == a0_3 && (bt268.2.2.2.2 == a0_4))))))) else (some false))) else (some false)) else (some false))))
def spec_PrefixOk.T1 : Bool × List (List Nat × List Nat) := (true, [([], []), ([0], [0]), ([1, 1], [1]), ([2], [2]), ([3, 2], [2, 3]), ([4, 2, 2], [2, 4]), ([5, 5, 2], [2, 5]), ([6], [6]), ([7, 6], [6, 7]), ([8, 6], [6, 8]), ([6, 9, 2], [2, 6, 9]), ([10, 6, 2], [2, 10]), ([11], [11]), ([12, 11], [11, 12]), ([11], [11]), ([14, 11], [11, 14]), ([15, 11, 11], [11, 15]), ([13, 16, 11], [11, 13, 16]), ([11, 17, 2], [2, 11, 17]), ([18, 16, 2], [2, 18]), ([19], [19]), ([20, 19], [19, 20]), ([19], [19]), ([22, 19], [19, 22]), ([21, 23, 19, 19], [19, 21, 23]), ([19], [19]), ([25, 19], [19, 25]), ([24, 26, 19], [19, 24, 26]), ([19, 27, 2], [2, 19, 27]), ([2, 28], [2, 28]), ([29, 24, 0, 1, 2, 3, 4, 5, 6, 7, 8, 9, 10, 11, 12, 13, 14, 15, 16, 17, 18, 19, 20, 21, 22, 23, 24, 25, 26, 27, 28, 29], [29])])
def spec_PrefixOk.B1 : List Nat := [0, 1, 3, 7, 15, 31, 63, 127, 255, 511, 1023, 2047, 4095, 8191, 4095, 20479, 53247, 131071, 262143, 524287, 1048575, 2097151, 1048575, 5242879, 16777215, 1048575, 34603007, 134217727, 268435455, 536870911, 1073741823]
theorem spec_PrefixOk.tab1 : rtab .any (opsOf Tryz.f24 1) = spec_PrefixOk.T1 := by kernel_rfl
theorem spec_PrefixOk.bits1 : waitsOk spec_PrefixOk.T1.2 spec_PrefixOk.B1 = true := by kernel_rfl
set_option maxHeartbeats 8000000 in
set_option maxRecDepth 100000 in
theorem spec_PrefixOk.calls (k : Nat) (a0_0 : Int) (a0_1 : Int) (a0_2 : Int) (a0_3 : Int) (a0_4 : Int) (a0_5 : Int) (r : Bool) (w : World) (h : spec_PrefixOk.f k a0_0 a0_1 a0_2 a0_3 a0_4 a0_5 = some r) :
  Calls Tryz.prog 24 #[.agg #[.int .i64 a0_0, .int .i64 a0_1, .int .i64 a0_2, .int .i64 a0_3, .int .i64 a0_4, .int .i64 a0_5]] w fun e w' => e = .returned (.bool r) ∧ Below w.heap.size w w' := by
 have hu25 := Tryz.underlying25; have hu23 := Tryz.underlying23; have HB := Gv.a0 (Below.refl w.heap.size w); unfold spec_PrefixOk.f at h; have H := h; clear h; replace H := Option.bind_eq_some_iff.mp H; obtain ⟨t2, A20, H⟩ := H
 (try dsimp only at H); have A2 := Gv.a0 A20; clear A20
 by_cases c3 : t2 = true
 ·subst c3; rw [if_pos rfl] at H
  (try dsimp only at H); obtain rfl := Option.some.inj H
  go_enter Tryz.func24, Tryz.ntmps24
  try go_wp2_with (first | ((with_reducible refine gate_dst (N := 1) rfl ?_); refine Gv.bev 1 25 #[.int .i64 a0_0, .int .i64 a0_1, .int .i64 a0_2, .int .i64 a0_3, .int .i64 a0_4, .int .i64 a0_5] ?_; intro gb0 hg w4 hbox hb; have BK0 := Gv.a0 (hbox); have GW0 := Gv.a0 ((Gv.ble hg Gv.bw : w.heap.size ≤ gb0)); have GE0 := GW0; replace HB := Gv.hb hb; clear hb hbox hg))
  replace BK0 := Gv.a0 (blk_drew BK0.out); replace HB := Gv.a0 (below_drew1 HB.out); refine start_ (n := 31) (S := fun w' => w'.cell? ⟨gb0, 0, none⟩ = some (.int .i64 a0_0) ∧ w'.cell? ⟨gb0, 1, none⟩ = some (.int .i64 a0_1) ∧ w'.cell? ⟨gb0, 2, none⟩ = some (.int .i64 a0_2) ∧ w'.cell? ⟨gb0, 3, none⟩ = some (.int .i64 a0_3) ∧ w'.cell? ⟨gb0, 4, none⟩ = some (.int .i64 a0_4) ∧ w'.cell? ⟨gb0, 5, none⟩ = some (.int .i64 a0_5)) (ds := []) #[false, false, false, false, false, false, false, false, false, false, false, false, false, false, false, false, false, false, false, false, false, false, false, false, false, false, false, false, false, false, false] (by kernel_rfl) rfl rfl Gv.qs (fun hHeld => ?_); refine with_tabW spec_PrefixOk.tab1 spec_PrefixOk.bits1 (fun HT_ HW_ => ?_); generalize w4.drew = w5 at BK0 HB hHeld ⊢; refine take_ (i := 0) (N := some 3) (v := ?_) (a' := ?_) #[true, false, false, false, false, false, false, false, false, false, false, false, false, false, false, false, false, false, false, false, false, false, false, false, false, false, false, false, false, false, false] rfl rfl (take_ofW HT_.out HW_.out (by kernel_rfl)) (fun _ _ _ h => h) (Or.inl ⟨by rfl, ?_⟩) hHeld ?_ ?_; rotate_left
  ·rintro w' ⟨s0, s1, s2, s3, s4, s5⟩
   go_simp
   with_reducible rfl
  rotate_left
  ·simp only [Act.put, List.setIfInBounds_toArray, List.set_cons_zero, List.set_cons_succ, i64_w, i32_w]
   rfl
  refine one_ (i := 1) (N := some 4) #[true, true, false, false, false, false, false, false, false, false, false, false, false, false, false, false, false, false, false, false, false, false, false, false, false, false, false, false, false, false, false] rfl rfl (one_of HT_.out (by kernel_rfl)) (by decide) (fun K hK => ?_); refine goes_ Tryz.func41 (by kernel_rfl) rfl #[.agg #[.int .i64 a0_0, .int .i64 a0_1, .int .i64 a0_2, .int .i64 a0_3, .int .i64 a0_4, .int .i64 a0_5]] (by rfl) rfl rfl Gv.lm ?_
  with_reducible refine (spec_l03Any.calls a0_0 a0_1 a0_2 a0_3 a0_4 a0_5 true _ A2.out).mono ?_
  rintro e w6 ⟨rfl, hb⟩; refine ⟨_, rfl, ?_⟩; replace BK0 := Gv.b1 BK0 hb; replace HB := Gv.hb hb
  (try clear hb)
  (try clear hb2)
  (try clear hk)
  (try clear hi); refine hK.out _ _ Gv.qs (fun hHeld => ?_); clear hK K; refine norm_ (a' := ?_) ?_ ?_; rotate_left
  ·show Act.put _ (some 4) _ = _
   simp only [Act.put, List.setIfInBounds_toArray, List.set_cons_zero, List.set_cons_succ, i64_w, i32_w]
   rfl
  refine Gv.pu 2 (some 5) HT_ ?_; refine Gv.pn 3 (some 6) HT_ ?_; refine Gv.pn 4 (some 7) HT_ ?_; refine Gv.pn 5 (some 8) HT_ ?_; refine Gv.pn 6 (some 9) HT_ ?_; refine Gv.pn 7 (some 10) HT_ ?_; refine Gv.pn 8 (some 11) HT_ ?_; refine Gv.pn 9 (some 12) HT_ ?_; refine Gv.pn 10 (some 13) HT_ ?_; refine Gv.pn 11 (some 14) HT_ ?_; refine Gv.pn 12 (some 15) HT_ ?_; refine Gv.pn 13 (some 16) HT_ ?_; refine Gv.pn 14 (some 17) HT_ ?_; refine Gv.pn 15 (some 18) HT_ ?_; refine Gv.pn 16 (some 19) HT_ ?_; refine Gv.pn 17 (some 20) HT_ ?_; refine Gv.pn 18 (some 21) HT_ ?_; refine Gv.pn 19 (some 22) HT_ ?_; refine Gv.pn 20 (some 23) HT_ ?_; refine Gv.pn 21 (some 24) HT_ ?_; refine Gv.pn 22 (some 25) HT_ ?_; refine Gv.pn 23 (some 26) HT_ ?_; refine Gv.pn 24 (some 27) HT_ ?_; refine Gv.pn 25 (some 28) HT_ ?_; refine Gv.pn 26 (some 29) HT_ ?_; refine Gv.pn 27 (some 30) HT_ ?_; refine Gv.pn 28 (some 31) HT_ ?_; refine Gv.pu 29 (some 32) HT_ ?_; refine Gv.pu 30 (some 2) HT_ ?_; refine done_ (done_of HT_.out (by kernel_rfl)) ?_
  try go_wp2
  go_ret
  exact ⟨Gv.rt, Gv.bw⟩
 ·replace c3 := Bool.eq_false_iff.mpr c3; subst c3; rw [if_neg (show ¬ (false = true) by decide)] at H
  (try dsimp only at H); replace H := Option.bind_eq_some_iff.mp H; obtain ⟨t5, A70, H⟩ := H
  (try dsimp only at H); have A7 := Gv.a0 A70; clear A70
  by_cases c8 : t5 = true
  ·subst c8; rw [if_pos rfl] at H
   (try dsimp only at H)
   by_cases c9 : a0_5 ≥ 0
   ·rw [if_pos c9] at H; have c9b0 : decide (0 ≤ a0_5) = true := decide_eq_true c9; clear c9; replace H := Option.bind_eq_some_iff.mp H; obtain ⟨t1, A3, H⟩ := H
    (try dsimp only at H); have A10 := Gv.a0 A3; clear A3
    by_cases c11 : a0_5 ≤ t1
    ·rw [if_pos c11] at H; have c11b0 := decide_eq_true c11; clear c11; replace H := Option.bind_eq_some_iff.mp H; obtain ⟨⟨t6, t7, t8, t9, t10⟩, A4, H⟩ := H
     (try dsimp only at H); have A12 := Gv.a0 A4; clear A4; obtain rfl := Option.some.inj H
     go_enter Tryz.func24, Tryz.ntmps24
     try go_wp2_with (first | ((with_reducible refine gate_dst (N := 1) rfl ?_); refine Gv.bev 1 25 #[.int .i64 a0_0, .int .i64 a0_1, .int .i64 a0_2, .int .i64 a0_3, .int .i64 a0_4, .int .i64 a0_5] ?_; intro gb0 hg w13 hbox hb; have BK0 := Gv.a0 (hbox); have GW0 := Gv.a0 ((Gv.ble hg Gv.bw : w.heap.size ≤ gb0)); have GE0 := GW0; replace HB := Gv.hb hb; clear hb hbox hg))
     replace BK0 := Gv.a0 (blk_drew BK0.out); replace HB := Gv.a0 (below_drew1 HB.out); refine start_ (n := 31) (S := fun w' => w'.cell? ⟨gb0, 0, none⟩ = some (.int .i64 a0_0) ∧ w'.cell? ⟨gb0, 1, none⟩ = some (.int .i64 a0_1) ∧ w'.cell? ⟨gb0, 2, none⟩ = some (.int .i64 a0_2) ∧ w'.cell? ⟨gb0, 3, none⟩ = some (.int .i64 a0_3) ∧ w'.cell? ⟨gb0, 4, none⟩ = some (.int .i64 a0_4) ∧ w'.cell? ⟨gb0, 5, none⟩ = some (.int .i64 a0_5)) (ds := []) #[false, false, false, false, false, false, false, false, false, false, false, false, false, false, false, false, false, false, false, false, false, false, false, false, false, false, false, false, false, false, false] (by kernel_rfl) rfl rfl Gv.qs (fun hHeld => ?_); refine with_tabW spec_PrefixOk.tab1 spec_PrefixOk.bits1 (fun HT_ HW_ => ?_); generalize w13.drew = w14 at BK0 HB hHeld ⊢; refine take_ (i := 0) (N := some 3) (v := ?_) (a' := ?_) #[true, false, false, false, false, false, false, false, false, false, false, false, false, false, false, false, false, false, false, false, false, false, false, false, false, false, false, false, false, false, false] rfl rfl (take_ofW HT_.out HW_.out (by kernel_rfl)) (fun _ _ _ h => h) (Or.inl ⟨by rfl, ?_⟩) hHeld ?_ ?_; rotate_left
     ·rintro w' ⟨s0, s1, s2, s3, s4, s5⟩
      go_simp
      with_reducible rfl
     rotate_left
     ·simp only [Act.put, List.setIfInBounds_toArray, List.set_cons_zero, List.set_cons_succ, i64_w, i32_w]
      rfl
     refine one_ (i := 1) (N := some 4) #[true, true, false, false, false, false, false, false, false, false, false, false, false, false, false, false, false, false, false, false, false, false, false, false, false, false, false, false, false, false, false] rfl rfl (one_of HT_.out (by kernel_rfl)) (by decide) (fun K hK => ?_); refine goes_ Tryz.func41 (by kernel_rfl) rfl #[.agg #[.int .i64 a0_0, .int .i64 a0_1, .int .i64 a0_2, .int .i64 a0_3, .int .i64 a0_4, .int .i64 a0_5]] (by rfl) rfl rfl Gv.lm ?_
     with_reducible refine (spec_l03Any.calls a0_0 a0_1 a0_2 a0_3 a0_4 a0_5 false _ A2.out).mono ?_
     rintro e w15 ⟨rfl, hb⟩; refine ⟨_, rfl, ?_⟩; replace BK0 := Gv.b1 BK0 hb; replace HB := Gv.hb hb
     (try clear hb)
     (try clear hb2)
     (try clear hk)
     (try clear hi); refine hK.out _ _ Gv.qs (fun hHeld => ?_); clear hK K; refine norm_ (a' := ?_) ?_ ?_; rotate_left
     ·show Act.put _ (some 4) _ = _
      simp only [Act.put, List.setIfInBounds_toArray, List.set_cons_zero, List.set_cons_succ, i64_w, i32_w]
      rfl
     refine Gv.pu 2 (some 5) HT_ ?_; refine Gv.pu 3 (some 6) HT_ ?_; refine take_ (i := 4) (N := some 7) (v := ?_) (a' := ?_) #[true, true, true, true, true, false, false, false, false, false, false, false, false, false, false, false, false, false, false, false, false, false, false, false, false, false, false, false, false, false, false] rfl rfl (take_ofW HT_.out HW_.out (by kernel_rfl)) (fun _ _ _ h => h) (Or.inl ⟨by rfl, ?_⟩) hHeld ?_ ?_; rotate_left
     ·rintro w' ⟨s0, s1, s2, s3, s4, s5⟩
      go_simp
      with_reducible rfl
     rotate_left
     ·simp only [Act.put, List.setIfInBounds_toArray, List.set_cons_zero, List.set_cons_succ, i64_w, i32_w]
      rfl
     refine one_ (i := 5) (N := some 8) #[true, true, true, true, true, true, false, false, false, false, false, false, false, false, false, false, false, false, false, false, false, false, false, false, false, false, false, false, false, false, false] rfl rfl (one_of HT_.out (by kernel_rfl)) (by decide) (fun K hK => ?_); refine goes_ Tryz.func42 (by kernel_rfl) rfl #[.agg #[.int .i64 a0_0, .int .i64 a0_1, .int .i64 a0_2, .int .i64 a0_3, .int .i64 a0_4]] (by rfl) rfl rfl Gv.lm ?_
     with_reducible refine (spec_AddrOk.calls a0_0 a0_1 a0_2 a0_3 a0_4 true _ A7.out).mono ?_
     rintro e w16 ⟨rfl, hb⟩; refine ⟨_, rfl, ?_⟩; replace BK0 := Gv.b1 BK0 hb; replace HB := Gv.hb hb
     (try clear hb)
     (try clear hb2)
     (try clear hk)
     (try clear hi); refine hK.out _ _ Gv.qs (fun hHeld => ?_); clear hK K; refine norm_ (a' := ?_) ?_ ?_; rotate_left
     ·show Act.put _ (some 8) _ = _
      simp only [Act.put, List.setIfInBounds_toArray, List.set_cons_zero, List.set_cons_succ, i64_w, i32_w]
      rfl
     refine Gv.pu 6 (some 9) HT_ ?_; refine Gv.pu 7 (some 10) HT_ ?_; refine take_ (i := 8) (N := some 11) (v := ?_) (a' := ?_) #[true, true, true, true, true, true, true, true, true, false, false, false, false, false, false, false, false, false, false, false, false, false, false, false, false, false, false, false, false, false, false] rfl rfl (take_ofW HT_.out HW_.out (by kernel_rfl)) (fun _ _ _ h => h) (Or.inl ⟨by rfl, ?_⟩) hHeld ?_ ?_; rotate_left
     ·rintro w' ⟨s0, s1, s2, s3, s4, s5⟩
      go_simp
      with_reducible rfl
     rotate_left
     ·simp only [Act.put, List.setIfInBounds_toArray, List.set_cons_zero, List.set_cons_succ, i64_w, i32_w]
      rfl
     refine Gv.pu 9 (some 12) HT_ ?_; refine Gv.pu 10 (some 13) HT_ ?_; refine Gv.pu 11 (some 14) HT_ ?_; refine Gv.pu 12 (some 15) HT_ ?_; refine Gv.pu 14 (some 17) HT_ ?_; refine take_ (i := 13) (N := some 16) (v := ?_) (a' := ?_) #[true, true, true, true, true, true, true, true, true, true, true, true, true, true, true, false, false, false, false, false, false, false, false, false, false, false, false, false, false, false, false] rfl rfl (take_ofW HT_.out HW_.out (by kernel_rfl)) (fun _ _ _ h => h) (Or.inl ⟨by rfl, ?_⟩) hHeld ?_ ?_; rotate_left
     ·rintro w' ⟨s0, s1, s2, s3, s4, s5⟩
      go_simp
      with_reducible rfl
     rotate_left
     ·simp only [Act.put, List.setIfInBounds_toArray, List.set_cons_zero, List.set_cons_succ, i64_w, i32_w]
      rfl
     refine take_ (i := 15) (N := some 18) (v := ?_) (a' := ?_) #[true, true, true, true, true, true, true, true, true, true, true, true, true, true, true, true, false, false, false, false, false, false, false, false, false, false, false, false, false, false, false] rfl rfl (take_ofW HT_.out HW_.out (by kernel_rfl)) (fun _ _ _ h => h) (Or.inl ⟨by rfl, ?_⟩) hHeld ?_ ?_; rotate_left
     ·rintro w' ⟨s0, s1, s2, s3, s4, s5⟩
      go_simp
      with_reducible rfl
     rotate_left
     ·simp only [Act.put, List.setIfInBounds_toArray, List.set_cons_zero, List.set_cons_succ, i64_w, i32_w]
      rfl
     refine one_ (i := 16) (N := some 19) #[true, true, true, true, true, true, true, true, true, true, true, true, true, true, true, true, true, false, false, false, false, false, false, false, false, false, false, false, false, false, false] rfl rfl (one_of HT_.out (by kernel_rfl)) (by decide) (fun K hK => ?_); refine goes_ Tryz.func43 (by kernel_rfl) rfl #[.agg #[.int .i64 a0_0, .int .i64 a0_1, .int .i64 a0_2, .int .i64 a0_3, .int .i64 a0_4]] (by rfl) rfl rfl Gv.lm ?_
     with_reducible refine (spec_l03Bits.calls a0_0 a0_1 a0_2 a0_3 a0_4 t1 _ A10.out).mono ?_
     rintro e w17 ⟨rfl, hb⟩; refine ⟨_, rfl, ?_⟩; replace BK0 := Gv.b1 BK0 hb; replace HB := Gv.hb hb
     (try clear hb)
     (try clear hb2)
     (try clear hk)
     (try clear hi); refine hK.out _ _ Gv.qs (fun hHeld => ?_); clear hK K; refine norm_ (a' := ?_) ?_ ?_; rotate_left
     ·show Act.put _ (some 19) _ = _
      simp only [Act.put, List.setIfInBounds_toArray, List.set_cons_zero, List.set_cons_succ, i64_w, i32_w]
      rfl
     refine Gv.pu 17 (some 20) HT_ ?_; refine Gv.pu 18 (some 21) HT_ ?_; refine Gv.pu 19 (some 22) HT_ ?_; refine Gv.pu 20 (some 23) HT_ ?_; refine Gv.pu 22 (some 25) HT_ ?_; refine Gv.pu 25 (some 28) HT_ ?_; refine take_ (i := 21) (N := some 24) (v := ?_) (a' := ?_) #[true, true, true, true, true, true, true, true, true, true, true, true, true, true, true, true, true, true, true, true, true, true, true, false, false, true, false, false, false, false, false] rfl rfl (take_ofW HT_.out HW_.out (by kernel_rfl)) (fun _ _ _ h => h) (Or.inl ⟨by rfl, ?_⟩) hHeld ?_ ?_; rotate_left
     ·rintro w' ⟨s0, s1, s2, s3, s4, s5⟩
      go_simp
      with_reducible rfl
     rotate_left
     ·simp only [Act.put, List.setIfInBounds_toArray, List.set_cons_zero, List.set_cons_succ, i64_w, i32_w]
      rfl
     refine take_ (i := 23) (N := some 26) (v := ?_) (a' := ?_) #[true, true, true, true, true, true, true, true, true, true, true, true, true, true, true, true, true, true, true, true, true, true, true, true, false, true, false, false, false, false, false] rfl rfl (take_ofW HT_.out HW_.out (by kernel_rfl)) (fun _ _ _ h => h) (Or.inl ⟨by rfl, ?_⟩) hHeld ?_ ?_; rotate_left
     ·rintro w' ⟨s0, s1, s2, s3, s4, s5⟩
      go_simp
      with_reducible rfl
     rotate_left
     ·simp only [Act.put, List.setIfInBounds_toArray, List.set_cons_zero, List.set_cons_succ, i64_w, i32_w]
      rfl
     refine take_ (i := 26) (N := some 29) (v := ?_) (a' := ?_) #[true, true, true, true, true, true, true, true, true, true, true, true, true, true, true, true, true, true, true, true, true, true, true, true, false, true, true, false, false, false, false] rfl rfl (take_ofW HT_.out HW_.out (by kernel_rfl)) (fun _ _ _ h => h) (Or.inl ⟨by rfl, ?_⟩) hHeld ?_ ?_; rotate_left
     ·rintro w' ⟨s0, s1, s2, s3, s4, s5⟩
      go_simp
      with_reducible rfl
     rotate_left
     ·simp only [Act.put, List.setIfInBounds_toArray, List.set_cons_zero, List.set_cons_succ, i64_w, i32_w]
      rfl
     refine one_ (i := 24) (N := some 27) #[true, true, true, true, true, true, true, true, true, true, true, true, true, true, true, true, true, true, true, true, true, true, true, true, true, true, true, false, false, false, false] rfl rfl (one_of HT_.out (by kernel_rfl)) (by decide) (fun K hK => ?_); refine goes_ Tryz.func44 (by kernel_rfl) rfl #[.agg #[.int .i64 a0_0, .int .i64 a0_1, .int .i64 a0_2, .int .i64 a0_3, .int .i64 a0_4], .int .i64 a0_5] (by rfl) rfl rfl Gv.lm ?_
     with_reducible refine (spec_Cut.calls k a0_0 a0_1 a0_2 a0_3 a0_4 a0_5 t6 t7 t8 t9 t10 _ A12.out).mono ?_
     rintro e w18 ⟨rfl, hb⟩; refine ⟨_, rfl, ?_⟩; replace BK0 := Gv.b1 BK0 hb; replace HB := Gv.hb hb
     (try clear hb)
     (try clear hb2)
     (try clear hk)
     (try clear hi); refine hK.out _ _ Gv.qs (fun hHeld => ?_); clear hK K; refine norm_ (a' := ?_) ?_ ?_; rotate_left
     ·show Act.put _ (some 27) _ = _
      simp only [Act.put, List.setIfInBounds_toArray, List.set_cons_zero, List.set_cons_succ, i64_w, i32_w]
      rfl
     refine Gv.pu 27 (some 30) HT_ ?_; refine Gv.pu 28 (some 31) HT_ ?_; refine Gv.pu 29 (some 32) HT_ ?_; refine Gv.pu 30 (some 2) HT_ ?_; refine done_ (done_of HT_.out (by kernel_rfl)) ?_
     try go_wp2
     go_ret
     exact ⟨Gv.rt, Gv.bw⟩
    ·rw [if_neg c11] at H; have c11b0 := decide_eq_false c11; clear c11; obtain rfl := Option.some.inj H
     go_enter Tryz.func24, Tryz.ntmps24
     try go_wp2_with (first | ((with_reducible refine gate_dst (N := 1) rfl ?_); refine Gv.bev 1 25 #[.int .i64 a0_0, .int .i64 a0_1, .int .i64 a0_2, .int .i64 a0_3, .int .i64 a0_4, .int .i64 a0_5] ?_; intro gb0 hg w19 hbox hb; have BK0 := Gv.a0 (hbox); have GW0 := Gv.a0 ((Gv.ble hg Gv.bw : w.heap.size ≤ gb0)); have GE0 := GW0; replace HB := Gv.hb hb; clear hb hbox hg))
     replace BK0 := Gv.a0 (blk_drew BK0.out); replace HB := Gv.a0 (below_drew1 HB.out); refine start_ (n := 31) (S := fun w' => w'.cell? ⟨gb0, 0, none⟩ = some (.int .i64 a0_0) ∧ w'.cell? ⟨gb0, 1, none⟩ = some (.int .i64 a0_1) ∧ w'.cell? ⟨gb0, 2, none⟩ = some (.int .i64 a0_2) ∧ w'.cell? ⟨gb0, 3, none⟩ = some (.int .i64 a0_3) ∧ w'.cell? ⟨gb0, 4, none⟩ = some (.int .i64 a0_4) ∧ w'.cell? ⟨gb0, 5, none⟩ = some (.int .i64 a0_5)) (ds := []) #[false, false, false, false, false, false, false, false, false, false, false, false, false, false, false, false, false, false, false, false, false, false, false, false, false, false, false, false, false, false, false] (by kernel_rfl) rfl rfl Gv.qs (fun hHeld => ?_); refine with_tabW spec_PrefixOk.tab1 spec_PrefixOk.bits1 (fun HT_ HW_ => ?_); generalize w19.drew = w20 at BK0 HB hHeld ⊢; refine take_ (i := 0) (N := some 3) (v := ?_) (a' := ?_) #[true, false, false, false, false, false, false, false, false, false, false, false, false, false, false, false, false, false, false, false, false, false, false, false, false, false, false, false, false, false, false] rfl rfl (take_ofW HT_.out HW_.out (by kernel_rfl)) (fun _ _ _ h => h) (Or.inl ⟨by rfl, ?_⟩) hHeld ?_ ?_; rotate_left
     ·rintro w' ⟨s0, s1, s2, s3, s4, s5⟩
      go_simp
      with_reducible rfl
     rotate_left
     ·simp only [Act.put, List.setIfInBounds_toArray, List.set_cons_zero, List.set_cons_succ, i64_w, i32_w]
      rfl
     refine one_ (i := 1) (N := some 4) #[true, true, false, false, false, false, false, false, false, false, false, false, false, false, false, false, false, false, false, false, false, false, false, false, false, false, false, false, false, false, false] rfl rfl (one_of HT_.out (by kernel_rfl)) (by decide) (fun K hK => ?_); refine goes_ Tryz.func41 (by kernel_rfl) rfl #[.agg #[.int .i64 a0_0, .int .i64 a0_1, .int .i64 a0_2, .int .i64 a0_3, .int .i64 a0_4, .int .i64 a0_5]] (by rfl) rfl rfl Gv.lm ?_
     with_reducible refine (spec_l03Any.calls a0_0 a0_1 a0_2 a0_3 a0_4 a0_5 false _ A2.out).mono ?_
     rintro e w21 ⟨rfl, hb⟩; refine ⟨_, rfl, ?_⟩; replace BK0 := Gv.b1 BK0 hb; replace HB := Gv.hb hb
     (try clear hb)
     (try clear hb2)
     (try clear hk)
     (try clear hi); refine hK.out _ _ Gv.qs (fun hHeld => ?_); clear hK K; refine norm_ (a' := ?_) ?_ ?_; rotate_left
     ·show Act.put _ (some 4) _ = _
      simp only [Act.put, List.setIfInBounds_toArray, List.set_cons_zero, List.set_cons_succ, i64_w, i32_w]
      rfl
     refine Gv.pu 2 (some 5) HT_ ?_; refine Gv.pu 3 (some 6) HT_ ?_; refine take_ (i := 4) (N := some 7) (v := ?_) (a' := ?_) #[true, true, true, true, true, false, false, false, false, false, false, false, false, false, false, false, false, false, false, false, false, false, false, false, false, false, false, false, false, false, false] rfl rfl (take_ofW HT_.out HW_.out (by kernel_rfl)) (fun _ _ _ h => h) (Or.inl ⟨by rfl, ?_⟩) hHeld ?_ ?_; rotate_left
     ·rintro w' ⟨s0, s1, s2, s3, s4, s5⟩
      go_simp
      with_reducible rfl
     rotate_left
     ·simp only [Act.put, List.setIfInBounds_toArray, List.set_cons_zero, List.set_cons_succ, i64_w, i32_w]
      rfl
     refine one_ (i := 5) (N := some 8) #[true, true, true, true, true, true, false, false, false, false, false, false, false, false, false, false, false, false, false, false, false, false, false, false, false, false, false, false, false, false, false] rfl rfl (one_of HT_.out (by kernel_rfl)) (by decide) (fun K hK => ?_); refine goes_ Tryz.func42 (by kernel_rfl) rfl #[.agg #[.int .i64 a0_0, .int .i64 a0_1, .int .i64 a0_2, .int .i64 a0_3, .int .i64 a0_4]] (by rfl) rfl rfl Gv.lm ?_
     with_reducible refine (spec_AddrOk.calls a0_0 a0_1 a0_2 a0_3 a0_4 true _ A7.out).mono ?_
     rintro e w22 ⟨rfl, hb⟩; refine ⟨_, rfl, ?_⟩; replace BK0 := Gv.b1 BK0 hb; replace HB := Gv.hb hb
     (try clear hb)
     (try clear hb2)
     (try clear hk)
     (try clear hi); refine hK.out _ _ Gv.qs (fun hHeld => ?_); clear hK K; refine norm_ (a' := ?_) ?_ ?_; rotate_left
     ·show Act.put _ (some 8) _ = _
      simp only [Act.put, List.setIfInBounds_toArray, List.set_cons_zero, List.set_cons_succ, i64_w, i32_w]
      rfl
     refine Gv.pu 6 (some 9) HT_ ?_; refine Gv.pu 7 (some 10) HT_ ?_; refine take_ (i := 8) (N := some 11) (v := ?_) (a' := ?_) #[true, true, true, true, true, true, true, true, true, false, false, false, false, false, false, false, false, false, false, false, false, false, false, false, false, false, false, false, false, false, false] rfl rfl (take_ofW HT_.out HW_.out (by kernel_rfl)) (fun _ _ _ h => h) (Or.inl ⟨by rfl, ?_⟩) hHeld ?_ ?_; rotate_left
     ·rintro w' ⟨s0, s1, s2, s3, s4, s5⟩
      go_simp
      with_reducible rfl
     rotate_left
     ·simp only [Act.put, List.setIfInBounds_toArray, List.set_cons_zero, List.set_cons_succ, i64_w, i32_w]
      rfl
     refine Gv.pu 9 (some 12) HT_ ?_; refine Gv.pu 10 (some 13) HT_ ?_; refine Gv.pu 11 (some 14) HT_ ?_; refine Gv.pu 12 (some 15) HT_ ?_; refine Gv.pu 14 (some 17) HT_ ?_; refine take_ (i := 13) (N := some 16) (v := ?_) (a' := ?_) #[true, true, true, true, true, true, true, true, true, true, true, true, true, true, true, false, false, false, false, false, false, false, false, false, false, false, false, false, false, false, false] rfl rfl (take_ofW HT_.out HW_.out (by kernel_rfl)) (fun _ _ _ h => h) (Or.inl ⟨by rfl, ?_⟩) hHeld ?_ ?_; rotate_left
     ·rintro w' ⟨s0, s1, s2, s3, s4, s5⟩
      go_simp
      with_reducible rfl
     rotate_left
     ·simp only [Act.put, List.setIfInBounds_toArray, List.set_cons_zero, List.set_cons_succ, i64_w, i32_w]
      rfl
     refine take_ (i := 15) (N := some 18) (v := ?_) (a' := ?_) #[true, true, true, true, true, true, true, true, true, true, true, true, true, true, true, true, false, false, false, false, false, false, false, false, false, false, false, false, false, false, false] rfl rfl (take_ofW HT_.out HW_.out (by kernel_rfl)) (fun _ _ _ h => h) (Or.inl ⟨by rfl, ?_⟩) hHeld ?_ ?_; rotate_left
     ·rintro w' ⟨s0, s1, s2, s3, s4, s5⟩
      go_simp
      with_reducible rfl
     rotate_left
     ·simp only [Act.put, List.setIfInBounds_toArray, List.set_cons_zero, List.set_cons_succ, i64_w, i32_w]
      rfl
     refine one_ (i := 16) (N := some 19) #[true, true, true, true, true, true, true, true, true, true, true, true, true, true, true, true, true, false, false, false, false, false, false, false, false, false, false, false, false, false, false] rfl rfl (one_of HT_.out (by kernel_rfl)) (by decide) (fun K hK => ?_); refine goes_ Tryz.func43 (by kernel_rfl) rfl #[.agg #[.int .i64 a0_0, .int .i64 a0_1, .int .i64 a0_2, .int .i64 a0_3, .int .i64 a0_4]] (by rfl) rfl rfl Gv.lm ?_
     with_reducible refine (spec_l03Bits.calls a0_0 a0_1 a0_2 a0_3 a0_4 t1 _ A10.out).mono ?_
     rintro e w23 ⟨rfl, hb⟩; refine ⟨_, rfl, ?_⟩; replace BK0 := Gv.b1 BK0 hb; replace HB := Gv.hb hb
     (try clear hb)
     (try clear hb2)
     (try clear hk)
     (try clear hi); refine hK.out _ _ Gv.qs (fun hHeld => ?_); clear hK K; refine norm_ (a' := ?_) ?_ ?_; rotate_left
     ·show Act.put _ (some 19) _ = _
      simp only [Act.put, List.setIfInBounds_toArray, List.set_cons_zero, List.set_cons_succ, i64_w, i32_w]
      rfl
     refine Gv.pu 17 (some 20) HT_ ?_; refine Gv.pu 18 (some 21) HT_ ?_; refine Gv.pu 19 (some 22) HT_ ?_; refine Gv.pn 20 (some 23) HT_ ?_; refine Gv.pn 21 (some 24) HT_ ?_; refine Gv.pn 22 (some 25) HT_ ?_; refine Gv.pn 23 (some 26) HT_ ?_; refine Gv.pn 24 (some 27) HT_ ?_; refine Gv.pn 25 (some 28) HT_ ?_; refine Gv.pn 26 (some 29) HT_ ?_; refine Gv.pn 27 (some 30) HT_ ?_; refine Gv.pu 28 (some 31) HT_ ?_; refine Gv.pu 29 (some 32) HT_ ?_; refine Gv.pu 30 (some 2) HT_ ?_; refine done_ (done_of HT_.out (by kernel_rfl)) ?_
     try go_wp2
     go_ret
     exact ⟨Gv.rt, Gv.bw⟩
   ·rw [if_neg c9] at H; have c9b0 : decide (0 ≤ a0_5) = false := decide_eq_false c9; clear c9; obtain rfl := Option.some.inj H
    go_enter Tryz.func24, Tryz.ntmps24
    try go_wp2_with (first | ((with_reducible refine gate_dst (N := 1) rfl ?_); refine Gv.bev 1 25 #[.int .i64 a0_0, .int .i64 a0_1, .int .i64 a0_2, .int .i64 a0_3, .int .i64 a0_4, .int .i64 a0_5] ?_; intro gb0 hg w24 hbox hb; have BK0 := Gv.a0 (hbox); have GW0 := Gv.a0 ((Gv.ble hg Gv.bw : w.heap.size ≤ gb0)); have GE0 := GW0; replace HB := Gv.hb hb; clear hb hbox hg))
    replace BK0 := Gv.a0 (blk_drew BK0.out); replace HB := Gv.a0 (below_drew1 HB.out); refine start_ (n := 31) (S := fun w' => w'.cell? ⟨gb0, 0, none⟩ = some (.int .i64 a0_0) ∧ w'.cell? ⟨gb0, 1, none⟩ = some (.int .i64 a0_1) ∧ w'.cell? ⟨gb0, 2, none⟩ = some (.int .i64 a0_2) ∧ w'.cell? ⟨gb0, 3, none⟩ = some (.int .i64 a0_3) ∧ w'.cell? ⟨gb0, 4, none⟩ = some (.int .i64 a0_4) ∧ w'.cell? ⟨gb0, 5, none⟩ = some (.int .i64 a0_5)) (ds := []) #[false, false, false, false, false, false, false, false, false, false, false, false, false, false, false, false, false, false, false, false, false, false, false, false, false, false, false, false, false, false, false] (by kernel_rfl) rfl rfl Gv.qs (fun hHeld => ?_); refine with_tabW spec_PrefixOk.tab1 spec_PrefixOk.bits1 (fun HT_ HW_ => ?_); generalize w24.drew = w25 at BK0 HB hHeld ⊢; refine take_ (i := 0) (N := some 3) (v := ?_) (a' := ?_) #[true, false, false, false, false, false, false, false, false, false, false, false, false, false, false, false, false, false, false, false, false, false, false, false, false, false, false, false, false, false, false] rfl rfl (take_ofW HT_.out HW_.out (by kernel_rfl)) (fun _ _ _ h => h) (Or.inl ⟨by rfl, ?_⟩) hHeld ?_ ?_; rotate_left
    ·rintro w' ⟨s0, s1, s2, s3, s4, s5⟩
     go_simp
     with_reducible rfl
    rotate_left
    ·simp only [Act.put, List.setIfInBounds_toArray, List.set_cons_zero, List.set_cons_succ, i64_w, i32_w]
     rfl
    refine one_ (i := 1) (N := some 4) #[true, true, false, false, false, false, false, false, false, false, false, false, false, false, false, false, false, false, false, false, false, false, false, false, false, false, false, false, false, false, false] rfl rfl (one_of HT_.out (by kernel_rfl)) (by decide) (fun K hK => ?_); refine goes_ Tryz.func41 (by kernel_rfl) rfl #[.agg #[.int .i64 a0_0, .int .i64 a0_1, .int .i64 a0_2, .int .i64 a0_3, .int .i64 a0_4, .int .i64 a0_5]] (by rfl) rfl rfl Gv.lm ?_
    with_reducible refine (spec_l03Any.calls a0_0 a0_1 a0_2 a0_3 a0_4 a0_5 false _ A2.out).mono ?_
    rintro e w26 ⟨rfl, hb⟩; refine ⟨_, rfl, ?_⟩; replace BK0 := Gv.b1 BK0 hb; replace HB := Gv.hb hb
    (try clear hb)
    (try clear hb2)
    (try clear hk)
    (try clear hi); refine hK.out _ _ Gv.qs (fun hHeld => ?_); clear hK K; refine norm_ (a' := ?_) ?_ ?_; rotate_left
    ·show Act.put _ (some 4) _ = _
     simp only [Act.put, List.setIfInBounds_toArray, List.set_cons_zero, List.set_cons_succ, i64_w, i32_w]
     rfl
    refine Gv.pu 2 (some 5) HT_ ?_; refine Gv.pu 3 (some 6) HT_ ?_; refine take_ (i := 4) (N := some 7) (v := ?_) (a' := ?_) #[true, true, true, true, true, false, false, false, false, false, false, false, false, false, false, false, false, false, false, false, false, false, false, false, false, false, false, false, false, false, false] rfl rfl (take_ofW HT_.out HW_.out (by kernel_rfl)) (fun _ _ _ h => h) (Or.inl ⟨by rfl, ?_⟩) hHeld ?_ ?_; rotate_left
    ·rintro w' ⟨s0, s1, s2, s3, s4, s5⟩
     go_simp
     with_reducible rfl
    rotate_left
    ·simp only [Act.put, List.setIfInBounds_toArray, List.set_cons_zero, List.set_cons_succ, i64_w, i32_w]
     rfl
    refine one_ (i := 5) (N := some 8) #[true, true, true, true, true, true, false, false, false, false, false, false, false, false, false, false, false, false, false, false, false, false, false, false, false, false, false, false, false, false, false] rfl rfl (one_of HT_.out (by kernel_rfl)) (by decide) (fun K hK => ?_); refine goes_ Tryz.func42 (by kernel_rfl) rfl #[.agg #[.int .i64 a0_0, .int .i64 a0_1, .int .i64 a0_2, .int .i64 a0_3, .int .i64 a0_4]] (by rfl) rfl rfl Gv.lm ?_
    with_reducible refine (spec_AddrOk.calls a0_0 a0_1 a0_2 a0_3 a0_4 true _ A7.out).mono ?_
    rintro e w27 ⟨rfl, hb⟩; refine ⟨_, rfl, ?_⟩; replace BK0 := Gv.b1 BK0 hb; replace HB := Gv.hb hb
    (try clear hb)
    (try clear hb2)
    (try clear hk)
    (try clear hi); refine hK.out _ _ Gv.qs (fun hHeld => ?_); clear hK K; refine norm_ (a' := ?_) ?_ ?_; rotate_left
    ·show Act.put _ (some 8) _ = _
     simp only [Act.put, List.setIfInBounds_toArray, List.set_cons_zero, List.set_cons_succ, i64_w, i32_w]
     rfl
    refine Gv.pu 6 (some 9) HT_ ?_; refine Gv.pu 7 (some 10) HT_ ?_; refine take_ (i := 8) (N := some 11) (v := ?_) (a' := ?_) #[true, true, true, true, true, true, true, true, true, false, false, false, false, false, false, false, false, false, false, false, false, false, false, false, false, false, false, false, false, false, false] rfl rfl (take_ofW HT_.out HW_.out (by kernel_rfl)) (fun _ _ _ h => h) (Or.inl ⟨by rfl, ?_⟩) hHeld ?_ ?_; rotate_left
    ·rintro w' ⟨s0, s1, s2, s3, s4, s5⟩
     go_simp
     with_reducible rfl
    rotate_left
    ·simp only [Act.put, List.setIfInBounds_toArray, List.set_cons_zero, List.set_cons_succ, i64_w, i32_w]
     rfl
    refine Gv.pu 9 (some 12) HT_ ?_; refine Gv.pu 10 (some 13) HT_ ?_; refine Gv.pu 11 (some 14) HT_ ?_; refine Gv.pn 12 (some 15) HT_ ?_; refine Gv.pn 13 (some 16) HT_ ?_; refine Gv.pn 14 (some 17) HT_ ?_; refine Gv.pn 15 (some 18) HT_ ?_; refine Gv.pn 16 (some 19) HT_ ?_; refine Gv.pn 17 (some 20) HT_ ?_; refine Gv.pu 18 (some 21) HT_ ?_; refine Gv.pu 19 (some 22) HT_ ?_; refine Gv.pn 20 (some 23) HT_ ?_; refine Gv.pn 21 (some 24) HT_ ?_; refine Gv.pn 22 (some 25) HT_ ?_; refine Gv.pn 23 (some 26) HT_ ?_; refine Gv.pn 24 (some 27) HT_ ?_; refine Gv.pn 25 (some 28) HT_ ?_; refine Gv.pn 26 (some 29) HT_ ?_; refine Gv.pn 27 (some 30) HT_ ?_; refine Gv.pu 28 (some 31) HT_ ?_; refine Gv.pu 29 (some 32) HT_ ?_; refine Gv.pu 30 (some 2) HT_ ?_; refine done_ (done_of HT_.out (by kernel_rfl)) ?_
    try go_wp2
    go_ret
    exact ⟨Gv.rt, Gv.bw⟩
  ·replace c8 := Bool.eq_false_iff.mpr c8; subst c8; rw [if_neg (show ¬ (false = true) by decide)] at H
   (try dsimp only at H); obtain rfl := Option.some.inj H
   go_enter Tryz.func24, Tryz.ntmps24
   try go_wp2_with (first | ((with_reducible refine gate_dst (N := 1) rfl ?_); refine Gv.bev 1 25 #[.int .i64 a0_0, .int .i64 a0_1, .int .i64 a0_2, .int .i64 a0_3, .int .i64 a0_4, .int .i64 a0_5] ?_; intro gb0 hg w28 hbox hb; have BK0 := Gv.a0 (hbox); have GW0 := Gv.a0 ((Gv.ble hg Gv.bw : w.heap.size ≤ gb0)); have GE0 := GW0; replace HB := Gv.hb hb; clear hb hbox hg))
   replace BK0 := Gv.a0 (blk_drew BK0.out); replace HB := Gv.a0 (below_drew1 HB.out); refine start_ (n := 31) (S := fun w' => w'.cell? ⟨gb0, 0, none⟩ = some (.int .i64 a0_0) ∧ w'.cell? ⟨gb0, 1, none⟩ = some (.int .i64 a0_1) ∧ w'.cell? ⟨gb0, 2, none⟩ = some (.int .i64 a0_2) ∧ w'.cell? ⟨gb0, 3, none⟩ = some (.int .i64 a0_3) ∧ w'.cell? ⟨gb0, 4, none⟩ = some (.int .i64 a0_4) ∧ w'.cell? ⟨gb0, 5, none⟩ = some (.int .i64 a0_5)) (ds := []) #[false, false, false, false, false, false, false, false, false, false, false, false, false, false, false, false, false, false, false, false, false, false, false, false, false, false, false, false, false, false, false] (by kernel_rfl) rfl rfl Gv.qs (fun hHeld => ?_); refine with_tabW spec_PrefixOk.tab1 spec_PrefixOk.bits1 (fun HT_ HW_ => ?_); generalize w28.drew = w29 at BK0 HB hHeld ⊢; refine take_ (i := 0) (N := some 3) (v := ?_) (a' := ?_) #[true, false, false, false, false, false, false, false, false, false, false, false, false, false, false, false, false, false, false, false, false, false, false, false, false, false, false, false, false, false, false] rfl rfl (take_ofW HT_.out HW_.out (by kernel_rfl)) (fun _ _ _ h => h) (Or.inl ⟨by rfl, ?_⟩) hHeld ?_ ?_; rotate_left
   ·rintro w' ⟨s0, s1, s2, s3, s4, s5⟩
    go_simp
    with_reducible rfl
   rotate_left
   ·simp only [Act.put, List.setIfInBounds_toArray, List.set_cons_zero, List.set_cons_succ, i64_w, i32_w]
    rfl
   refine one_ (i := 1) (N := some 4) #[true, true, false, false, false, false, false, false, false, false, false, false, false, false, false, false, false, false, false, false, false, false, false, false, false, false, false, false, false, false, false] rfl rfl (one_of HT_.out (by kernel_rfl)) (by decide) (fun K hK => ?_); refine goes_ Tryz.func41 (by kernel_rfl) rfl #[.agg #[.int .i64 a0_0, .int .i64 a0_1, .int .i64 a0_2, .int .i64 a0_3, .int .i64 a0_4, .int .i64 a0_5]] (by rfl) rfl rfl Gv.lm ?_
   with_reducible refine (spec_l03Any.calls a0_0 a0_1 a0_2 a0_3 a0_4 a0_5 false _ A2.out).mono ?_
   rintro e w30 ⟨rfl, hb⟩; refine ⟨_, rfl, ?_⟩; replace BK0 := Gv.b1 BK0 hb; replace HB := Gv.hb hb
   (try clear hb)
   (try clear hb2)
   (try clear hk)
   (try clear hi); refine hK.out _ _ Gv.qs (fun hHeld => ?_); clear hK K; refine norm_ (a' := ?_) ?_ ?_; rotate_left
   ·show Act.put _ (some 4) _ = _
    simp only [Act.put, List.setIfInBounds_toArray, List.set_cons_zero, List.set_cons_succ, i64_w, i32_w]
    rfl
   refine Gv.pu 2 (some 5) HT_ ?_; refine Gv.pu 3 (some 6) HT_ ?_; refine take_ (i := 4) (N := some 7) (v := ?_) (a' := ?_) #[true, true, true, true, true, false, false, false, false, false, false, false, false, false, false, false, false, false, false, false, false, false, false, false, false, false, false, false, false, false, false] rfl rfl (take_ofW HT_.out HW_.out (by kernel_rfl)) (fun _ _ _ h => h) (Or.inl ⟨by rfl, ?_⟩) hHeld ?_ ?_; rotate_left
   ·rintro w' ⟨s0, s1, s2, s3, s4, s5⟩
    go_simp
    with_reducible rfl
   rotate_left
   ·simp only [Act.put, List.setIfInBounds_toArray, List.set_cons_zero, List.set_cons_succ, i64_w, i32_w]
    rfl
   refine one_ (i := 5) (N := some 8) #[true, true, true, true, true, true, false, false, false, false, false, false, false, false, false, false, false, false, false, false, false, false, false, false, false, false, false, false, false, false, false] rfl rfl (one_of HT_.out (by kernel_rfl)) (by decide) (fun K hK => ?_); refine goes_ Tryz.func42 (by kernel_rfl) rfl #[.agg #[.int .i64 a0_0, .int .i64 a0_1, .int .i64 a0_2, .int .i64 a0_3, .int .i64 a0_4]] (by rfl) rfl rfl Gv.lm ?_
   with_reducible refine (spec_AddrOk.calls a0_0 a0_1 a0_2 a0_3 a0_4 false _ A7.out).mono ?_
   rintro e w31 ⟨rfl, hb⟩; refine ⟨_, rfl, ?_⟩; replace BK0 := Gv.b1 BK0 hb; replace HB := Gv.hb hb
   (try clear hb)
   (try clear hb2)
   (try clear hk)
   (try clear hi); refine hK.out _ _ Gv.qs (fun hHeld => ?_); clear hK K; refine norm_ (a' := ?_) ?_ ?_; rotate_left
   ·show Act.put _ (some 8) _ = _
    simp only [Act.put, List.setIfInBounds_toArray, List.set_cons_zero, List.set_cons_succ, i64_w, i32_w]
    rfl
   refine Gv.pu 6 (some 9) HT_ ?_; refine Gv.pn 7 (some 10) HT_ ?_; refine Gv.pn 8 (some 11) HT_ ?_; refine Gv.pn 9 (some 12) HT_ ?_; refine Gv.pu 10 (some 13) HT_ ?_; refine Gv.pu 11 (some 14) HT_ ?_; refine Gv.pn 12 (some 15) HT_ ?_; refine Gv.pn 13 (some 16) HT_ ?_; refine Gv.pn 14 (some 17) HT_ ?_; refine Gv.pn 15 (some 18) HT_ ?_; refine Gv.pn 16 (some 19) HT_ ?_; refine Gv.pn 17 (some 20) HT_ ?_; refine Gv.pu 18 (some 21) HT_ ?_; refine Gv.pu 19 (some 22) HT_ ?_; refine Gv.pn 20 (some 23) HT_ ?_; refine Gv.pn 21 (some 24) HT_ ?_; refine Gv.pn 22 (some 25) HT_ ?_; refine Gv.pn 23 (some 26) HT_ ?_; refine Gv.pn 24 (some 27) HT_ ?_; refine Gv.pn 25 (some 28) HT_ ?_; refine Gv.pn 26 (some 29) HT_ ?_; refine Gv.pn 27 (some 30) HT_ ?_; refine Gv.pu 28 (some 31) HT_ ?_; refine Gv.pu 29 (some 32) HT_ ?_; refine Gv.pu 30 (some 2) HT_ ?_; refine done_ (done_of HT_.out (by kernel_rfl)) ?_
   try go_wp2
   go_ret
   exact ⟨Gv.rt, Gv.bw⟩

/-! ### spec_PrefixRead: function 9 -/
def spec_PrefixRead.f (k : Nat) (a0 : ByteArray) : Option (Int × Int × Int × Int × Int × Int × Bool) := if a0.toList = ([97, 110, 121] : List UInt8) then (some (0, 0, 0, 0, 0, 0, true)) else (if (a0.size : Int) > 43 then (some (0, 0, 0, 0, 0, 0, false)) else ((spec_l03Group.f k a0 47).bind fun t274 => (if (t274.length : Int) = 2 then (if 0 < (t274.length : Int) then ((spec_AddrRead.f k (rdOf ByteArray.empty t274 0)).bind fun bt278 => (if 1 < (t274.length : Int) then ((spec_NumRead.f k (rdOf ByteArray.empty t274 1)).bind fun bt286 => (if bt278.2.2.2.2.2 = true then (if bt286.2 = true then ((spec_PrefixOk.f k bt278.1 bt278.2.1 bt278.2.2.1 bt278.2.2.2.1 bt278.2.2.2.2.1 bt286.1).bind fun t289 => (if t289 = true then (some (bt278.1, bt278.2.1, bt278.2.2.1, bt278.2.2.2.1, bt278.2.2.2.2.1, bt286.1, true)) else (some (0, 0, 0, 0, 0, 0, false)))) else (some (0, 0, 0, 0, 0, 0, false))) else (some (0, 0, 0, 0, 0, 0, false)))) else (none))) else (none)) else (some (0, 0, 0, 0, 0, 0, false)))))
set_option maxHeartbeats 8000000 in
set_option maxRecDepth 100000 in
theorem spec_PrefixRead.calls (k : Nat) (a0 : ByteArray) (r1 : Int) (r2 : Int) (r3 : Int) (r4 : Int) (r5 : Int) (r6 : Int) (r7 : Bool) (w : World) (h : spec_PrefixRead.f k a0 = some (r1, r2, r3, r4, r5, r6, r7)) :
  Calls Tryz.prog 9 #[.string a0] w fun e w' => e = .returned (.tuple #[.agg #[.int .i64 r1, .int .i64 r2, .int .i64 r3, .int .i64 r4, .int .i64 r5, .int .i64 r6], .bool r7]) ∧ Below w.heap.size w w' := by
 have hu25 := Tryz.underlying25; have hu23 := Tryz.underlying23; have HB := Gv.a0 (Below.refl w.heap.size w); unfold spec_PrefixRead.f at h; have H := h; clear h
 by_cases c2 : a0.toList = ([97, 110, 121] : List UInt8)
 ·rw [if_pos c2] at H; have c2b0 : (a0.toList == ([97, 110, 121] : List UInt8)) = true := beq_iff_eq.mpr c2; have c2b1 : (a0.toList != ([97, 110, 121] : List UInt8)) = false := bne_eq_false_iff_eq.mpr c2; clear c2; simp only [Option.some.injEq, Prod.mk.injEq] at H; obtain ⟨rfl, rfl, rfl, rfl, rfl, rfl, rfl⟩ := H
  go_enter Tryz.func9, Tryz.ntmps9
  go_wp2_with (first | ((with_reducible refine gate_dst (N := 2) rfl ?_); refine Gv.bev 2 25 #[.int .i64 0, .int .i64 0, .int .i64 0, .int .i64 0, .int .i64 0, .int .i64 0] ?_; intro gb1 hg w3 hbox hb; have BK1 := Gv.a0 (hbox); have GW1 := Gv.a0 ((Gv.ble hg Gv.bw : w.heap.size ≤ gb1)); have GE1 := GW1; replace HB := Gv.hb hb; clear hb hbox hg; obtain ⟨z4_0, z4_1, z4_2, z4_3, z4_4, z4_5⟩ := Gv.c6 BK1.out; obtain ⟨o4_0, o4_1, o4_2, o4_3, o4_4, o4_5⟩ := Gv.f6 BK1.out))
  refine bodyPost_ret (results_ct rfl _ _ gb1 25 #[.int .i64 0, .int .i64 0, .int .i64 0, .int .i64 0, .int .i64 0, .int .i64 0] (0, 0) _ rfl (by (with_reducible repeat (first | refine blk_drewN ?_ _ | refine blk_drew ?_ | refine blk_alloc ?_ _)); refine blk_put (cs := #[.int .i64 0, .int .i64 0, .int .i64 0, .int .i64 0, .int .i64 0, .int .i64 0]) ?_ 5 _ rfl; (with_reducible repeat (first | refine blk_drewN ?_ _ | refine blk_drew ?_ | refine blk_alloc ?_ _)); refine blk_put (cs := #[.int .i64 0, .int .i64 0, .int .i64 0, .int .i64 0, .int .i64 0, .int .i64 0]) ?_ 4 _ rfl; (with_reducible repeat (first | refine blk_drewN ?_ _ | refine blk_drew ?_ | refine blk_alloc ?_ _)); refine blk_put (cs := #[.int .i64 0, .int .i64 0, .int .i64 0, .int .i64 0, .int .i64 0, .int .i64 0]) ?_ 3 _ rfl; (with_reducible repeat (first | refine blk_drewN ?_ _ | refine blk_drew ?_ | refine blk_alloc ?_ _)); refine blk_put (cs := #[.int .i64 0, .int .i64 0, .int .i64 0, .int .i64 0, .int .i64 0, .int .i64 0]) ?_ 2 _ rfl; (with_reducible repeat (first | refine blk_drewN ?_ _ | refine blk_drew ?_ | refine blk_alloc ?_ _)); refine blk_put (cs := #[.int .i64 0, .int .i64 0, .int .i64 0, .int .i64 0, .int .i64 0, .int .i64 0]) ?_ 1 _ rfl; (with_reducible repeat (first | refine blk_drewN ?_ _ | refine blk_drew ?_ | refine blk_alloc ?_ _)); refine blk_put (cs := #[.int .i64 0, .int .i64 0, .int .i64 0, .int .i64 0, .int .i64 0, .int .i64 0]) ?_ 0 _ rfl; (with_reducible repeat (first | refine blk_drewN ?_ _ | refine blk_drew ?_ | refine blk_alloc ?_ _)); exact BK1.out) Tryz.underlying25 rfl (by kernel_rfl)) rfl ?_; exact ⟨Gv.rt, Gv.bw⟩
 ·rw [if_neg c2] at H; have c2b0 : (a0.toList == ([97, 110, 121] : List UInt8)) = false := beq_eq_false_iff_ne.mpr c2; have c2b1 : (a0.toList != ([97, 110, 121] : List UInt8)) = true := bne_iff_ne.mpr c2
  by_cases c5 : (a0.size : Int) > 43
  ·rw [if_pos c5] at H; have c5b0 : decide (43 < (a0.size : Int)) = true := decide_eq_true c5; have c5b1 : decide (43 < a0.size) = true := decide_eq_true (by omega); clear c5; simp only [Option.some.injEq, Prod.mk.injEq] at H; obtain ⟨rfl, rfl, rfl, rfl, rfl, rfl, rfl⟩ := H
   go_enter Tryz.func9, Tryz.ntmps9
   go_wp2_with (first | ((with_reducible refine gate_dst (N := 2) rfl ?_); refine Gv.bev 2 25 #[.int .i64 0, .int .i64 0, .int .i64 0, .int .i64 0, .int .i64 0, .int .i64 0] ?_; intro gb1 hg w6 hbox hb; have BK1 := Gv.a0 (hbox); have GW1 := Gv.a0 ((Gv.ble hg Gv.bw : w.heap.size ≤ gb1)); have GE1 := GW1; replace HB := Gv.hb hb; clear hb hbox hg; obtain ⟨z7_0, z7_1, z7_2, z7_3, z7_4, z7_5⟩ := Gv.c6 BK1.out; obtain ⟨o7_0, o7_1, o7_2, o7_3, o7_4, o7_5⟩ := Gv.f6 BK1.out))
   refine bodyPost_ret (results_ct rfl _ _ gb1 25 #[.int .i64 0, .int .i64 0, .int .i64 0, .int .i64 0, .int .i64 0, .int .i64 0] (0, 0) _ rfl (by (with_reducible repeat (first | refine blk_drewN ?_ _ | refine blk_drew ?_ | refine blk_alloc ?_ _)); refine blk_put (cs := #[.int .i64 0, .int .i64 0, .int .i64 0, .int .i64 0, .int .i64 0, .int .i64 0]) ?_ 5 _ rfl; (with_reducible repeat (first | refine blk_drewN ?_ _ | refine blk_drew ?_ | refine blk_alloc ?_ _)); refine blk_put (cs := #[.int .i64 0, .int .i64 0, .int .i64 0, .int .i64 0, .int .i64 0, .int .i64 0]) ?_ 4 _ rfl; (with_reducible repeat (first | refine blk_drewN ?_ _ | refine blk_drew ?_ | refine blk_alloc ?_ _)); refine blk_put (cs := #[.int .i64 0, .int .i64 0, .int .i64 0, .int .i64 0, .int .i64 0, .int .i64 0]) ?_ 3 _ rfl; (with_reducible repeat (first | refine blk_drewN ?_ _ | refine blk_drew ?_ | refine blk_alloc ?_ _)); refine blk_put (cs := #[.int .i64 0, .int .i64 0, .int .i64 0, .int .i64 0, .int .i64 0, .int .i64 0]) ?_ 2 _ rfl; (with_reducible repeat (first | refine blk_drewN ?_ _ | refine blk_drew ?_ | refine blk_alloc ?_ _)); refine blk_put (cs := #[.int .i64 0, .int .i64 0, .int .i64 0, .int .i64 0, .int .i64 0, .int .i64 0]) ?_ 1 _ rfl; (with_reducible repeat (first | refine blk_drewN ?_ _ | refine blk_drew ?_ | refine blk_alloc ?_ _)); refine blk_put (cs := #[.int .i64 0, .int .i64 0, .int .i64 0, .int .i64 0, .int .i64 0, .int .i64 0]) ?_ 0 _ rfl; (with_reducible repeat (first | refine blk_drewN ?_ _ | refine blk_drew ?_ | refine blk_alloc ?_ _)); exact BK1.out) Tryz.underlying25 rfl (by kernel_rfl)) rfl ?_; exact ⟨Gv.rt, Gv.bw⟩
  ·rw [if_neg c5] at H; have c5b0 : decide (43 < (a0.size : Int)) = false := decide_eq_false c5; have c5b1 : decide (43 < a0.size) = false := decide_eq_false (by omega); clear c5; replace H := Option.bind_eq_some_iff.mp H; obtain ⟨t8, A80, H⟩ := H
   (try dsimp only at H); have A8 := Gv.a0 A80; clear A80
   by_cases c9 : (t8.length : Int) = 2
   rotate_left
   ·rw [if_neg c9] at H; have c9b0 : ((t8.length : Int) == 2) = false := beq_eq_false_iff_ne.mpr c9; have c9b1 : ((t8.length : Int) != 2) = true := bne_iff_ne.mpr c9; simp only [Option.some.injEq, Prod.mk.injEq] at H; obtain ⟨rfl, rfl, rfl, rfl, rfl, rfl, rfl⟩ := H
    go_enter Tryz.func9, Tryz.ntmps9
    go_wp2_with (first | ((with_reducible refine gate_dst (N := 2) rfl ?_); refine Gv.bev 2 25 #[.int .i64 0, .int .i64 0, .int .i64 0, .int .i64 0, .int .i64 0, .int .i64 0] ?_; intro gb1 hg w77 hbox hb; have BK1 := Gv.a0 (hbox); have GW1 := Gv.a0 ((Gv.ble hg Gv.bw : w.heap.size ≤ gb1)); have GE1 := GW1; replace HB := Gv.hb hb; clear hb hbox hg) | ((with_reducible refine gate_callee (f := 7) rfl ?_); refine goesL_ (some 18) rfl rfl Tryz.func7 (by kernel_rfl) rfl #[.string a0, .int .u8 47] rfl Gv.lm ?_; (with_reducible refine (spec_l03Group.calls k a0 47 t8 _ A8.out).mono ?_); rintro e w78 ⟨v13, rfl, ho0, hb⟩; refine ⟨_, rfl, ?_⟩; have HO5 := Gv.a0 (Kd.R_lower ho0 (below_size Gv.bw)); replace BK1 := Gv.b1 BK1 hb; replace HB := Gv.hb hb; clear hb ho0; obtain ⟨Ao79, co79, eo79⟩ := Kd.R_slice HO5.out; subst eo79; obtain ⟨z80_0, z80_1, z80_2, z80_3, z80_4, z80_5⟩ := Gv.c6 BK1.out; obtain ⟨o80_0, o80_1, o80_2, o80_3, o80_4, o80_5⟩ := Gv.f6 BK1.out))
    refine bodyPost_ret (results_ct rfl _ _ gb1 25 #[.int .i64 0, .int .i64 0, .int .i64 0, .int .i64 0, .int .i64 0, .int .i64 0] (0, 0) _ rfl (by (with_reducible repeat (first | refine blk_drewN ?_ _ | refine blk_drew ?_ | refine blk_alloc ?_ _)); refine blk_put (cs := #[.int .i64 0, .int .i64 0, .int .i64 0, .int .i64 0, .int .i64 0, .int .i64 0]) ?_ 5 _ rfl; (with_reducible repeat (first | refine blk_drewN ?_ _ | refine blk_drew ?_ | refine blk_alloc ?_ _)); refine blk_put (cs := #[.int .i64 0, .int .i64 0, .int .i64 0, .int .i64 0, .int .i64 0, .int .i64 0]) ?_ 4 _ rfl; (with_reducible repeat (first | refine blk_drewN ?_ _ | refine blk_drew ?_ | refine blk_alloc ?_ _)); refine blk_put (cs := #[.int .i64 0, .int .i64 0, .int .i64 0, .int .i64 0, .int .i64 0, .int .i64 0]) ?_ 3 _ rfl; (with_reducible repeat (first | refine blk_drewN ?_ _ | refine blk_drew ?_ | refine blk_alloc ?_ _)); refine blk_put (cs := #[.int .i64 0, .int .i64 0, .int .i64 0, .int .i64 0, .int .i64 0, .int .i64 0]) ?_ 2 _ rfl; (with_reducible repeat (first | refine blk_drewN ?_ _ | refine blk_drew ?_ | refine blk_alloc ?_ _)); refine blk_put (cs := #[.int .i64 0, .int .i64 0, .int .i64 0, .int .i64 0, .int .i64 0, .int .i64 0]) ?_ 1 _ rfl; (with_reducible repeat (first | refine blk_drewN ?_ _ | refine blk_drew ?_ | refine blk_alloc ?_ _)); refine blk_put (cs := #[.int .i64 0, .int .i64 0, .int .i64 0, .int .i64 0, .int .i64 0, .int .i64 0]) ?_ 0 _ rfl; (with_reducible repeat (first | refine blk_drewN ?_ _ | refine blk_drew ?_ | refine blk_alloc ?_ _)); exact BK1.out) Tryz.underlying25 rfl (by kernel_rfl)) rfl ?_; exact ⟨Gv.rt, Gv.bw⟩

   rw [if_pos c9] at H; have c9b0 : ((t8.length : Int) == 2) = true := beq_iff_eq.mpr c9; have c9b1 : ((t8.length : Int) != 2) = false := bne_eq_false_iff_eq.mpr c9; clear c9
   by_cases c10 : 0 < (t8.length : Int)
   rotate_left
   ·rw [if_neg c10] at H; cases H
   rw [if_pos c10] at H; have c10b0 := decide_eq_true c10; have c10b1 : decide (0 < t8.length) = true := decide_eq_true (by omega); clear c10; replace H := Option.bind_eq_some_iff.mp H; obtain ⟨⟨t6, t7, t9, t10, t11, t16⟩, A14, H⟩ := H
   (try dsimp only at H); have A11 := Gv.a0 A14; clear A14
   by_cases c12 : 1 < (t8.length : Int)
   rotate_left
   ·rw [if_neg c12] at H; cases H
   rw [if_pos c12] at H; have c12b0 := decide_eq_true c12; have c12b1 : decide (1 < t8.length) = true := decide_eq_true (by omega); clear c12; replace H := Option.bind_eq_some_iff.mp H; obtain ⟨⟨t12, t15⟩, A17, H⟩ := H
   (try dsimp only at H); have A13 := Gv.a0 A17; clear A17
   by_cases c14 : t16 = true
   rotate_left
   ·replace c14 := Bool.eq_false_iff.mpr c14; subst c14; rw [if_neg (show ¬ (false = true) by decide)] at H
    (try dsimp only at H); simp only [Option.some.injEq, Prod.mk.injEq] at H; obtain ⟨rfl, rfl, rfl, rfl, rfl, rfl, rfl⟩ := H
    go_enter Tryz.func9, Tryz.ntmps9
    go_wp2_with (first | ((with_reducible refine gate_dst (N := 2) rfl ?_); refine Gv.bev 2 25 #[.int .i64 0, .int .i64 0, .int .i64 0, .int .i64 0, .int .i64 0, .int .i64 0] ?_; intro gb1 hg w63 hbox hb; have BK1 := Gv.a0 (hbox); have GW1 := Gv.a0 ((Gv.ble hg Gv.bw : w.heap.size ≤ gb1)); have GE1 := GW1; replace HB := Gv.hb hb; clear hb hbox hg) | ((with_reducible refine gate_callee (f := 7) rfl ?_); refine goesL_ (some 18) rfl rfl Tryz.func7 (by kernel_rfl) rfl #[.string a0, .int .u8 47] rfl Gv.lm ?_; (with_reducible refine (spec_l03Group.calls k a0 47 t8 _ A8.out).mono ?_); rintro e w64 ⟨v13, rfl, ho0, hb⟩; refine ⟨_, rfl, ?_⟩; have HO5 := Gv.a0 (Kd.R_lower ho0 (below_size Gv.bw)); replace BK1 := Gv.b1 BK1 hb; replace HB := Gv.hb hb; clear hb ho0; obtain ⟨Ao65, co65, eo65⟩ := Kd.R_slice HO5.out; subst eo65; have p4 : 0 ≤ (0 : Int) := (by omega); have q4 : 0 < (t8.length : Int) := Gv.od; obtain ⟨ad4, e4, u4_0⟩ := Kd.at_string (Kd.R_reads' HO5.out).2.2 0 p4 q4; cases e4; have qi277 : (0 < t8.length) = True := eq_true (by omega); (try rw [show ((0 : Int)).toNat = 0 from rfl] at u4_0); (try rw [Addr.add_zero'] at u4_0); replace p4 := eq_true p4; replace q4 := eq_true q4) | ((with_reducible refine gate_callee (f := 23) rfl ?_); refine goesL_ (some 27) rfl rfl Tryz.func23 (by kernel_rfl) rfl #[.string (rdOf ByteArray.empty t8 0)] rfl Gv.lm ?_; (with_reducible refine (spec_AddrRead.calls k (rdOf ByteArray.empty t8 0) t6 t7 t9 t10 t11 false _ A11.out).mono ?_); rintro e w66 ⟨rfl, hb⟩; refine ⟨_, rfl, ?_⟩; replace HO5 := Gv.a0 (Kd.R_below (Gv.kr HO5.out) hb); replace BK1 := Gv.b1 BK1 hb; replace HB := Gv.hb hb; clear hb) | ((with_reducible refine gate_dst (N := 5) rfl ?_); refine Gv.bev 5 23 #[.int .i64 0, .int .i64 0, .int .i64 0, .int .i64 0, .int .i64 0] ?_; intro gb0 hg w67 hbox hb; replace HO5 := Gv.a0 (Kd.R_below (Gv.kr HO5.out) hb); have BK0 := Gv.a0 (hbox); have GW0 := Gv.a0 ((Gv.ble hg Gv.bw : w.heap.size ≤ gb0)); have GE0 := GW0; replace HB := Gv.hb hb; have NB1_0 := Gv.a0 ((Gv.nlt hg (Gv.kb BK1.out) : gb1 ≠ gb0)); have NB0_1 := Gv.a0 ((Gv.ngt hg (Gv.kb BK1.out) : gb0 ≠ gb1)); replace BK1 := Gv.b1 BK1 hb; clear hb hbox hg; have hnb68 := NB0_1.out; have hnc68 := NB1_0.out; obtain ⟨z69_0, z69_1, z69_2, z69_3, z69_4⟩ := Gv.c5 BK0.out; obtain ⟨o69_0, o69_1, o69_2, o69_3, o69_4⟩ := Gv.f5 BK0.out; have p2 : 0 ≤ (1 : Int) := (by omega); have q2 : 1 < (t8.length : Int) := Gv.od; obtain ⟨ad2, e2, u2_0⟩ := Kd.at_string (Kd.R_reads' HO5.out).2.2 1 p2 q2; obtain rfl : ad4 = ad2 := (by injection e2); (try simp only [show (1 : Int).toNat = 1 from rfl, Nat.reduceMul, Nat.reduceEqDiff, Go.Addr.add, ↓reduceIte] at u2_0); have qi285 : (1 < t8.length) = True := eq_true (by omega); (try rw [show ((1 : Int)).toNat = 1 from rfl] at u2_0); have hn285_0 : ad4.block ≠ gb0 := Kd.own_blk (Kd.R_ne HO5.out BK0.out (by decide)); have hn285_1 : ad4.block ≠ gb0 := Kd.own_blk (Kd.R_ne HO5.out BK0.out (by decide)); have hn285_2 : ad4.block ≠ gb0 := Kd.own_blk (Kd.R_ne HO5.out BK0.out (by decide)); have hn285_3 : ad4.block ≠ gb0 := Kd.own_blk (Kd.R_ne HO5.out BK0.out (by decide)); have hn285_4 : ad4.block ≠ gb0 := Kd.own_blk (Kd.R_ne HO5.out BK0.out (by decide)); replace u2_0 := (cell_far (p := ⟨gb0, 0, none⟩) (by first | (rw [add_block]; exact hn285_0) | (show (Addr.add _ _).block ≠ _; rw [add_block]; exact hn285_0) | exact hn285_0) (.int .i64 t6)).trans u2_0; replace u2_0 := (cell_far (p := ⟨gb0, 1, none⟩) (by first | (rw [add_block]; exact hn285_1) | (show (Addr.add _ _).block ≠ _; rw [add_block]; exact hn285_1) | exact hn285_1) (.int .i64 t7)).trans u2_0; replace u2_0 := (cell_far (p := ⟨gb0, 2, none⟩) (by first | (rw [add_block]; exact hn285_2) | (show (Addr.add _ _).block ≠ _; rw [add_block]; exact hn285_2) | exact hn285_2) (.int .i64 t9)).trans u2_0; replace u2_0 := (cell_far (p := ⟨gb0, 3, none⟩) (by first | (rw [add_block]; exact hn285_3) | (show (Addr.add _ _).block ≠ _; rw [add_block]; exact hn285_3) | exact hn285_3) (.int .i64 t10)).trans u2_0; replace u2_0 := (cell_far (p := ⟨gb0, 4, none⟩) (by first | (rw [add_block]; exact hn285_4) | (show (Addr.add _ _).block ≠ _; rw [add_block]; exact hn285_4) | exact hn285_4) (.int .i64 t11)).trans u2_0; clear hn285_0 hn285_1 hn285_2 hn285_3 hn285_4; replace p2 := eq_true p2; replace q2 := eq_true q2) | ((with_reducible refine gate_callee (f := 8) rfl ?_); refine goesL_ (some 34) rfl rfl Tryz.func8 (by kernel_rfl) rfl #[.string (rdOf ByteArray.empty t8 1)] rfl Gv.lm ?_; (with_reducible refine (spec_NumRead.calls k (rdOf ByteArray.empty t8 1) t12 t15 _ A13.out).mono ?_); rintro e w70 ⟨rfl, hb⟩; refine ⟨_, rfl, ?_⟩; replace HO5 := Gv.a0 (Kd.R_below (by (with_reducible repeat (first | apply Kd.R_alloc | apply Kd.R_drewN | apply Kd.R_drew)); exact (Kd.R_mono (Kd.R_far (p := ⟨gb0, 4, none⟩) (Kd.R_far (p := ⟨gb0, 3, none⟩) (Kd.R_far (p := ⟨gb0, 2, none⟩) (Kd.R_far (p := ⟨gb0, 1, none⟩) (Kd.R_far (p := ⟨gb0, 0, none⟩) (Kd.R_types HO5.out BK0.out (by decide)) (fun _ hk => hk.2) (.int .i64 t6)) (fun _ hk => hk.2) (.int .i64 t7)) (fun _ hk => hk.2) (.int .i64 t9)) (fun _ hk => hk.2) (.int .i64 t10)) (fun _ hk => hk.2) (.int .i64 t11)) (fun _ h_ => h_.1))) hb); replace BK1 := Gv.a0 (blk_below (g := gb1) (o := .cells #[.int .i64 0, .int .i64 0, .int .i64 0, .int .i64 0, .int .i64 0, .int .i64 0] 25 (0, 0)) Gv.bkf hb); replace BK0 := Gv.a0 (blk_below (g := gb0) (o := .cells #[.int .i64 t6, .int .i64 t7, .int .i64 t9, .int .i64 t10, .int .i64 t11] 23 (0, 0)) (by (with_reducible repeat (first | refine blk_drewN ?_ _ | refine blk_drew ?_ | refine blk_alloc ?_ _)); refine blk_put (cs := #[.int .i64 t6, .int .i64 t7, .int .i64 t9, .int .i64 t10, .int .i64 0]) ?_ 4 _ rfl; (with_reducible repeat (first | refine blk_drewN ?_ _ | refine blk_drew ?_ | refine blk_alloc ?_ _)); refine blk_put (cs := #[.int .i64 t6, .int .i64 t7, .int .i64 t9, .int .i64 0, .int .i64 0]) ?_ 3 _ rfl; (with_reducible repeat (first | refine blk_drewN ?_ _ | refine blk_drew ?_ | refine blk_alloc ?_ _)); refine blk_put (cs := #[.int .i64 t6, .int .i64 t7, .int .i64 0, .int .i64 0, .int .i64 0]) ?_ 2 _ rfl; (with_reducible repeat (first | refine blk_drewN ?_ _ | refine blk_drew ?_ | refine blk_alloc ?_ _)); refine blk_put (cs := #[.int .i64 t6, .int .i64 0, .int .i64 0, .int .i64 0, .int .i64 0]) ?_ 1 _ rfl; (with_reducible repeat (first | refine blk_drewN ?_ _ | refine blk_drew ?_ | refine blk_alloc ?_ _)); refine blk_put (cs := #[.int .i64 0, .int .i64 0, .int .i64 0, .int .i64 0, .int .i64 0]) ?_ 0 _ rfl; (with_reducible repeat (first | refine blk_drewN ?_ _ | refine blk_drew ?_ | refine blk_alloc ?_ _)); exact BK0.out) hb); replace HB := Gv.hb hb; clear hb; obtain ⟨z71_0, z71_1, z71_2, z71_3, z71_4⟩ := Gv.c5 BK0.out; obtain ⟨o71_0, o71_1, o71_2, o71_3, o71_4⟩ := Gv.f5 BK0.out) | ((with_reducible refine gate_dst (N := 9) rfl ?_); refine Gv.bev 9 25 #[.int .i64 0, .int .i64 0, .int .i64 0, .int .i64 0, .int .i64 0, .int .i64 0] ?_; intro gb3 hg w72 hbox hb; replace HO5 := Gv.a0 (Kd.R_below (Gv.kr HO5.out) hb); have BK3 := Gv.a0 (hbox); have GW3 := Gv.a0 ((Gv.ble hg Gv.bw : w.heap.size ≤ gb3)); have GE3 := GW3; replace HB := Gv.hb hb; have NB1_3 := Gv.a0 ((Gv.nlt hg (Gv.kb BK1.out) : gb1 ≠ gb3)); have NB3_1 := Gv.a0 ((Gv.ngt hg (Gv.kb BK1.out) : gb3 ≠ gb1)); replace BK1 := Gv.b1 BK1 hb; have NB0_3 := Gv.a0 ((Gv.nlt hg (Gv.kb BK0.out) : gb0 ≠ gb3)); have NB3_0 := Gv.a0 ((Gv.ngt hg (Gv.kb BK0.out) : gb3 ≠ gb0)); replace BK0 := Gv.b1 BK0 hb; clear hb hbox hg; have hnb73 := NB3_1.out; have hnc73 := NB1_3.out; have hnb74 := NB3_0.out; have hnc74 := NB0_3.out; obtain ⟨z75_0, z75_1, z75_2, z75_3, z75_4, z75_5⟩ := Gv.c6 BK3.out; obtain ⟨o75_0, o75_1, o75_2, o75_3, o75_4, o75_5⟩ := Gv.f6 BK3.out; obtain ⟨z76_0, z76_1, z76_2, z76_3, z76_4, z76_5⟩ := Gv.c6 BK1.out; obtain ⟨o76_0, o76_1, o76_2, o76_3, o76_4, o76_5⟩ := Gv.f6 BK1.out))
    refine bodyPost_ret (results_ct rfl _ _ gb1 25 #[.int .i64 0, .int .i64 0, .int .i64 0, .int .i64 0, .int .i64 0, .int .i64 0] (0, 0) _ rfl (by (with_reducible repeat (first | refine blk_drewN ?_ _ | refine blk_drew ?_ | refine blk_alloc ?_ _)); refine blk_put (cs := #[.int .i64 0, .int .i64 0, .int .i64 0, .int .i64 0, .int .i64 0, .int .i64 0]) ?_ 5 _ rfl; (with_reducible repeat (first | refine blk_drewN ?_ _ | refine blk_drew ?_ | refine blk_alloc ?_ _)); refine blk_put (cs := #[.int .i64 0, .int .i64 0, .int .i64 0, .int .i64 0, .int .i64 0, .int .i64 0]) ?_ 4 _ rfl; (with_reducible repeat (first | refine blk_drewN ?_ _ | refine blk_drew ?_ | refine blk_alloc ?_ _)); refine blk_put (cs := #[.int .i64 0, .int .i64 0, .int .i64 0, .int .i64 0, .int .i64 0, .int .i64 0]) ?_ 3 _ rfl; (with_reducible repeat (first | refine blk_drewN ?_ _ | refine blk_drew ?_ | refine blk_alloc ?_ _)); refine blk_put (cs := #[.int .i64 0, .int .i64 0, .int .i64 0, .int .i64 0, .int .i64 0, .int .i64 0]) ?_ 2 _ rfl; (with_reducible repeat (first | refine blk_drewN ?_ _ | refine blk_drew ?_ | refine blk_alloc ?_ _)); refine blk_put (cs := #[.int .i64 0, .int .i64 0, .int .i64 0, .int .i64 0, .int .i64 0, .int .i64 0]) ?_ 1 _ rfl; (with_reducible repeat (first | refine blk_drewN ?_ _ | refine blk_drew ?_ | refine blk_alloc ?_ _)); refine blk_put (cs := #[.int .i64 0, .int .i64 0, .int .i64 0, .int .i64 0, .int .i64 0, .int .i64 0]) ?_ 0 _ rfl; (with_reducible repeat (first | refine blk_drewN ?_ _ | refine blk_drew ?_ | refine blk_alloc ?_ _)); refine blk_far ?_ NB1_3.out _; (with_reducible repeat (first | refine blk_drewN ?_ _ | refine blk_drew ?_ | refine blk_alloc ?_ _)); refine blk_far ?_ NB1_3.out _; (with_reducible repeat (first | refine blk_drewN ?_ _ | refine blk_drew ?_ | refine blk_alloc ?_ _)); refine blk_far ?_ NB1_3.out _; (with_reducible repeat (first | refine blk_drewN ?_ _ | refine blk_drew ?_ | refine blk_alloc ?_ _)); refine blk_far ?_ NB1_3.out _; (with_reducible repeat (first | refine blk_drewN ?_ _ | refine blk_drew ?_ | refine blk_alloc ?_ _)); refine blk_far ?_ NB1_3.out _; (with_reducible repeat (first | refine blk_drewN ?_ _ | refine blk_drew ?_ | refine blk_alloc ?_ _)); refine blk_far ?_ NB1_3.out _; (with_reducible repeat (first | refine blk_drewN ?_ _ | refine blk_drew ?_ | refine blk_alloc ?_ _)); exact BK1.out) Tryz.underlying25 rfl (by kernel_rfl)) rfl ?_; exact ⟨Gv.rt, Gv.bw⟩
   subst c14; rw [if_pos rfl] at H
   (try dsimp only at H)
   by_cases c15 : t15 = true
   rotate_left
   ·replace c15 := Bool.eq_false_iff.mpr c15; subst c15; rw [if_neg (show ¬ (false = true) by decide)] at H
    (try dsimp only at H); simp only [Option.some.injEq, Prod.mk.injEq] at H; obtain ⟨rfl, rfl, rfl, rfl, rfl, rfl, rfl⟩ := H
    go_enter Tryz.func9, Tryz.ntmps9
    go_wp2_with (first | ((with_reducible refine gate_dst (N := 2) rfl ?_); refine Gv.bev 2 25 #[.int .i64 0, .int .i64 0, .int .i64 0, .int .i64 0, .int .i64 0, .int .i64 0] ?_; intro gb1 hg w49 hbox hb; have BK1 := Gv.a0 (hbox); have GW1 := Gv.a0 ((Gv.ble hg Gv.bw : w.heap.size ≤ gb1)); have GE1 := GW1; replace HB := Gv.hb hb; clear hb hbox hg) | ((with_reducible refine gate_callee (f := 7) rfl ?_); refine goesL_ (some 18) rfl rfl Tryz.func7 (by kernel_rfl) rfl #[.string a0, .int .u8 47] rfl Gv.lm ?_; (with_reducible refine (spec_l03Group.calls k a0 47 t8 _ A8.out).mono ?_); rintro e w50 ⟨v13, rfl, ho0, hb⟩; refine ⟨_, rfl, ?_⟩; have HO5 := Gv.a0 (Kd.R_lower ho0 (below_size Gv.bw)); replace BK1 := Gv.b1 BK1 hb; replace HB := Gv.hb hb; clear hb ho0; obtain ⟨Ao51, co51, eo51⟩ := Kd.R_slice HO5.out; subst eo51; have p4 : 0 ≤ (0 : Int) := (by omega); have q4 : 0 < (t8.length : Int) := Gv.od; obtain ⟨ad4, e4, u4_0⟩ := Kd.at_string (Kd.R_reads' HO5.out).2.2 0 p4 q4; cases e4; have qi277 : (0 < t8.length) = True := eq_true (by omega); (try rw [show ((0 : Int)).toNat = 0 from rfl] at u4_0); (try rw [Addr.add_zero'] at u4_0); replace p4 := eq_true p4; replace q4 := eq_true q4) | ((with_reducible refine gate_callee (f := 23) rfl ?_); refine goesL_ (some 27) rfl rfl Tryz.func23 (by kernel_rfl) rfl #[.string (rdOf ByteArray.empty t8 0)] rfl Gv.lm ?_; (with_reducible refine (spec_AddrRead.calls k (rdOf ByteArray.empty t8 0) t6 t7 t9 t10 t11 true _ A11.out).mono ?_); rintro e w52 ⟨rfl, hb⟩; refine ⟨_, rfl, ?_⟩; replace HO5 := Gv.a0 (Kd.R_below (Gv.kr HO5.out) hb); replace BK1 := Gv.b1 BK1 hb; replace HB := Gv.hb hb; clear hb) | ((with_reducible refine gate_dst (N := 5) rfl ?_); refine Gv.bev 5 23 #[.int .i64 0, .int .i64 0, .int .i64 0, .int .i64 0, .int .i64 0] ?_; intro gb0 hg w53 hbox hb; replace HO5 := Gv.a0 (Kd.R_below (Gv.kr HO5.out) hb); have BK0 := Gv.a0 (hbox); have GW0 := Gv.a0 ((Gv.ble hg Gv.bw : w.heap.size ≤ gb0)); have GE0 := GW0; replace HB := Gv.hb hb; have NB1_0 := Gv.a0 ((Gv.nlt hg (Gv.kb BK1.out) : gb1 ≠ gb0)); have NB0_1 := Gv.a0 ((Gv.ngt hg (Gv.kb BK1.out) : gb0 ≠ gb1)); replace BK1 := Gv.b1 BK1 hb; clear hb hbox hg; have hnb54 := NB0_1.out; have hnc54 := NB1_0.out; obtain ⟨z55_0, z55_1, z55_2, z55_3, z55_4⟩ := Gv.c5 BK0.out; obtain ⟨o55_0, o55_1, o55_2, o55_3, o55_4⟩ := Gv.f5 BK0.out; have p2 : 0 ≤ (1 : Int) := (by omega); have q2 : 1 < (t8.length : Int) := Gv.od; obtain ⟨ad2, e2, u2_0⟩ := Kd.at_string (Kd.R_reads' HO5.out).2.2 1 p2 q2; obtain rfl : ad4 = ad2 := (by injection e2); (try simp only [show (1 : Int).toNat = 1 from rfl, Nat.reduceMul, Nat.reduceEqDiff, Go.Addr.add, ↓reduceIte] at u2_0); have qi285 : (1 < t8.length) = True := eq_true (by omega); (try rw [show ((1 : Int)).toNat = 1 from rfl] at u2_0); have hn285_0 : ad4.block ≠ gb0 := Kd.own_blk (Kd.R_ne HO5.out BK0.out (by decide)); have hn285_1 : ad4.block ≠ gb0 := Kd.own_blk (Kd.R_ne HO5.out BK0.out (by decide)); have hn285_2 : ad4.block ≠ gb0 := Kd.own_blk (Kd.R_ne HO5.out BK0.out (by decide)); have hn285_3 : ad4.block ≠ gb0 := Kd.own_blk (Kd.R_ne HO5.out BK0.out (by decide)); have hn285_4 : ad4.block ≠ gb0 := Kd.own_blk (Kd.R_ne HO5.out BK0.out (by decide)); replace u2_0 := (cell_far (p := ⟨gb0, 0, none⟩) (by first | (rw [add_block]; exact hn285_0) | (show (Addr.add _ _).block ≠ _; rw [add_block]; exact hn285_0) | exact hn285_0) (.int .i64 t6)).trans u2_0; replace u2_0 := (cell_far (p := ⟨gb0, 1, none⟩) (by first | (rw [add_block]; exact hn285_1) | (show (Addr.add _ _).block ≠ _; rw [add_block]; exact hn285_1) | exact hn285_1) (.int .i64 t7)).trans u2_0; replace u2_0 := (cell_far (p := ⟨gb0, 2, none⟩) (by first | (rw [add_block]; exact hn285_2) | (show (Addr.add _ _).block ≠ _; rw [add_block]; exact hn285_2) | exact hn285_2) (.int .i64 t9)).trans u2_0; replace u2_0 := (cell_far (p := ⟨gb0, 3, none⟩) (by first | (rw [add_block]; exact hn285_3) | (show (Addr.add _ _).block ≠ _; rw [add_block]; exact hn285_3) | exact hn285_3) (.int .i64 t10)).trans u2_0; replace u2_0 := (cell_far (p := ⟨gb0, 4, none⟩) (by first | (rw [add_block]; exact hn285_4) | (show (Addr.add _ _).block ≠ _; rw [add_block]; exact hn285_4) | exact hn285_4) (.int .i64 t11)).trans u2_0; clear hn285_0 hn285_1 hn285_2 hn285_3 hn285_4; replace p2 := eq_true p2; replace q2 := eq_true q2) | ((with_reducible refine gate_callee (f := 8) rfl ?_); refine goesL_ (some 34) rfl rfl Tryz.func8 (by kernel_rfl) rfl #[.string (rdOf ByteArray.empty t8 1)] rfl Gv.lm ?_; (with_reducible refine (spec_NumRead.calls k (rdOf ByteArray.empty t8 1) t12 false _ A13.out).mono ?_); rintro e w56 ⟨rfl, hb⟩; refine ⟨_, rfl, ?_⟩; replace HO5 := Gv.a0 (Kd.R_below (by (with_reducible repeat (first | apply Kd.R_alloc | apply Kd.R_drewN | apply Kd.R_drew)); exact (Kd.R_mono (Kd.R_far (p := ⟨gb0, 4, none⟩) (Kd.R_far (p := ⟨gb0, 3, none⟩) (Kd.R_far (p := ⟨gb0, 2, none⟩) (Kd.R_far (p := ⟨gb0, 1, none⟩) (Kd.R_far (p := ⟨gb0, 0, none⟩) (Kd.R_types HO5.out BK0.out (by decide)) (fun _ hk => hk.2) (.int .i64 t6)) (fun _ hk => hk.2) (.int .i64 t7)) (fun _ hk => hk.2) (.int .i64 t9)) (fun _ hk => hk.2) (.int .i64 t10)) (fun _ hk => hk.2) (.int .i64 t11)) (fun _ h_ => h_.1))) hb); replace BK1 := Gv.a0 (blk_below (g := gb1) (o := .cells #[.int .i64 0, .int .i64 0, .int .i64 0, .int .i64 0, .int .i64 0, .int .i64 0] 25 (0, 0)) Gv.bkf hb); replace BK0 := Gv.a0 (blk_below (g := gb0) (o := .cells #[.int .i64 t6, .int .i64 t7, .int .i64 t9, .int .i64 t10, .int .i64 t11] 23 (0, 0)) (by (with_reducible repeat (first | refine blk_drewN ?_ _ | refine blk_drew ?_ | refine blk_alloc ?_ _)); refine blk_put (cs := #[.int .i64 t6, .int .i64 t7, .int .i64 t9, .int .i64 t10, .int .i64 0]) ?_ 4 _ rfl; (with_reducible repeat (first | refine blk_drewN ?_ _ | refine blk_drew ?_ | refine blk_alloc ?_ _)); refine blk_put (cs := #[.int .i64 t6, .int .i64 t7, .int .i64 t9, .int .i64 0, .int .i64 0]) ?_ 3 _ rfl; (with_reducible repeat (first | refine blk_drewN ?_ _ | refine blk_drew ?_ | refine blk_alloc ?_ _)); refine blk_put (cs := #[.int .i64 t6, .int .i64 t7, .int .i64 0, .int .i64 0, .int .i64 0]) ?_ 2 _ rfl; (with_reducible repeat (first | refine blk_drewN ?_ _ | refine blk_drew ?_ | refine blk_alloc ?_ _)); refine blk_put (cs := #[.int .i64 t6, .int .i64 0, .int .i64 0, .int .i64 0, .int .i64 0]) ?_ 1 _ rfl; (with_reducible repeat (first | refine blk_drewN ?_ _ | refine blk_drew ?_ | refine blk_alloc ?_ _)); refine blk_put (cs := #[.int .i64 0, .int .i64 0, .int .i64 0, .int .i64 0, .int .i64 0]) ?_ 0 _ rfl; (with_reducible repeat (first | refine blk_drewN ?_ _ | refine blk_drew ?_ | refine blk_alloc ?_ _)); exact BK0.out) hb); replace HB := Gv.hb hb; clear hb; obtain ⟨z57_0, z57_1, z57_2, z57_3, z57_4⟩ := Gv.c5 BK0.out; obtain ⟨o57_0, o57_1, o57_2, o57_3, o57_4⟩ := Gv.f5 BK0.out) | ((with_reducible refine gate_dst (N := 9) rfl ?_); refine Gv.bev 9 25 #[.int .i64 0, .int .i64 0, .int .i64 0, .int .i64 0, .int .i64 0, .int .i64 0] ?_; intro gb3 hg w58 hbox hb; replace HO5 := Gv.a0 (Kd.R_below (Gv.kr HO5.out) hb); have BK3 := Gv.a0 (hbox); have GW3 := Gv.a0 ((Gv.ble hg Gv.bw : w.heap.size ≤ gb3)); have GE3 := GW3; replace HB := Gv.hb hb; have NB1_3 := Gv.a0 ((Gv.nlt hg (Gv.kb BK1.out) : gb1 ≠ gb3)); have NB3_1 := Gv.a0 ((Gv.ngt hg (Gv.kb BK1.out) : gb3 ≠ gb1)); replace BK1 := Gv.b1 BK1 hb; have NB0_3 := Gv.a0 ((Gv.nlt hg (Gv.kb BK0.out) : gb0 ≠ gb3)); have NB3_0 := Gv.a0 ((Gv.ngt hg (Gv.kb BK0.out) : gb3 ≠ gb0)); replace BK0 := Gv.b1 BK0 hb; clear hb hbox hg; have hnb59 := NB3_1.out; have hnc59 := NB1_3.out; have hnb60 := NB3_0.out; have hnc60 := NB0_3.out; obtain ⟨z61_0, z61_1, z61_2, z61_3, z61_4, z61_5⟩ := Gv.c6 BK3.out; obtain ⟨o61_0, o61_1, o61_2, o61_3, o61_4, o61_5⟩ := Gv.f6 BK3.out; obtain ⟨z62_0, z62_1, z62_2, z62_3, z62_4, z62_5⟩ := Gv.c6 BK1.out; obtain ⟨o62_0, o62_1, o62_2, o62_3, o62_4, o62_5⟩ := Gv.f6 BK1.out))
    refine bodyPost_ret (results_ct rfl _ _ gb1 25 #[.int .i64 0, .int .i64 0, .int .i64 0, .int .i64 0, .int .i64 0, .int .i64 0] (0, 0) _ rfl (by (with_reducible repeat (first | refine blk_drewN ?_ _ | refine blk_drew ?_ | refine blk_alloc ?_ _)); refine blk_put (cs := #[.int .i64 0, .int .i64 0, .int .i64 0, .int .i64 0, .int .i64 0, .int .i64 0]) ?_ 5 _ rfl; (with_reducible repeat (first | refine blk_drewN ?_ _ | refine blk_drew ?_ | refine blk_alloc ?_ _)); refine blk_put (cs := #[.int .i64 0, .int .i64 0, .int .i64 0, .int .i64 0, .int .i64 0, .int .i64 0]) ?_ 4 _ rfl; (with_reducible repeat (first | refine blk_drewN ?_ _ | refine blk_drew ?_ | refine blk_alloc ?_ _)); refine blk_put (cs := #[.int .i64 0, .int .i64 0, .int .i64 0, .int .i64 0, .int .i64 0, .int .i64 0]) ?_ 3 _ rfl; (with_reducible repeat (first | refine blk_drewN ?_ _ | refine blk_drew ?_ | refine blk_alloc ?_ _)); refine blk_put (cs := #[.int .i64 0, .int .i64 0, .int .i64 0, .int .i64 0, .int .i64 0, .int .i64 0]) ?_ 2 _ rfl; (with_reducible repeat (first | refine blk_drewN ?_ _ | refine blk_drew ?_ | refine blk_alloc ?_ _)); refine blk_put (cs := #[.int .i64 0, .int .i64 0, .int .i64 0, .int .i64 0, .int .i64 0, .int .i64 0]) ?_ 1 _ rfl; (with_reducible repeat (first | refine blk_drewN ?_ _ | refine blk_drew ?_ | refine blk_alloc ?_ _)); refine blk_put (cs := #[.int .i64 0, .int .i64 0, .int .i64 0, .int .i64 0, .int .i64 0, .int .i64 0]) ?_ 0 _ rfl; (with_reducible repeat (first | refine blk_drewN ?_ _ | refine blk_drew ?_ | refine blk_alloc ?_ _)); refine blk_far ?_ NB1_3.out _; (with_reducible repeat (first | refine blk_drewN ?_ _ | refine blk_drew ?_ | refine blk_alloc ?_ _)); refine blk_far ?_ NB1_3.out _; (with_reducible repeat (first | refine blk_drewN ?_ _ | refine blk_drew ?_ | refine blk_alloc ?_ _)); refine blk_far ?_ NB1_3.out _; (with_reducible repeat (first | refine blk_drewN ?_ _ | refine blk_drew ?_ | refine blk_alloc ?_ _)); refine blk_far ?_ NB1_3.out _; (with_reducible repeat (first | refine blk_drewN ?_ _ | refine blk_drew ?_ | refine blk_alloc ?_ _)); refine blk_far ?_ NB1_3.out _; (with_reducible repeat (first | refine blk_drewN ?_ _ | refine blk_drew ?_ | refine blk_alloc ?_ _)); refine blk_far ?_ NB1_3.out _; (with_reducible repeat (first | refine blk_drewN ?_ _ | refine blk_drew ?_ | refine blk_alloc ?_ _)); exact BK1.out) Tryz.underlying25 rfl (by kernel_rfl)) rfl ?_; exact ⟨Gv.rt, Gv.bw⟩
   subst c15; rw [if_pos rfl] at H
   (try dsimp only at H); replace H := Option.bind_eq_some_iff.mp H; obtain ⟨t19, A18, H⟩ := H
   (try dsimp only at H); have A16 := Gv.a0 A18; clear A18
   by_cases c17 : t19 = true
   ·subst c17; rw [if_pos rfl] at H
    (try dsimp only at H); simp only [Option.some.injEq, Prod.mk.injEq] at H; obtain ⟨rfl, rfl, rfl, rfl, rfl, rfl, rfl⟩ := H
    go_enter Tryz.func9, Tryz.ntmps9
    go_wp2_with (first | ((with_reducible refine gate_dst (N := 2) rfl ?_); refine Gv.bev 2 25 #[.int .i64 0, .int .i64 0, .int .i64 0, .int .i64 0, .int .i64 0, .int .i64 0] ?_; intro gb1 hg w18 hbox hb; have BK1 := Gv.a0 (hbox); have GW1 := Gv.a0 ((Gv.ble hg Gv.bw : w.heap.size ≤ gb1)); have GE1 := GW1; replace HB := Gv.hb hb; clear hb hbox hg) | ((with_reducible refine gate_callee (f := 7) rfl ?_); refine goesL_ (some 18) rfl rfl Tryz.func7 (by kernel_rfl) rfl #[.string a0, .int .u8 47] rfl Gv.lm ?_; (with_reducible refine (spec_l03Group.calls k a0 47 t8 _ A8.out).mono ?_); rintro e w19 ⟨v13, rfl, ho0, hb⟩; refine ⟨_, rfl, ?_⟩; have HO5 := Gv.a0 (Kd.R_lower ho0 (below_size Gv.bw)); replace BK1 := Gv.b1 BK1 hb; replace HB := Gv.hb hb; clear hb ho0; obtain ⟨Ao20, co20, eo20⟩ := Kd.R_slice HO5.out; subst eo20; have p4 : 0 ≤ (0 : Int) := (by omega); have q4 : 0 < (t8.length : Int) := Gv.od; obtain ⟨ad4, e4, u4_0⟩ := Kd.at_string (Kd.R_reads' HO5.out).2.2 0 p4 q4; cases e4; have qi277 : (0 < t8.length) = True := eq_true (by omega); (try rw [show ((0 : Int)).toNat = 0 from rfl] at u4_0); (try rw [Addr.add_zero'] at u4_0); replace p4 := eq_true p4; replace q4 := eq_true q4) | ((with_reducible refine gate_callee (f := 23) rfl ?_); refine goesL_ (some 27) rfl rfl Tryz.func23 (by kernel_rfl) rfl #[.string (rdOf ByteArray.empty t8 0)] rfl Gv.lm ?_; (with_reducible refine (spec_AddrRead.calls k (rdOf ByteArray.empty t8 0) t6 t7 t9 t10 t11 true _ A11.out).mono ?_); rintro e w21 ⟨rfl, hb⟩; refine ⟨_, rfl, ?_⟩; replace HO5 := Gv.a0 (Kd.R_below (Gv.kr HO5.out) hb); replace BK1 := Gv.b1 BK1 hb; replace HB := Gv.hb hb; clear hb) | ((with_reducible refine gate_dst (N := 5) rfl ?_); refine Gv.bev 5 23 #[.int .i64 0, .int .i64 0, .int .i64 0, .int .i64 0, .int .i64 0] ?_; intro gb0 hg w22 hbox hb; replace HO5 := Gv.a0 (Kd.R_below (Gv.kr HO5.out) hb); have BK0 := Gv.a0 (hbox); have GW0 := Gv.a0 ((Gv.ble hg Gv.bw : w.heap.size ≤ gb0)); have GE0 := GW0; replace HB := Gv.hb hb; have NB1_0 := Gv.a0 ((Gv.nlt hg (Gv.kb BK1.out) : gb1 ≠ gb0)); have NB0_1 := Gv.a0 ((Gv.ngt hg (Gv.kb BK1.out) : gb0 ≠ gb1)); replace BK1 := Gv.b1 BK1 hb; clear hb hbox hg; have hnb23 := NB0_1.out; have hnc23 := NB1_0.out; obtain ⟨z24_0, z24_1, z24_2, z24_3, z24_4⟩ := Gv.c5 BK0.out; obtain ⟨o24_0, o24_1, o24_2, o24_3, o24_4⟩ := Gv.f5 BK0.out; have p2 : 0 ≤ (1 : Int) := (by omega); have q2 : 1 < (t8.length : Int) := Gv.od; obtain ⟨ad2, e2, u2_0⟩ := Kd.at_string (Kd.R_reads' HO5.out).2.2 1 p2 q2; obtain rfl : ad4 = ad2 := (by injection e2); (try simp only [show (1 : Int).toNat = 1 from rfl, Nat.reduceMul, Nat.reduceEqDiff, Go.Addr.add, ↓reduceIte] at u2_0); have qi285 : (1 < t8.length) = True := eq_true (by omega); (try rw [show ((1 : Int)).toNat = 1 from rfl] at u2_0); have hn285_0 : ad4.block ≠ gb0 := Kd.own_blk (Kd.R_ne HO5.out BK0.out (by decide)); have hn285_1 : ad4.block ≠ gb0 := Kd.own_blk (Kd.R_ne HO5.out BK0.out (by decide)); have hn285_2 : ad4.block ≠ gb0 := Kd.own_blk (Kd.R_ne HO5.out BK0.out (by decide)); have hn285_3 : ad4.block ≠ gb0 := Kd.own_blk (Kd.R_ne HO5.out BK0.out (by decide)); have hn285_4 : ad4.block ≠ gb0 := Kd.own_blk (Kd.R_ne HO5.out BK0.out (by decide)); replace u2_0 := (cell_far (p := ⟨gb0, 0, none⟩) (by first | (rw [add_block]; exact hn285_0) | (show (Addr.add _ _).block ≠ _; rw [add_block]; exact hn285_0) | exact hn285_0) (.int .i64 t6)).trans u2_0; replace u2_0 := (cell_far (p := ⟨gb0, 1, none⟩) (by first | (rw [add_block]; exact hn285_1) | (show (Addr.add _ _).block ≠ _; rw [add_block]; exact hn285_1) | exact hn285_1) (.int .i64 t7)).trans u2_0; replace u2_0 := (cell_far (p := ⟨gb0, 2, none⟩) (by first | (rw [add_block]; exact hn285_2) | (show (Addr.add _ _).block ≠ _; rw [add_block]; exact hn285_2) | exact hn285_2) (.int .i64 t9)).trans u2_0; replace u2_0 := (cell_far (p := ⟨gb0, 3, none⟩) (by first | (rw [add_block]; exact hn285_3) | (show (Addr.add _ _).block ≠ _; rw [add_block]; exact hn285_3) | exact hn285_3) (.int .i64 t10)).trans u2_0; replace u2_0 := (cell_far (p := ⟨gb0, 4, none⟩) (by first | (rw [add_block]; exact hn285_4) | (show (Addr.add _ _).block ≠ _; rw [add_block]; exact hn285_4) | exact hn285_4) (.int .i64 t11)).trans u2_0; clear hn285_0 hn285_1 hn285_2 hn285_3 hn285_4; replace p2 := eq_true p2; replace q2 := eq_true q2) | ((with_reducible refine gate_callee (f := 8) rfl ?_); refine goesL_ (some 34) rfl rfl Tryz.func8 (by kernel_rfl) rfl #[.string (rdOf ByteArray.empty t8 1)] rfl Gv.lm ?_; (with_reducible refine (spec_NumRead.calls k (rdOf ByteArray.empty t8 1) t12 true _ A13.out).mono ?_); rintro e w25 ⟨rfl, hb⟩; refine ⟨_, rfl, ?_⟩; replace HO5 := Gv.a0 (Kd.R_below (by (with_reducible repeat (first | apply Kd.R_alloc | apply Kd.R_drewN | apply Kd.R_drew)); exact (Kd.R_mono (Kd.R_far (p := ⟨gb0, 4, none⟩) (Kd.R_far (p := ⟨gb0, 3, none⟩) (Kd.R_far (p := ⟨gb0, 2, none⟩) (Kd.R_far (p := ⟨gb0, 1, none⟩) (Kd.R_far (p := ⟨gb0, 0, none⟩) (Kd.R_types HO5.out BK0.out (by decide)) (fun _ hk => hk.2) (.int .i64 t6)) (fun _ hk => hk.2) (.int .i64 t7)) (fun _ hk => hk.2) (.int .i64 t9)) (fun _ hk => hk.2) (.int .i64 t10)) (fun _ hk => hk.2) (.int .i64 t11)) (fun _ h_ => h_.1))) hb); replace BK1 := Gv.a0 (blk_below (g := gb1) (o := .cells #[.int .i64 0, .int .i64 0, .int .i64 0, .int .i64 0, .int .i64 0, .int .i64 0] 25 (0, 0)) Gv.bkf hb); replace BK0 := Gv.a0 (blk_below (g := gb0) (o := .cells #[.int .i64 t6, .int .i64 t7, .int .i64 t9, .int .i64 t10, .int .i64 t11] 23 (0, 0)) (by (with_reducible repeat (first | refine blk_drewN ?_ _ | refine blk_drew ?_ | refine blk_alloc ?_ _)); refine blk_put (cs := #[.int .i64 t6, .int .i64 t7, .int .i64 t9, .int .i64 t10, .int .i64 0]) ?_ 4 _ rfl; (with_reducible repeat (first | refine blk_drewN ?_ _ | refine blk_drew ?_ | refine blk_alloc ?_ _)); refine blk_put (cs := #[.int .i64 t6, .int .i64 t7, .int .i64 t9, .int .i64 0, .int .i64 0]) ?_ 3 _ rfl; (with_reducible repeat (first | refine blk_drewN ?_ _ | refine blk_drew ?_ | refine blk_alloc ?_ _)); refine blk_put (cs := #[.int .i64 t6, .int .i64 t7, .int .i64 0, .int .i64 0, .int .i64 0]) ?_ 2 _ rfl; (with_reducible repeat (first | refine blk_drewN ?_ _ | refine blk_drew ?_ | refine blk_alloc ?_ _)); refine blk_put (cs := #[.int .i64 t6, .int .i64 0, .int .i64 0, .int .i64 0, .int .i64 0]) ?_ 1 _ rfl; (with_reducible repeat (first | refine blk_drewN ?_ _ | refine blk_drew ?_ | refine blk_alloc ?_ _)); refine blk_put (cs := #[.int .i64 0, .int .i64 0, .int .i64 0, .int .i64 0, .int .i64 0]) ?_ 0 _ rfl; (with_reducible repeat (first | refine blk_drewN ?_ _ | refine blk_drew ?_ | refine blk_alloc ?_ _)); exact BK0.out) hb); replace HB := Gv.hb hb; clear hb; obtain ⟨z26_0, z26_1, z26_2, z26_3, z26_4⟩ := Gv.c5 BK0.out; obtain ⟨o26_0, o26_1, o26_2, o26_3, o26_4⟩ := Gv.f5 BK0.out) | ((with_reducible refine gate_dst (N := 9) rfl ?_); refine Gv.bev 9 25 #[.int .i64 0, .int .i64 0, .int .i64 0, .int .i64 0, .int .i64 0, .int .i64 0] ?_; intro gb3 hg w27 hbox hb; replace HO5 := Gv.a0 (Kd.R_below (Gv.kr HO5.out) hb); have BK3 := Gv.a0 (hbox); have GW3 := Gv.a0 ((Gv.ble hg Gv.bw : w.heap.size ≤ gb3)); have GE3 := GW3; replace HB := Gv.hb hb; have NB1_3 := Gv.a0 ((Gv.nlt hg (Gv.kb BK1.out) : gb1 ≠ gb3)); have NB3_1 := Gv.a0 ((Gv.ngt hg (Gv.kb BK1.out) : gb3 ≠ gb1)); replace BK1 := Gv.b1 BK1 hb; have NB0_3 := Gv.a0 ((Gv.nlt hg (Gv.kb BK0.out) : gb0 ≠ gb3)); have NB3_0 := Gv.a0 ((Gv.ngt hg (Gv.kb BK0.out) : gb3 ≠ gb0)); replace BK0 := Gv.b1 BK0 hb; clear hb hbox hg; have hnb28 := NB3_1.out; have hnc28 := NB1_3.out; have hnb29 := NB3_0.out; have hnc29 := NB0_3.out; obtain ⟨z30_0, z30_1, z30_2, z30_3, z30_4, z30_5⟩ := Gv.c6 BK3.out; obtain ⟨o30_0, o30_1, o30_2, o30_3, o30_4, o30_5⟩ := Gv.f6 BK3.out) | (go_at_call 24; (with_reducible refine (spec_PrefixOk.calls k t6 t7 t9 t10 t11 t12 true _ A16.out).mono ?_); rintro e w31 ⟨rfl, hb⟩; replace HO5 := Gv.a0 (Kd.R_below (by (with_reducible repeat (first | apply Kd.R_alloc | apply Kd.R_drewN | apply Kd.R_drew)); exact (Kd.R_mono (Kd.R_far (p := ⟨gb3, 5, none⟩) (Kd.R_far (p := ⟨gb3, 4, none⟩) (Kd.R_far (p := ⟨gb3, 3, none⟩) (Kd.R_far (p := ⟨gb3, 2, none⟩) (Kd.R_far (p := ⟨gb3, 1, none⟩) (Kd.R_far (p := ⟨gb3, 0, none⟩) (Kd.R_types HO5.out BK3.out (by decide)) (fun _ hk => hk.2) (.int .i64 t6)) (fun _ hk => hk.2) (.int .i64 t7)) (fun _ hk => hk.2) (.int .i64 t9)) (fun _ hk => hk.2) (.int .i64 t10)) (fun _ hk => hk.2) (.int .i64 t11)) (fun _ hk => hk.2) (.int .i64 t12)) (fun _ h_ => h_.1))) hb); replace BK1 := Gv.a0 (blk_below (g := gb1) (o := .cells #[.int .i64 0, .int .i64 0, .int .i64 0, .int .i64 0, .int .i64 0, .int .i64 0] 25 (0, 0)) Gv.bkf hb); replace BK0 := Gv.a0 (blk_below (g := gb0) (o := .cells #[.int .i64 t6, .int .i64 t7, .int .i64 t9, .int .i64 t10, .int .i64 t11] 23 (0, 0)) Gv.bkf hb); replace BK3 := Gv.a0 (blk_below (g := gb3) (o := .cells #[.int .i64 t6, .int .i64 t7, .int .i64 t9, .int .i64 t10, .int .i64 t11, .int .i64 t12] 25 (0, 0)) (by (with_reducible repeat (first | refine blk_drewN ?_ _ | refine blk_drew ?_ | refine blk_alloc ?_ _)); refine blk_put (cs := #[.int .i64 t6, .int .i64 t7, .int .i64 t9, .int .i64 t10, .int .i64 t11, .int .i64 0]) ?_ 5 _ rfl; (with_reducible repeat (first | refine blk_drewN ?_ _ | refine blk_drew ?_ | refine blk_alloc ?_ _)); refine blk_put (cs := #[.int .i64 t6, .int .i64 t7, .int .i64 t9, .int .i64 t10, .int .i64 0, .int .i64 0]) ?_ 4 _ rfl; (with_reducible repeat (first | refine blk_drewN ?_ _ | refine blk_drew ?_ | refine blk_alloc ?_ _)); refine blk_put (cs := #[.int .i64 t6, .int .i64 t7, .int .i64 t9, .int .i64 0, .int .i64 0, .int .i64 0]) ?_ 3 _ rfl; (with_reducible repeat (first | refine blk_drewN ?_ _ | refine blk_drew ?_ | refine blk_alloc ?_ _)); refine blk_put (cs := #[.int .i64 t6, .int .i64 t7, .int .i64 0, .int .i64 0, .int .i64 0, .int .i64 0]) ?_ 2 _ rfl; (with_reducible repeat (first | refine blk_drewN ?_ _ | refine blk_drew ?_ | refine blk_alloc ?_ _)); refine blk_put (cs := #[.int .i64 t6, .int .i64 0, .int .i64 0, .int .i64 0, .int .i64 0, .int .i64 0]) ?_ 1 _ rfl; (with_reducible repeat (first | refine blk_drewN ?_ _ | refine blk_drew ?_ | refine blk_alloc ?_ _)); refine blk_put (cs := #[.int .i64 0, .int .i64 0, .int .i64 0, .int .i64 0, .int .i64 0, .int .i64 0]) ?_ 0 _ rfl; (with_reducible repeat (first | refine blk_drewN ?_ _ | refine blk_drew ?_ | refine blk_alloc ?_ _)); exact BK3.out) hb); replace HB := Gv.hb hb; clear hb; obtain ⟨z32_0, z32_1, z32_2, z32_3, z32_4, z32_5⟩ := Gv.c6 BK3.out; obtain ⟨o32_0, o32_1, o32_2, o32_3, o32_4, o32_5⟩ := Gv.f6 BK3.out; obtain ⟨z33_0, z33_1, z33_2, z33_3, z33_4, z33_5⟩ := Gv.c6 BK1.out; obtain ⟨o33_0, o33_1, o33_2, o33_3, o33_4, o33_5⟩ := Gv.f6 BK1.out))
    refine bodyPost_ret (results_ct rfl _ _ gb1 25 #[.int .i64 t6, .int .i64 t7, .int .i64 t9, .int .i64 t10, .int .i64 t11, .int .i64 t12] (0, 0) _ rfl (by (with_reducible repeat (first | refine blk_drewN ?_ _ | refine blk_drew ?_ | refine blk_alloc ?_ _)); refine blk_put (cs := #[.int .i64 t6, .int .i64 t7, .int .i64 t9, .int .i64 t10, .int .i64 t11, .int .i64 0]) ?_ 5 _ rfl; (with_reducible repeat (first | refine blk_drewN ?_ _ | refine blk_drew ?_ | refine blk_alloc ?_ _)); refine blk_put (cs := #[.int .i64 t6, .int .i64 t7, .int .i64 t9, .int .i64 t10, .int .i64 0, .int .i64 0]) ?_ 4 _ rfl; (with_reducible repeat (first | refine blk_drewN ?_ _ | refine blk_drew ?_ | refine blk_alloc ?_ _)); refine blk_put (cs := #[.int .i64 t6, .int .i64 t7, .int .i64 t9, .int .i64 0, .int .i64 0, .int .i64 0]) ?_ 3 _ rfl; (with_reducible repeat (first | refine blk_drewN ?_ _ | refine blk_drew ?_ | refine blk_alloc ?_ _)); refine blk_put (cs := #[.int .i64 t6, .int .i64 t7, .int .i64 0, .int .i64 0, .int .i64 0, .int .i64 0]) ?_ 2 _ rfl; (with_reducible repeat (first | refine blk_drewN ?_ _ | refine blk_drew ?_ | refine blk_alloc ?_ _)); refine blk_put (cs := #[.int .i64 t6, .int .i64 0, .int .i64 0, .int .i64 0, .int .i64 0, .int .i64 0]) ?_ 1 _ rfl; (with_reducible repeat (first | refine blk_drewN ?_ _ | refine blk_drew ?_ | refine blk_alloc ?_ _)); refine blk_put (cs := #[.int .i64 0, .int .i64 0, .int .i64 0, .int .i64 0, .int .i64 0, .int .i64 0]) ?_ 0 _ rfl; (with_reducible repeat (first | refine blk_drewN ?_ _ | refine blk_drew ?_ | refine blk_alloc ?_ _)); exact BK1.out) Tryz.underlying25 rfl (by kernel_rfl)) rfl ?_; exact ⟨Gv.rt, Gv.bw⟩
   ·replace c17 := Bool.eq_false_iff.mpr c17; subst c17; rw [if_neg (show ¬ (false = true) by decide)] at H
    (try dsimp only at H); simp only [Option.some.injEq, Prod.mk.injEq] at H; obtain ⟨rfl, rfl, rfl, rfl, rfl, rfl, rfl⟩ := H
    go_enter Tryz.func9, Tryz.ntmps9
    go_wp2_with (first | ((with_reducible refine gate_dst (N := 2) rfl ?_); refine Gv.bev 2 25 #[.int .i64 0, .int .i64 0, .int .i64 0, .int .i64 0, .int .i64 0, .int .i64 0] ?_; intro gb1 hg w34 hbox hb; have BK1 := Gv.a0 (hbox); have GW1 := Gv.a0 ((Gv.ble hg Gv.bw : w.heap.size ≤ gb1)); have GE1 := GW1; replace HB := Gv.hb hb; clear hb hbox hg) | ((with_reducible refine gate_callee (f := 7) rfl ?_); refine goesL_ (some 18) rfl rfl Tryz.func7 (by kernel_rfl) rfl #[.string a0, .int .u8 47] rfl Gv.lm ?_; (with_reducible refine (spec_l03Group.calls k a0 47 t8 _ A8.out).mono ?_); rintro e w35 ⟨v13, rfl, ho0, hb⟩; refine ⟨_, rfl, ?_⟩; have HO5 := Gv.a0 (Kd.R_lower ho0 (below_size Gv.bw)); replace BK1 := Gv.b1 BK1 hb; replace HB := Gv.hb hb; clear hb ho0; obtain ⟨Ao36, co36, eo36⟩ := Kd.R_slice HO5.out; subst eo36; have p4 : 0 ≤ (0 : Int) := (by omega); have q4 : 0 < (t8.length : Int) := Gv.od; obtain ⟨ad4, e4, u4_0⟩ := Kd.at_string (Kd.R_reads' HO5.out).2.2 0 p4 q4; cases e4; have qi277 : (0 < t8.length) = True := eq_true (by omega); (try rw [show ((0 : Int)).toNat = 0 from rfl] at u4_0); (try rw [Addr.add_zero'] at u4_0); replace p4 := eq_true p4; replace q4 := eq_true q4) | ((with_reducible refine gate_callee (f := 23) rfl ?_); refine goesL_ (some 27) rfl rfl Tryz.func23 (by kernel_rfl) rfl #[.string (rdOf ByteArray.empty t8 0)] rfl Gv.lm ?_; (with_reducible refine (spec_AddrRead.calls k (rdOf ByteArray.empty t8 0) t6 t7 t9 t10 t11 true _ A11.out).mono ?_); rintro e w37 ⟨rfl, hb⟩; refine ⟨_, rfl, ?_⟩; replace HO5 := Gv.a0 (Kd.R_below (Gv.kr HO5.out) hb); replace BK1 := Gv.b1 BK1 hb; replace HB := Gv.hb hb; clear hb) | ((with_reducible refine gate_dst (N := 5) rfl ?_); refine Gv.bev 5 23 #[.int .i64 0, .int .i64 0, .int .i64 0, .int .i64 0, .int .i64 0] ?_; intro gb0 hg w38 hbox hb; replace HO5 := Gv.a0 (Kd.R_below (Gv.kr HO5.out) hb); have BK0 := Gv.a0 (hbox); have GW0 := Gv.a0 ((Gv.ble hg Gv.bw : w.heap.size ≤ gb0)); have GE0 := GW0; replace HB := Gv.hb hb; have NB1_0 := Gv.a0 ((Gv.nlt hg (Gv.kb BK1.out) : gb1 ≠ gb0)); have NB0_1 := Gv.a0 ((Gv.ngt hg (Gv.kb BK1.out) : gb0 ≠ gb1)); replace BK1 := Gv.b1 BK1 hb; clear hb hbox hg; have hnb39 := NB0_1.out; have hnc39 := NB1_0.out; obtain ⟨z40_0, z40_1, z40_2, z40_3, z40_4⟩ := Gv.c5 BK0.out; obtain ⟨o40_0, o40_1, o40_2, o40_3, o40_4⟩ := Gv.f5 BK0.out; have p2 : 0 ≤ (1 : Int) := (by omega); have q2 : 1 < (t8.length : Int) := Gv.od; obtain ⟨ad2, e2, u2_0⟩ := Kd.at_string (Kd.R_reads' HO5.out).2.2 1 p2 q2; obtain rfl : ad4 = ad2 := (by injection e2); (try simp only [show (1 : Int).toNat = 1 from rfl, Nat.reduceMul, Nat.reduceEqDiff, Go.Addr.add, ↓reduceIte] at u2_0); have qi285 : (1 < t8.length) = True := eq_true (by omega); (try rw [show ((1 : Int)).toNat = 1 from rfl] at u2_0); have hn285_0 : ad4.block ≠ gb0 := Kd.own_blk (Kd.R_ne HO5.out BK0.out (by decide)); have hn285_1 : ad4.block ≠ gb0 := Kd.own_blk (Kd.R_ne HO5.out BK0.out (by decide)); have hn285_2 : ad4.block ≠ gb0 := Kd.own_blk (Kd.R_ne HO5.out BK0.out (by decide)); have hn285_3 : ad4.block ≠ gb0 := Kd.own_blk (Kd.R_ne HO5.out BK0.out (by decide)); have hn285_4 : ad4.block ≠ gb0 := Kd.own_blk (Kd.R_ne HO5.out BK0.out (by decide)); replace u2_0 := (cell_far (p := ⟨gb0, 0, none⟩) (by first | (rw [add_block]; exact hn285_0) | (show (Addr.add _ _).block ≠ _; rw [add_block]; exact hn285_0) | exact hn285_0) (.int .i64 t6)).trans u2_0; replace u2_0 := (cell_far (p := ⟨gb0, 1, none⟩) (by first | (rw [add_block]; exact hn285_1) | (show (Addr.add _ _).block ≠ _; rw [add_block]; exact hn285_1) | exact hn285_1) (.int .i64 t7)).trans u2_0; replace u2_0 := (cell_far (p := ⟨gb0, 2, none⟩) (by first | (rw [add_block]; exact hn285_2) | (show (Addr.add _ _).block ≠ _; rw [add_block]; exact hn285_2) | exact hn285_2) (.int .i64 t9)).trans u2_0; replace u2_0 := (cell_far (p := ⟨gb0, 3, none⟩) (by first | (rw [add_block]; exact hn285_3) | (show (Addr.add _ _).block ≠ _; rw [add_block]; exact hn285_3) | exact hn285_3) (.int .i64 t10)).trans u2_0; replace u2_0 := (cell_far (p := ⟨gb0, 4, none⟩) (by first | (rw [add_block]; exact hn285_4) | (show (Addr.add _ _).block ≠ _; rw [add_block]; exact hn285_4) | exact hn285_4) (.int .i64 t11)).trans u2_0; clear hn285_0 hn285_1 hn285_2 hn285_3 hn285_4; replace p2 := eq_true p2; replace q2 := eq_true q2) | ((with_reducible refine gate_callee (f := 8) rfl ?_); refine goesL_ (some 34) rfl rfl Tryz.func8 (by kernel_rfl) rfl #[.string (rdOf ByteArray.empty t8 1)] rfl Gv.lm ?_; (with_reducible refine (spec_NumRead.calls k (rdOf ByteArray.empty t8 1) t12 true _ A13.out).mono ?_); rintro e w41 ⟨rfl, hb⟩; refine ⟨_, rfl, ?_⟩; replace HO5 := Gv.a0 (Kd.R_below (by (with_reducible repeat (first | apply Kd.R_alloc | apply Kd.R_drewN | apply Kd.R_drew)); exact (Kd.R_mono (Kd.R_far (p := ⟨gb0, 4, none⟩) (Kd.R_far (p := ⟨gb0, 3, none⟩) (Kd.R_far (p := ⟨gb0, 2, none⟩) (Kd.R_far (p := ⟨gb0, 1, none⟩) (Kd.R_far (p := ⟨gb0, 0, none⟩) (Kd.R_types HO5.out BK0.out (by decide)) (fun _ hk => hk.2) (.int .i64 t6)) (fun _ hk => hk.2) (.int .i64 t7)) (fun _ hk => hk.2) (.int .i64 t9)) (fun _ hk => hk.2) (.int .i64 t10)) (fun _ hk => hk.2) (.int .i64 t11)) (fun _ h_ => h_.1))) hb); replace BK1 := Gv.a0 (blk_below (g := gb1) (o := .cells #[.int .i64 0, .int .i64 0, .int .i64 0, .int .i64 0, .int .i64 0, .int .i64 0] 25 (0, 0)) Gv.bkf hb); replace BK0 := Gv.a0 (blk_below (g := gb0) (o := .cells #[.int .i64 t6, .int .i64 t7, .int .i64 t9, .int .i64 t10, .int .i64 t11] 23 (0, 0)) (by (with_reducible repeat (first | refine blk_drewN ?_ _ | refine blk_drew ?_ | refine blk_alloc ?_ _)); refine blk_put (cs := #[.int .i64 t6, .int .i64 t7, .int .i64 t9, .int .i64 t10, .int .i64 0]) ?_ 4 _ rfl; (with_reducible repeat (first | refine blk_drewN ?_ _ | refine blk_drew ?_ | refine blk_alloc ?_ _)); refine blk_put (cs := #[.int .i64 t6, .int .i64 t7, .int .i64 t9, .int .i64 0, .int .i64 0]) ?_ 3 _ rfl; (with_reducible repeat (first | refine blk_drewN ?_ _ | refine blk_drew ?_ | refine blk_alloc ?_ _)); refine blk_put (cs := #[.int .i64 t6, .int .i64 t7, .int .i64 0, .int .i64 0, .int .i64 0]) ?_ 2 _ rfl; (with_reducible repeat (first | refine blk_drewN ?_ _ | refine blk_drew ?_ | refine blk_alloc ?_ _)); refine blk_put (cs := #[.int .i64 t6, .int .i64 0, .int .i64 0, .int .i64 0, .int .i64 0]) ?_ 1 _ rfl; (with_reducible repeat (first | refine blk_drewN ?_ _ | refine blk_drew ?_ | refine blk_alloc ?_ _)); refine blk_put (cs := #[.int .i64 0, .int .i64 0, .int .i64 0, .int .i64 0, .int .i64 0]) ?_ 0 _ rfl; (with_reducible repeat (first | refine blk_drewN ?_ _ | refine blk_drew ?_ | refine blk_alloc ?_ _)); exact BK0.out) hb); replace HB := Gv.hb hb; clear hb; obtain ⟨z42_0, z42_1, z42_2, z42_3, z42_4⟩ := Gv.c5 BK0.out; obtain ⟨o42_0, o42_1, o42_2, o42_3, o42_4⟩ := Gv.f5 BK0.out) | ((with_reducible refine gate_dst (N := 9) rfl ?_); refine Gv.bev 9 25 #[.int .i64 0, .int .i64 0, .int .i64 0, .int .i64 0, .int .i64 0, .int .i64 0] ?_; intro gb3 hg w43 hbox hb; replace HO5 := Gv.a0 (Kd.R_below (Gv.kr HO5.out) hb); have BK3 := Gv.a0 (hbox); have GW3 := Gv.a0 ((Gv.ble hg Gv.bw : w.heap.size ≤ gb3)); have GE3 := GW3; replace HB := Gv.hb hb; have NB1_3 := Gv.a0 ((Gv.nlt hg (Gv.kb BK1.out) : gb1 ≠ gb3)); have NB3_1 := Gv.a0 ((Gv.ngt hg (Gv.kb BK1.out) : gb3 ≠ gb1)); replace BK1 := Gv.b1 BK1 hb; have NB0_3 := Gv.a0 ((Gv.nlt hg (Gv.kb BK0.out) : gb0 ≠ gb3)); have NB3_0 := Gv.a0 ((Gv.ngt hg (Gv.kb BK0.out) : gb3 ≠ gb0)); replace BK0 := Gv.b1 BK0 hb; clear hb hbox hg; have hnb44 := NB3_1.out; have hnc44 := NB1_3.out; have hnb45 := NB3_0.out; have hnc45 := NB0_3.out; obtain ⟨z46_0, z46_1, z46_2, z46_3, z46_4, z46_5⟩ := Gv.c6 BK3.out; obtain ⟨o46_0, o46_1, o46_2, o46_3, o46_4, o46_5⟩ := Gv.f6 BK3.out) | (go_at_call 24; (with_reducible refine (spec_PrefixOk.calls k t6 t7 t9 t10 t11 t12 false _ A16.out).mono ?_); rintro e w47 ⟨rfl, hb⟩; replace HO5 := Gv.a0 (Kd.R_below (by (with_reducible repeat (first | apply Kd.R_alloc | apply Kd.R_drewN | apply Kd.R_drew)); exact (Kd.R_mono (Kd.R_far (p := ⟨gb3, 5, none⟩) (Kd.R_far (p := ⟨gb3, 4, none⟩) (Kd.R_far (p := ⟨gb3, 3, none⟩) (Kd.R_far (p := ⟨gb3, 2, none⟩) (Kd.R_far (p := ⟨gb3, 1, none⟩) (Kd.R_far (p := ⟨gb3, 0, none⟩) (Kd.R_types HO5.out BK3.out (by decide)) (fun _ hk => hk.2) (.int .i64 t6)) (fun _ hk => hk.2) (.int .i64 t7)) (fun _ hk => hk.2) (.int .i64 t9)) (fun _ hk => hk.2) (.int .i64 t10)) (fun _ hk => hk.2) (.int .i64 t11)) (fun _ hk => hk.2) (.int .i64 t12)) (fun _ h_ => h_.1))) hb); replace BK1 := Gv.a0 (blk_below (g := gb1) (o := .cells #[.int .i64 0, .int .i64 0, .int .i64 0, .int .i64 0, .int .i64 0, .int .i64 0] 25 (0, 0)) Gv.bkf hb); replace BK0 := Gv.a0 (blk_below (g := gb0) (o := .cells #[.int .i64 t6, .int .i64 t7, .int .i64 t9, .int .i64 t10, .int .i64 t11] 23 (0, 0)) Gv.bkf hb); replace BK3 := Gv.a0 (blk_below (g := gb3) (o := .cells #[.int .i64 t6, .int .i64 t7, .int .i64 t9, .int .i64 t10, .int .i64 t11, .int .i64 t12] 25 (0, 0)) (by (with_reducible repeat (first | refine blk_drewN ?_ _ | refine blk_drew ?_ | refine blk_alloc ?_ _)); refine blk_put (cs := #[.int .i64 t6, .int .i64 t7, .int .i64 t9, .int .i64 t10, .int .i64 t11, .int .i64 0]) ?_ 5 _ rfl; (with_reducible repeat (first | refine blk_drewN ?_ _ | refine blk_drew ?_ | refine blk_alloc ?_ _)); refine blk_put (cs := #[.int .i64 t6, .int .i64 t7, .int .i64 t9, .int .i64 t10, .int .i64 0, .int .i64 0]) ?_ 4 _ rfl; (with_reducible repeat (first | refine blk_drewN ?_ _ | refine blk_drew ?_ | refine blk_alloc ?_ _)); refine blk_put (cs := #[.int .i64 t6, .int .i64 t7, .int .i64 t9, .int .i64 0, .int .i64 0, .int .i64 0]) ?_ 3 _ rfl; (with_reducible repeat (first | refine blk_drewN ?_ _ | refine blk_drew ?_ | refine blk_alloc ?_ _)); refine blk_put (cs := #[.int .i64 t6, .int .i64 t7, .int .i64 0, .int .i64 0, .int .i64 0, .int .i64 0]) ?_ 2 _ rfl; (with_reducible repeat (first | refine blk_drewN ?_ _ | refine blk_drew ?_ | refine blk_alloc ?_ _)); refine blk_put (cs := #[.int .i64 t6, .int .i64 0, .int .i64 0, .int .i64 0, .int .i64 0, .int .i64 0]) ?_ 1 _ rfl; (with_reducible repeat (first | refine blk_drewN ?_ _ | refine blk_drew ?_ | refine blk_alloc ?_ _)); refine blk_put (cs := #[.int .i64 0, .int .i64 0, .int .i64 0, .int .i64 0, .int .i64 0, .int .i64 0]) ?_ 0 _ rfl; (with_reducible repeat (first | refine blk_drewN ?_ _ | refine blk_drew ?_ | refine blk_alloc ?_ _)); exact BK3.out) hb); replace HB := Gv.hb hb; clear hb; obtain ⟨z48_0, z48_1, z48_2, z48_3, z48_4, z48_5⟩ := Gv.c6 BK1.out; obtain ⟨o48_0, o48_1, o48_2, o48_3, o48_4, o48_5⟩ := Gv.f6 BK1.out))
    refine bodyPost_ret (results_ct rfl _ _ gb1 25 #[.int .i64 0, .int .i64 0, .int .i64 0, .int .i64 0, .int .i64 0, .int .i64 0] (0, 0) _ rfl (by (with_reducible repeat (first | refine blk_drewN ?_ _ | refine blk_drew ?_ | refine blk_alloc ?_ _)); refine blk_put (cs := #[.int .i64 0, .int .i64 0, .int .i64 0, .int .i64 0, .int .i64 0, .int .i64 0]) ?_ 5 _ rfl; (with_reducible repeat (first | refine blk_drewN ?_ _ | refine blk_drew ?_ | refine blk_alloc ?_ _)); refine blk_put (cs := #[.int .i64 0, .int .i64 0, .int .i64 0, .int .i64 0, .int .i64 0, .int .i64 0]) ?_ 4 _ rfl; (with_reducible repeat (first | refine blk_drewN ?_ _ | refine blk_drew ?_ | refine blk_alloc ?_ _)); refine blk_put (cs := #[.int .i64 0, .int .i64 0, .int .i64 0, .int .i64 0, .int .i64 0, .int .i64 0]) ?_ 3 _ rfl; (with_reducible repeat (first | refine blk_drewN ?_ _ | refine blk_drew ?_ | refine blk_alloc ?_ _)); refine blk_put (cs := #[.int .i64 0, .int .i64 0, .int .i64 0, .int .i64 0, .int .i64 0, .int .i64 0]) ?_ 2 _ rfl; (with_reducible repeat (first | refine blk_drewN ?_ _ | refine blk_drew ?_ | refine blk_alloc ?_ _)); refine blk_put (cs := #[.int .i64 0, .int .i64 0, .int .i64 0, .int .i64 0, .int .i64 0, .int .i64 0]) ?_ 1 _ rfl; (with_reducible repeat (first | refine blk_drewN ?_ _ | refine blk_drew ?_ | refine blk_alloc ?_ _)); refine blk_put (cs := #[.int .i64 0, .int .i64 0, .int .i64 0, .int .i64 0, .int .i64 0, .int .i64 0]) ?_ 0 _ rfl; (with_reducible repeat (first | refine blk_drewN ?_ _ | refine blk_drew ?_ | refine blk_alloc ?_ _)); exact BK1.out) Tryz.underlying25 rfl (by kernel_rfl)) rfl ?_; exact ⟨Gv.rt, Gv.bw⟩
/-! ### spec_l09Two: function 10 -/
def spec_l09Two.f (k : Nat) (a0 : ByteArray) : Option (Int × Int × Bool) := (spec_l03Group.f k a0 45).bind fun t290 => (if (t290.length : Int) = 2 then (if 0 < (t290.length : Int) then ((spec_NumRead.f k (rdOf ByteArray.empty t290 0)).bind fun bt294 => (if 1 < (t290.length : Int) then ((spec_NumRead.f k (rdOf ByteArray.empty t290 1)).bind fun bt297 => (if bt294.2 = true then (some (bt294.1, bt297.1, bt297.2)) else (some (bt294.1, bt297.1, false)))) else (none))) else (none)) else (some (0, 0, false)))
set_option maxHeartbeats 8000000 in
set_option maxRecDepth 100000 in
theorem spec_l09Two.calls (k : Nat) (a0 : ByteArray) (r1 : Int) (r2 : Int) (r3 : Bool) (w : World) (h : spec_l09Two.f k a0 = some (r1, r2, r3)) :
  Calls Tryz.prog 10 #[.string a0] w fun e w' => e = .returned (.tuple #[.int .i64 r1, .int .i64 r2, .bool r3]) ∧ Below w.heap.size w w' := by
 have HB := Gv.a0 (Below.refl w.heap.size w); unfold spec_l09Two.f at h; have H := h; clear h; replace H := Option.bind_eq_some_iff.mp H; obtain ⟨t2, A20, H⟩ := H
 (try dsimp only at H); have A2 := Gv.a0 A20; clear A20
 by_cases c3 : (t2.length : Int) = 2
 rotate_left
 ·rw [if_neg c3] at H; have c3b0 : ((t2.length : Int) == 2) = false := beq_eq_false_iff_ne.mpr c3; have c3b1 : ((t2.length : Int) != 2) = true := bne_iff_ne.mpr c3; simp only [Option.some.injEq, Prod.mk.injEq] at H; obtain ⟨rfl, rfl, rfl⟩ := H
  go_enter Tryz.func10, Tryz.ntmps10
  go_wp2_with (first | ((with_reducible refine gate_callee (f := 7) rfl ?_); refine goesL_ (some 11) rfl rfl Tryz.func7 (by kernel_rfl) rfl #[.string a0, .int .u8 45] rfl Gv.lm ?_; (with_reducible refine (spec_l03Group.calls k a0 45 t2 _ A2.out).mono ?_); rintro e w17 ⟨v4, rfl, ho0, hb⟩; refine ⟨_, rfl, ?_⟩; have HO3 := Gv.a0 (Kd.R_lower ho0 (below_size Gv.bw)); replace HB := Gv.hb hb; clear hb ho0; obtain ⟨Ao18, co18, eo18⟩ := Kd.R_slice HO3.out; subst eo18))
  go_ret3
  exact ⟨Gv.rt, Gv.bw⟩

 rw [if_pos c3] at H; have c3b0 : ((t2.length : Int) == 2) = true := beq_iff_eq.mpr c3; have c3b1 : ((t2.length : Int) != 2) = false := bne_eq_false_iff_eq.mpr c3; clear c3
 by_cases c4 : 0 < (t2.length : Int)
 rotate_left
 ·rw [if_neg c4] at H; cases H
 rw [if_pos c4] at H; have c4b0 := decide_eq_true c4; have c4b1 : decide (0 < t2.length) = true := decide_eq_true (by omega); clear c4; replace H := Option.bind_eq_some_iff.mp H; obtain ⟨⟨t5, t8⟩, A50, H⟩ := H
 (try dsimp only at H); have A5 := Gv.a0 A50; clear A50
 by_cases c6 : 1 < (t2.length : Int)
 rotate_left
 ·rw [if_neg c6] at H; cases H
 rw [if_pos c6] at H; have c6b0 := decide_eq_true c6; have c6b1 : decide (1 < t2.length) = true := decide_eq_true (by omega); clear c6; replace H := Option.bind_eq_some_iff.mp H; obtain ⟨⟨t6, t7⟩, A70, H⟩ := H
 (try dsimp only at H); have A7 := Gv.a0 A70; clear A70
 by_cases c8 : t8 = true
 ·subst c8; rw [if_pos rfl] at H
  (try dsimp only at H); simp only [Option.some.injEq, Prod.mk.injEq] at H; obtain ⟨rfl, rfl, rfl⟩ := H
  go_enter Tryz.func10, Tryz.ntmps10
  go_wp2_with (first | ((with_reducible refine gate_callee (f := 7) rfl ?_); refine goesL_ (some 11) rfl rfl Tryz.func7 (by kernel_rfl) rfl #[.string a0, .int .u8 45] rfl Gv.lm ?_; (with_reducible refine (spec_l03Group.calls k a0 45 t2 _ A2.out).mono ?_); rintro e w9 ⟨v4, rfl, ho0, hb⟩; refine ⟨_, rfl, ?_⟩; have HO3 := Gv.a0 (Kd.R_lower ho0 (below_size Gv.bw)); replace HB := Gv.hb hb; clear hb ho0; obtain ⟨Ao10, co10, eo10⟩ := Kd.R_slice HO3.out; subst eo10; have p0 : 0 ≤ (0 : Int) := (by omega); have q0 : 0 < (t2.length : Int) := Gv.od; obtain ⟨ad0, e0, u0_0⟩ := Kd.at_string (Kd.R_reads' HO3.out).2.2 0 p0 q0; cases e0; have qi293 : (0 < t2.length) = True := eq_true (by omega); (try rw [show ((0 : Int)).toNat = 0 from rfl] at u0_0); (try rw [Addr.add_zero'] at u0_0); replace p0 := eq_true p0; replace q0 := eq_true q0) | ((with_reducible refine gate_callee (f := 8) rfl ?_); refine goesL_ (some 19) rfl rfl Tryz.func8 (by kernel_rfl) rfl #[.string (rdOf ByteArray.empty t2 0)] rfl Gv.lm ?_; (with_reducible refine (spec_NumRead.calls k (rdOf ByteArray.empty t2 0) t5 true _ A5.out).mono ?_); rintro e w11 ⟨rfl, hb⟩; refine ⟨_, rfl, ?_⟩; replace HO3 := Gv.a0 (Kd.R_below (Gv.kr HO3.out) hb); replace HB := Gv.hb hb; clear hb; have p1 : 0 ≤ (1 : Int) := (by omega); have q1 : 1 < (t2.length : Int) := Gv.od; obtain ⟨ad1, e1, u1_0⟩ := Kd.at_string (Kd.R_reads' HO3.out).2.2 1 p1 q1; obtain rfl : ad0 = ad1 := (by injection e1); (try simp only [show (1 : Int).toNat = 1 from rfl, Nat.reduceMul, Nat.reduceEqDiff, Go.Addr.add, ↓reduceIte] at u1_0); have qi296 : (1 < t2.length) = True := eq_true (by omega); (try rw [show ((1 : Int)).toNat = 1 from rfl] at u1_0); replace p1 := eq_true p1; replace q1 := eq_true q1) | ((with_reducible refine gate_callee (f := 8) rfl ?_); refine goesL_ (some 26) rfl rfl Tryz.func8 (by kernel_rfl) rfl #[.string (rdOf ByteArray.empty t2 1)] rfl Gv.lm ?_; (with_reducible refine (spec_NumRead.calls k (rdOf ByteArray.empty t2 1) t6 t7 _ A7.out).mono ?_); rintro e w12 ⟨rfl, hb⟩; refine ⟨_, rfl, ?_⟩; replace HO3 := Gv.a0 (Kd.R_below (Gv.kr HO3.out) hb); replace HB := Gv.hb hb; clear hb))
  go_ret3
  exact ⟨Gv.rt, Gv.bw⟩
 ·replace c8 := Bool.eq_false_iff.mpr c8; subst c8; rw [if_neg (show ¬ (false = true) by decide)] at H
  (try dsimp only at H); simp only [Option.some.injEq, Prod.mk.injEq] at H; obtain ⟨rfl, rfl, rfl⟩ := H
  go_enter Tryz.func10, Tryz.ntmps10
  go_wp2_with (first | ((with_reducible refine gate_callee (f := 7) rfl ?_); refine goesL_ (some 11) rfl rfl Tryz.func7 (by kernel_rfl) rfl #[.string a0, .int .u8 45] rfl Gv.lm ?_; (with_reducible refine (spec_l03Group.calls k a0 45 t2 _ A2.out).mono ?_); rintro e w13 ⟨v4, rfl, ho0, hb⟩; refine ⟨_, rfl, ?_⟩; have HO3 := Gv.a0 (Kd.R_lower ho0 (below_size Gv.bw)); replace HB := Gv.hb hb; clear hb ho0; obtain ⟨Ao14, co14, eo14⟩ := Kd.R_slice HO3.out; subst eo14; have p0 : 0 ≤ (0 : Int) := (by omega); have q0 : 0 < (t2.length : Int) := Gv.od; obtain ⟨ad0, e0, u0_0⟩ := Kd.at_string (Kd.R_reads' HO3.out).2.2 0 p0 q0; cases e0; have qi293 : (0 < t2.length) = True := eq_true (by omega); (try rw [show ((0 : Int)).toNat = 0 from rfl] at u0_0); (try rw [Addr.add_zero'] at u0_0); replace p0 := eq_true p0; replace q0 := eq_true q0) | ((with_reducible refine gate_callee (f := 8) rfl ?_); refine goesL_ (some 19) rfl rfl Tryz.func8 (by kernel_rfl) rfl #[.string (rdOf ByteArray.empty t2 0)] rfl Gv.lm ?_; (with_reducible refine (spec_NumRead.calls k (rdOf ByteArray.empty t2 0) t5 false _ A5.out).mono ?_); rintro e w15 ⟨rfl, hb⟩; refine ⟨_, rfl, ?_⟩; replace HO3 := Gv.a0 (Kd.R_below (Gv.kr HO3.out) hb); replace HB := Gv.hb hb; clear hb; have p1 : 0 ≤ (1 : Int) := (by omega); have q1 : 1 < (t2.length : Int) := Gv.od; obtain ⟨ad1, e1, u1_0⟩ := Kd.at_string (Kd.R_reads' HO3.out).2.2 1 p1 q1; obtain rfl : ad0 = ad1 := (by injection e1); (try simp only [show (1 : Int).toNat = 1 from rfl, Nat.reduceMul, Nat.reduceEqDiff, Go.Addr.add, ↓reduceIte] at u1_0); have qi296 : (1 < t2.length) = True := eq_true (by omega); (try rw [show ((1 : Int)).toNat = 1 from rfl] at u1_0); replace p1 := eq_true p1; replace q1 := eq_true q1) | ((with_reducible refine gate_callee (f := 8) rfl ?_); refine goesL_ (some 26) rfl rfl Tryz.func8 (by kernel_rfl) rfl #[.string (rdOf ByteArray.empty t2 1)] rfl Gv.lm ?_; (with_reducible refine (spec_NumRead.calls k (rdOf ByteArray.empty t2 1) t6 t7 _ A7.out).mono ?_); rintro e w16 ⟨rfl, hb⟩; refine ⟨_, rfl, ?_⟩; replace HO3 := Gv.a0 (Kd.R_below (Gv.kr HO3.out) hb); replace HB := Gv.hb hb; clear hb))
  go_ret3
  exact ⟨Gv.rt, Gv.bw⟩
/-! ### spec_l09Range: function 25 -/
def spec_l09Range.f (a0 : Int) (a1 : Int) : Option (Bool) := if 0 ≤ a0 then (if a0 ≤ a1 then (some (decide (a1 ≤ 65535))) else (some false)) else (some false)
set_option maxHeartbeats 8000000 in
set_option maxRecDepth 100000 in
theorem spec_l09Range.calls (a0 : Int) (a1 : Int) (r : Bool) (w : World) (h : spec_l09Range.f a0 a1 = some r) :
  Calls Tryz.prog 25 #[.int .i64 a0, .int .i64 a1] w fun e w' => e = .returned (.bool r) ∧ Drawn0 w w' := by
 unfold spec_l09Range.f at h; have H := h; clear h
 by_cases c3 : 0 ≤ a0
 rotate_left
 ·rw [if_neg c3] at H; have c3b0 := decide_eq_false c3; clear c3; obtain rfl := Option.some.inj H
  go_enter Tryz.func25, Tryz.ntmps25
  go_wp2
  go_ret
  exact ⟨by first | rfl | (simp; done) | (simp [Int.tdiv_eq_ediv_of_nonneg]; done) | (simp [*]; done), by repeat (first | exact Drawn0.refl _ | apply Drawn0.step)⟩

 rw [if_pos c3] at H; have c3b0 := decide_eq_true c3; clear c3
 by_cases c4 : a0 ≤ a1
 ·rw [if_pos c4] at H; have c4b0 := decide_eq_true c4; clear c4; obtain rfl := Option.some.inj H
  go_enter Tryz.func25, Tryz.ntmps25
  go_wp2
  go_ret
  exact ⟨by first | rfl | (simp; done) | (simp [Int.tdiv_eq_ediv_of_nonneg]; done) | (simp [*]; done), by repeat (first | exact Drawn0.refl _ | apply Drawn0.step)⟩
 ·rw [if_neg c4] at H; have c4b0 := decide_eq_false c4; clear c4; obtain rfl := Option.some.inj H
  go_enter Tryz.func25, Tryz.ntmps25
  go_wp2
  go_ret
  exact ⟨by first | rfl | (simp; done) | (simp [Int.tdiv_eq_ediv_of_nonneg]; done) | (simp [*]; done), by repeat (first | exact Drawn0.refl _ | apply Drawn0.step)⟩
/-! ### spec_RuleOk: function 11 -/
def spec_RuleOk.j0 : Nat → Bool → Int → Int → Int → Int → Int → Int → Int → Int → Int → Int → Int → Int → Int → Int → Int → Int → Int → Int → Int → Int → Int → Option (Bool)
 | 0, _, _, _, _, _, _, _, _, _, _, _, _, _, _, _, _, _, _, _, _, _, _ => none
 | k + 1, x32, x300000, x300001, x300002, x300003, x300004, x300005, x300006, x300007, x300008, x300009, x300010, x300011, x300012, x300013, x300014, x300015, x300016, x300017, x300018, x300019, x300020 => if x32 = true then (some false) else ((spec_l09Range.f x300014 x300015).bind fun t302 => (if t302 = true then ((spec_l09Range.f x300016 x300017).bind fun t303 => (if t303 = true then (if x300018 ≥ 1 then (if x300018 ≤ 8 then (if x300019 ≥ 1 then (if x300019 ≤ 10 then (if x300020 ≥ 1 then (some (decide (x300020 ≤ 8))) else (some false)) else (some false)) else (some false)) else (some false)) else (some false)) else (some false))) else (some false)))
def spec_RuleOk.f (k : Nat) (a0_0 : Int) (a0_1 : Int) (a0_2 : Int) (a0_3 : Int) (a0_4 : Int) (a0_5 : Int) (a0_6 : Int) (a0_7 : Int) (a0_8 : Int) (a0_9 : Int) (a0_10 : Int) (a0_11 : Int) (a0_12 : Int) (a0_13 : Int) (a0_14 : Int) (a0_15 : Int) (a0_16 : Int) (a0_17 : Int) (a0_18 : Int) (a0_19 : Int) (a0_20 : Int) : Option (Bool) := if a0_0 < 1 then (spec_RuleOk.j0 k true a0_0 a0_1 a0_2 a0_3 a0_4 a0_5 a0_6 a0_7 a0_8 a0_9 a0_10 a0_11 a0_12 a0_13 a0_14 a0_15 a0_16 a0_17 a0_18 a0_19 a0_20) else (if a0_0 > 9999 then (spec_RuleOk.j0 k true a0_0 a0_1 a0_2 a0_3 a0_4 a0_5 a0_6 a0_7 a0_8 a0_9 a0_10 a0_11 a0_12 a0_13 a0_14 a0_15 a0_16 a0_17 a0_18 a0_19 a0_20) else ((spec_PrefixOk.f k a0_1 a0_2 a0_3 a0_4 a0_5 a0_6).bind fun t300 => (if t300 = true then ((spec_PrefixOk.f k a0_7 a0_8 a0_9 a0_10 a0_11 a0_12).bind fun t301 => (if t301 = true then (if a0_13 < (-1) then (spec_RuleOk.j0 k true a0_0 a0_1 a0_2 a0_3 a0_4 a0_5 a0_6 a0_7 a0_8 a0_9 a0_10 a0_11 a0_12 a0_13 a0_14 a0_15 a0_16 a0_17 a0_18 a0_19 a0_20) else (spec_RuleOk.j0 k (decide (a0_13 > 255)) a0_0 a0_1 a0_2 a0_3 a0_4 a0_5 a0_6 a0_7 a0_8 a0_9 a0_10 a0_11 a0_12 a0_13 a0_14 a0_15 a0_16 a0_17 a0_18 a0_19 a0_20)) else (spec_RuleOk.j0 k true a0_0 a0_1 a0_2 a0_3 a0_4 a0_5 a0_6 a0_7 a0_8 a0_9 a0_10 a0_11 a0_12 a0_13 a0_14 a0_15 a0_16 a0_17 a0_18 a0_19 a0_20))) else (spec_RuleOk.j0 k true a0_0 a0_1 a0_2 a0_3 a0_4 a0_5 a0_6 a0_7 a0_8 a0_9 a0_10 a0_11 a0_12 a0_13 a0_14 a0_15 a0_16 a0_17 a0_18 a0_19 a0_20))))
set_option maxHeartbeats 8000000 in
set_option maxRecDepth 100000 in
theorem spec_RuleOk.calls (k : Nat) (a0_0 : Int) (a0_1 : Int) (a0_2 : Int) (a0_3 : Int) (a0_4 : Int) (a0_5 : Int) (a0_6 : Int) (a0_7 : Int) (a0_8 : Int) (a0_9 : Int) (a0_10 : Int) (a0_11 : Int) (a0_12 : Int) (a0_13 : Int) (a0_14 : Int) (a0_15 : Int) (a0_16 : Int) (a0_17 : Int) (a0_18 : Int) (a0_19 : Int) (a0_20 : Int) (r : Bool) (w : World) (h : spec_RuleOk.f k a0_0 a0_1 a0_2 a0_3 a0_4 a0_5 a0_6 a0_7 a0_8 a0_9 a0_10 a0_11 a0_12 a0_13 a0_14 a0_15 a0_16 a0_17 a0_18 a0_19 a0_20 = some r) :
  Calls Tryz.prog 11 #[.agg #[.int .i64 a0_0, .int .i64 a0_1, .int .i64 a0_2, .int .i64 a0_3, .int .i64 a0_4, .int .i64 a0_5, .int .i64 a0_6, .int .i64 a0_7, .int .i64 a0_8, .int .i64 a0_9, .int .i64 a0_10, .int .i64 a0_11, .int .i64 a0_12, .int .i64 a0_13, .int .i64 a0_14, .int .i64 a0_15, .int .i64 a0_16, .int .i64 a0_17, .int .i64 a0_18, .int .i64 a0_19, .int .i64 a0_20]] w fun e w' => e = .returned (.bool r) ∧ Below w.heap.size w w' := by
 have hu27 := Tryz.underlying27; have hu25 := Tryz.underlying25; have HB := Gv.a0 (Below.refl w.heap.size w); unfold spec_RuleOk.f at h; have H := h; clear h; have HC2 := Gv.a0 H; clear H
 go_enter Tryz.func11, Tryz.ntmps11
 go_upto_region 1 with (first | ((with_reducible refine gate_dst (N := 1) rfl ?_); refine Gv.bev 1 27 #[.int .i64 a0_0, .int .i64 a0_1, .int .i64 a0_2, .int .i64 a0_3, .int .i64 a0_4, .int .i64 a0_5, .int .i64 a0_6, .int .i64 a0_7, .int .i64 a0_8, .int .i64 a0_9, .int .i64 a0_10, .int .i64 a0_11, .int .i64 a0_12, .int .i64 a0_13, .int .i64 a0_14, .int .i64 a0_15, .int .i64 a0_16, .int .i64 a0_17, .int .i64 a0_18, .int .i64 a0_19, .int .i64 a0_20] ?_; intro gb0 hg w3 hbox hb; have BK0 := Gv.a0 (hbox); have GW0 := Gv.a0 ((Gv.ble hg Gv.bw : w.heap.size ≤ gb0)); have GE0 := GW0; replace HB := Gv.hb hb; clear hb hbox hg) | ((with_reducible refine gate_store (t := 27) (p := 1) rfl ?_); refine Gv.store_event rfl rfl rfl rfl rfl (Gv.kb BK0.out) (by kernel_rfl) rfl (by simp; and_intros <;> rfl) ?_; intro w3s hbox hoth hbel; replace BK0 := Gv.a0 (hbox); replace HB := Gv.a0 (hbel w Gv.bw GE0.out); clear hbox hoth hbel) | ((with_reducible refine Gv.gate_load (t := 27) rfl ?_); (try (refine gate_guard (by rfl) ?_; dsimp only)); refine wpList_load_row rfl 27 _ rfl gb0 rfl 27 _ _ _ (Gv.k01 BK0.out) Tryz.underlying27 rfl (by kernel_rfl) ?_))
 (try simp only [Act.put, List.setIfInBounds_toArray, List.set_cons_zero, List.set_cons_succ])
 go_cut [32] (fun v32 wc => ∃ (kq : Nat) (x32_1 : Bool), v32 = .bool x32_1 ∧ Aside0 (spec_RuleOk.j0 kq x32_1 a0_0 a0_1 a0_2 a0_3 a0_4 a0_5 a0_6 a0_7 a0_8 a0_9 a0_10 a0_11 a0_12 a0_13 a0_14 a0_15 a0_16 a0_17 a0_18 a0_19 a0_20 = some r) ∧ Aside0 (kq ≤ k) ∧ Aside0 (wc.heap[gb0]? = some (.cells #[.int .i64 a0_0, .int .i64 a0_1, .int .i64 a0_2, .int .i64 a0_3, .int .i64 a0_4, .int .i64 a0_5, .int .i64 a0_6, .int .i64 a0_7, .int .i64 a0_8, .int .i64 a0_9, .int .i64 a0_10, .int .i64 a0_11, .int .i64 a0_12, .int .i64 a0_13, .int .i64 a0_14, .int .i64 a0_15, .int .i64 a0_16, .int .i64 a0_17, .int .i64 a0_18, .int .i64 a0_19, .int .i64 a0_20] 27 (0, 0))) ∧ Aside0 (Below w.heap.size w wc))
 case first =>
  have H := HC2.out; clear HC2
  by_cases c4 : a0_0 < 1
  ·rw [if_pos c4] at H; have c4b0 := decide_eq_true c4; clear c4
   (first | rw [c4b0] | (simp only [i64_w, i32_w]; rw [c4b0]) | skip); have H' := Gv.a0 H; clear H; obtain ⟨z5_0, z5_1, z5_2, z5_3, z5_4, z5_5, z5_6, z5_7, z5_8, z5_9, z5_10, z5_11, z5_12, z5_13, z5_14, z5_15, z5_16, z5_17, z5_18, z5_19, z5_20⟩ := Gv.c21 BK0.out
   go_wp2_with (first | ((with_reducible refine Gv.gate_load (t := 27) rfl ?_); (try (refine gate_guard (by rfl) ?_; dsimp only)); refine wpList_load_row rfl 27 _ rfl gb0 rfl 27 _ _ _ (Gv.k01 BK0.out) Tryz.underlying27 rfl (by kernel_rfl) ?_))
   go_meet
   case rel => exact ⟨_, (true), Gv.rq, H', ⟨by first | omega | exact Nat.le_refl _⟩, ⟨by (with_reducible repeat (first | refine blk_drewN ?_ _ | refine blk_drew ?_ | refine blk_alloc ?_ _)); exact BK0.out⟩, ⟨Gv.bw⟩⟩
  ·rw [if_neg c4] at H; have c4b0 := decide_eq_false c4; clear c4
   (first | rw [c4b0] | (simp only [i64_w, i32_w]; rw [c4b0]) | skip)
   by_cases c6 : a0_0 > 9999
   ·rw [if_pos c6] at H; have c6b0 : decide (9999 < a0_0) = true := decide_eq_true c6; clear c6; have H' := Gv.a0 H; clear H; obtain ⟨z7_0, z7_1, z7_2, z7_3, z7_4, z7_5, z7_6, z7_7, z7_8, z7_9, z7_10, z7_11, z7_12, z7_13, z7_14, z7_15, z7_16, z7_17, z7_18, z7_19, z7_20⟩ := Gv.c21 BK0.out
    go_wp2_with (first | ((with_reducible refine Gv.gate_load (t := 27) rfl ?_); (try (refine gate_guard (by rfl) ?_; dsimp only)); refine wpList_load_row rfl 27 _ rfl gb0 rfl 27 _ _ _ (Gv.k01 BK0.out) Tryz.underlying27 rfl (by kernel_rfl) ?_))
    go_meet
    case rel => exact ⟨_, (true), Gv.rq, H', ⟨by first | omega | exact Nat.le_refl _⟩, ⟨by (with_reducible repeat (first | refine blk_drewN ?_ _ | refine blk_drew ?_ | refine blk_alloc ?_ _)); exact BK0.out⟩, ⟨Gv.bw⟩⟩
   ·rw [if_neg c6] at H; have c6b0 : decide (9999 < a0_0) = false := decide_eq_false c6; clear c6; replace H := Option.bind_eq_some_iff.mp H; obtain ⟨t1, A80, H⟩ := H
    (try dsimp only at H); have A8 := Gv.a0 A80; clear A80
    by_cases c9 : t1 = true
    rotate_left
    ·replace c9 := Bool.eq_false_iff.mpr c9; subst c9; rw [if_neg (show ¬ (false = true) by decide)] at H
     (try dsimp only at H); have H' := Gv.a0 H; clear H; obtain ⟨z27_0, z27_1, z27_2, z27_3, z27_4, z27_5, z27_6, z27_7, z27_8, z27_9, z27_10, z27_11, z27_12, z27_13, z27_14, z27_15, z27_16, z27_17, z27_18, z27_19, z27_20⟩ := Gv.c21 BK0.out
     go_wp2_with (first | (go_at_call 24; (with_reducible refine (spec_PrefixOk.calls k a0_1 a0_2 a0_3 a0_4 a0_5 a0_6 false _ A8.out).mono ?_); rintro e w28 ⟨rfl, hb⟩; replace BK0 := Gv.b1 BK0 hb; replace HB := Gv.hb hb; clear hb) | ((with_reducible refine Gv.gate_load (t := 27) rfl ?_); (try (refine gate_guard (by rfl) ?_; dsimp only)); refine wpList_load_row rfl 27 _ rfl gb0 rfl 27 _ _ _ (Gv.k01 BK0.out) Tryz.underlying27 rfl (by kernel_rfl) ?_))
     go_meet
     case rel => exact ⟨_, (true), Gv.rq, H', ⟨by first | omega | exact Nat.le_refl _⟩, ⟨by (with_reducible repeat (first | refine blk_drewN ?_ _ | refine blk_drew ?_ | refine blk_alloc ?_ _)); exact BK0.out⟩, ⟨Gv.bw⟩⟩
    subst c9; rw [if_pos rfl] at H
    (try dsimp only at H); replace H := Option.bind_eq_some_iff.mp H; obtain ⟨t4, A2, H⟩ := H
    (try dsimp only at H); have A10 := Gv.a0 A2; clear A2
    by_cases c11 : t4 = true
    rotate_left
    ·replace c11 := Bool.eq_false_iff.mpr c11; subst c11; rw [if_neg (show ¬ (false = true) by decide)] at H
     (try dsimp only at H); have H' := Gv.a0 H; clear H; obtain ⟨z23_0, z23_1, z23_2, z23_3, z23_4, z23_5, z23_6, z23_7, z23_8, z23_9, z23_10, z23_11, z23_12, z23_13, z23_14, z23_15, z23_16, z23_17, z23_18, z23_19, z23_20⟩ := Gv.c21 BK0.out
     go_wp2_with (first | (go_at_call 24; (with_reducible refine (spec_PrefixOk.calls k a0_1 a0_2 a0_3 a0_4 a0_5 a0_6 true _ A8.out).mono ?_); rintro e w24 ⟨rfl, hb⟩; replace BK0 := Gv.b1 BK0 hb; replace HB := Gv.hb hb; clear hb; obtain ⟨z25_0, z25_1, z25_2, z25_3, z25_4, z25_5, z25_6, z25_7, z25_8, z25_9, z25_10, z25_11, z25_12, z25_13, z25_14, z25_15, z25_16, z25_17, z25_18, z25_19, z25_20⟩ := Gv.c21 BK0.out) | (go_at_call 24; (with_reducible refine (spec_PrefixOk.calls k a0_7 a0_8 a0_9 a0_10 a0_11 a0_12 false _ A10.out).mono ?_); rintro e w26 ⟨rfl, hb⟩; replace BK0 := Gv.b1 BK0 hb; replace HB := Gv.hb hb; clear hb) | ((with_reducible refine Gv.gate_load (t := 27) rfl ?_); (try (refine gate_guard (by rfl) ?_; dsimp only)); refine wpList_load_row rfl 27 _ rfl gb0 rfl 27 _ _ _ (Gv.k01 BK0.out) Tryz.underlying27 rfl (by kernel_rfl) ?_))
     go_meet
     case rel => exact ⟨_, (true), Gv.rq, H', ⟨by first | omega | exact Nat.le_refl _⟩, ⟨by (with_reducible repeat (first | refine blk_drewN ?_ _ | refine blk_drew ?_ | refine blk_alloc ?_ _)); exact BK0.out⟩, ⟨Gv.bw⟩⟩
    subst c11; rw [if_pos rfl] at H
    (try dsimp only at H)
    by_cases c12 : a0_13 < (-1)
    ·rw [if_pos c12] at H; have c12b0 := decide_eq_true c12; clear c12; have H' := Gv.a0 H; clear H; obtain ⟨z13_0, z13_1, z13_2, z13_3, z13_4, z13_5, z13_6, z13_7, z13_8, z13_9, z13_10, z13_11, z13_12, z13_13, z13_14, z13_15, z13_16, z13_17, z13_18, z13_19, z13_20⟩ := Gv.c21 BK0.out
     go_wp2_with (first | (go_at_call 24; (with_reducible refine (spec_PrefixOk.calls k a0_1 a0_2 a0_3 a0_4 a0_5 a0_6 true _ A8.out).mono ?_); rintro e w14 ⟨rfl, hb⟩; replace BK0 := Gv.b1 BK0 hb; replace HB := Gv.hb hb; clear hb; obtain ⟨z15_0, z15_1, z15_2, z15_3, z15_4, z15_5, z15_6, z15_7, z15_8, z15_9, z15_10, z15_11, z15_12, z15_13, z15_14, z15_15, z15_16, z15_17, z15_18, z15_19, z15_20⟩ := Gv.c21 BK0.out) | (go_at_call 24; (with_reducible refine (spec_PrefixOk.calls k a0_7 a0_8 a0_9 a0_10 a0_11 a0_12 true _ A10.out).mono ?_); rintro e w16 ⟨rfl, hb⟩; replace BK0 := Gv.b1 BK0 hb; replace HB := Gv.hb hb; clear hb; obtain ⟨z17_0, z17_1, z17_2, z17_3, z17_4, z17_5, z17_6, z17_7, z17_8, z17_9, z17_10, z17_11, z17_12, z17_13, z17_14, z17_15, z17_16, z17_17, z17_18, z17_19, z17_20⟩ := Gv.c21 BK0.out) | ((with_reducible refine Gv.gate_load (t := 27) rfl ?_); (try (refine gate_guard (by rfl) ?_; dsimp only)); refine wpList_load_row rfl 27 _ rfl gb0 rfl 27 _ _ _ (Gv.k01 BK0.out) Tryz.underlying27 rfl (by kernel_rfl) ?_))
     go_meet
     case rel => exact ⟨_, (true), Gv.rq, H', ⟨by first | omega | exact Nat.le_refl _⟩, ⟨by (with_reducible repeat (first | refine blk_drewN ?_ _ | refine blk_drew ?_ | refine blk_alloc ?_ _)); exact BK0.out⟩, ⟨Gv.bw⟩⟩
    ·rw [if_neg c12] at H; have c12b0 := decide_eq_false c12; clear c12; have H' := Gv.a0 H; clear H; obtain ⟨z18_0, z18_1, z18_2, z18_3, z18_4, z18_5, z18_6, z18_7, z18_8, z18_9, z18_10, z18_11, z18_12, z18_13, z18_14, z18_15, z18_16, z18_17, z18_18, z18_19, z18_20⟩ := Gv.c21 BK0.out
     go_wp2_with (first | (go_at_call 24; (with_reducible refine (spec_PrefixOk.calls k a0_1 a0_2 a0_3 a0_4 a0_5 a0_6 true _ A8.out).mono ?_); rintro e w19 ⟨rfl, hb⟩; replace BK0 := Gv.b1 BK0 hb; replace HB := Gv.hb hb; clear hb; obtain ⟨z20_0, z20_1, z20_2, z20_3, z20_4, z20_5, z20_6, z20_7, z20_8, z20_9, z20_10, z20_11, z20_12, z20_13, z20_14, z20_15, z20_16, z20_17, z20_18, z20_19, z20_20⟩ := Gv.c21 BK0.out) | (go_at_call 24; (with_reducible refine (spec_PrefixOk.calls k a0_7 a0_8 a0_9 a0_10 a0_11 a0_12 true _ A10.out).mono ?_); rintro e w21 ⟨rfl, hb⟩; replace BK0 := Gv.b1 BK0 hb; replace HB := Gv.hb hb; clear hb; obtain ⟨z22_0, z22_1, z22_2, z22_3, z22_4, z22_5, z22_6, z22_7, z22_8, z22_9, z22_10, z22_11, z22_12, z22_13, z22_14, z22_15, z22_16, z22_17, z22_18, z22_19, z22_20⟩ := Gv.c21 BK0.out) | ((with_reducible refine Gv.gate_load (t := 27) rfl ?_); (try (refine gate_guard (by rfl) ?_; dsimp only)); refine wpList_load_row rfl 27 _ rfl gb0 rfl 27 _ _ _ (Gv.k01 BK0.out) Tryz.underlying27 rfl (by kernel_rfl) ?_))
     go_meet
     case rel => exact ⟨_, (decide (a0_13 > 255)), Gv.rq, H', ⟨by first | omega | exact Nat.le_refl _⟩, ⟨by (with_reducible repeat (first | refine blk_drewN ?_ _ | refine blk_drew ?_ | refine blk_alloc ?_ _)); exact BK0.out⟩, ⟨Gv.bw⟩⟩
 case rest =>
  clear HC2
  try clear c1
  try clear p2
  try clear c4
  try clear c4b0
  try clear c6
  try clear c6b0
  try clear c9
  try clear c11
  try clear c12
  try clear c12b0
  try clear z13_0 z13_1
  try clear z13_10 z13_11 z13_12 z13_13 z13_14 z13_15 z13_16 z13_17 z13_18 z13_19
  try clear z13_2
  try clear z13_20
  try clear z13_3 z13_4 z13_5 z13_6 z13_7 z13_8 z13_9
  try clear z15_0 z15_1
  try clear z15_10 z15_11 z15_12 z15_13 z15_14 z15_15 z15_16 z15_17 z15_18 z15_19
  try clear z15_2
  try clear z15_20
  try clear z15_3 z15_4 z15_5 z15_6 z15_7 z15_8 z15_9
  try clear z17_0 z17_1
  try clear z17_10 z17_11 z17_12 z17_13 z17_14 z17_15 z17_16 z17_17 z17_18 z17_19
  try clear z17_2
  try clear z17_20
  try clear z17_3 z17_4 z17_5 z17_6 z17_7 z17_8 z17_9
  try clear z18_0 z18_1
  try clear z18_10 z18_11 z18_12 z18_13 z18_14 z18_15 z18_16 z18_17 z18_18 z18_19
  try clear z18_2
  try clear z18_20
  try clear z18_3 z18_4 z18_5 z18_6 z18_7 z18_8 z18_9
  try clear z20_0 z20_1
  try clear z20_10 z20_11 z20_12 z20_13 z20_14 z20_15 z20_16 z20_17 z20_18 z20_19
  try clear z20_2
  try clear z20_20
  try clear z20_3 z20_4 z20_5 z20_6 z20_7 z20_8 z20_9
  try clear z22_0 z22_1
  try clear z22_10 z22_11 z22_12 z22_13 z22_14 z22_15 z22_16 z22_17 z22_18 z22_19
  try clear z22_2
  try clear z22_20
  try clear z22_3 z22_4 z22_5 z22_6 z22_7 z22_8 z22_9
  try clear z23_0 z23_1
  try clear z23_10 z23_11 z23_12 z23_13 z23_14 z23_15 z23_16 z23_17 z23_18 z23_19
  try clear z23_2
  try clear z23_20
  try clear z23_3 z23_4 z23_5 z23_6 z23_7 z23_8 z23_9
  try clear z25_0 z25_1
  try clear z25_10 z25_11 z25_12 z25_13 z25_14 z25_15 z25_16 z25_17 z25_18 z25_19
  try clear z25_2
  try clear z25_20
  try clear z25_3 z25_4 z25_5 z25_6 z25_7 z25_8 z25_9
  try clear z27_0 z27_1
  try clear z27_10 z27_11 z27_12 z27_13 z27_14 z27_15 z27_16 z27_17 z27_18 z27_19
  try clear z27_2
  try clear z27_20
  try clear z27_3 z27_4 z27_5 z27_6 z27_7 z27_8 z27_9
  try clear z5_0 z5_1
  try clear z5_10 z5_11 z5_12 z5_13 z5_14 z5_15 z5_16 z5_17 z5_18 z5_19
  try clear z5_2
  try clear z5_20
  try clear z5_3 z5_4 z5_5 z5_6 z5_7 z5_8 z5_9
  try clear z7_0 z7_1
  try clear z7_10 z7_11 z7_12 z7_13 z7_14 z7_15 z7_16 z7_17 z7_18 z7_19
  try clear z7_2
  try clear z7_20
  try clear z7_3 z7_4 z7_5 z7_6 z7_7 z7_8 z7_9
  obtain ⟨kq, x32_1, rfl, HA, HJ1, BK0, HB⟩ := hcut; cases kq with
  | zero => exact absurd HA.out (by simp [spec_RuleOk.j0])
  | succ kj1 =>
   have H := HA.out; clear HA; simp only [spec_RuleOk.j0] at H
   by_cases c29 : x32_1 = true
   ·subst c29; rw [if_pos rfl] at H
    (try dsimp only at H); obtain rfl := Option.some.inj H
    go_wp2_with (first | ((with_reducible refine Gv.gate_load (t := 27) rfl ?_); (try (refine gate_guard (by rfl) ?_; dsimp only)); refine wpList_load_row rfl 27 _ rfl gb0 rfl 27 _ _ _ (Gv.k01 BK0.out) Tryz.underlying27 rfl (by kernel_rfl) ?_))
    go_ret
    exact ⟨Gv.rt, Gv.bw⟩
   ·replace c29 := Bool.eq_false_iff.mpr c29; subst c29; rw [if_neg (show ¬ (false = true) by decide)] at H
    (try dsimp only at H); replace H := Option.bind_eq_some_iff.mp H; obtain ⟨t5, A1, H⟩ := H
    (try dsimp only at H); have A30 := Gv.a0 A1; clear A1
    by_cases c31 : t5 = true
    rotate_left
    ·replace c31 := Bool.eq_false_iff.mpr c31; subst c31; rw [if_neg (show ¬ (false = true) by decide)] at H
     (try dsimp only at H); obtain rfl := Option.some.inj H; obtain ⟨z46_0, z46_1, z46_2, z46_3, z46_4, z46_5, z46_6, z46_7, z46_8, z46_9, z46_10, z46_11, z46_12, z46_13, z46_14, z46_15, z46_16, z46_17, z46_18, z46_19, z46_20⟩ := Gv.c21 BK0.out
     go_wp2_with (first | ((with_reducible refine gate_callee (f := 25) rfl ?_); refine goesL_ (some 37) rfl rfl Tryz.func25 (by kernel_rfl) rfl #[.int .i64 a0_14, .int .i64 a0_15] rfl Gv.lm ?_; (with_reducible refine (spec_l09Range.calls a0_14 a0_15 false _ A30.out).mono ?_); rintro e w' ⟨rfl, ⟨nd, rfl⟩⟩; refine ⟨_, rfl, ?_⟩) | ((with_reducible refine Gv.gate_load (t := 27) rfl ?_); (try (refine gate_guard (by rfl) ?_; dsimp only)); refine wpList_load_row rfl 27 _ rfl gb0 rfl 27 _ _ _ (Gv.k01 BK0.out) Tryz.underlying27 rfl (by kernel_rfl) ?_))
     go_ret
     exact ⟨Gv.rt, Gv.bw⟩

    subst c31; rw [if_pos rfl] at H
    (try dsimp only at H); replace H := Option.bind_eq_some_iff.mp H; obtain ⟨t6, A3, H⟩ := H
    (try dsimp only at H); have A32 := Gv.a0 A3; clear A3
    by_cases c33 : t6 = true
    rotate_left
    ·replace c33 := Bool.eq_false_iff.mpr c33; subst c33; rw [if_neg (show ¬ (false = true) by decide)] at H
     (try dsimp only at H); obtain rfl := Option.some.inj H; obtain ⟨z45_0, z45_1, z45_2, z45_3, z45_4, z45_5, z45_6, z45_7, z45_8, z45_9, z45_10, z45_11, z45_12, z45_13, z45_14, z45_15, z45_16, z45_17, z45_18, z45_19, z45_20⟩ := Gv.c21 BK0.out
     go_wp2_with (first | ((with_reducible refine gate_callee (f := 25) rfl ?_); refine goesL_ (some 37) rfl rfl Tryz.func25 (by kernel_rfl) rfl #[.int .i64 a0_14, .int .i64 a0_15] rfl Gv.lm ?_; (with_reducible refine (spec_l09Range.calls a0_14 a0_15 true _ A30.out).mono ?_); rintro e w' ⟨rfl, ⟨nd, rfl⟩⟩; refine ⟨_, rfl, ?_⟩) | (go_at_call 25; (with_reducible refine (spec_l09Range.calls a0_16 a0_17 false _ A32.out).mono ?_); rintro e w' ⟨rfl, ⟨nd, rfl⟩⟩) | ((with_reducible refine Gv.gate_load (t := 27) rfl ?_); (try (refine gate_guard (by rfl) ?_; dsimp only)); refine wpList_load_row rfl 27 _ rfl gb0 rfl 27 _ _ _ (Gv.k01 BK0.out) Tryz.underlying27 rfl (by kernel_rfl) ?_))
     go_ret
     exact ⟨Gv.rt, Gv.bw⟩
    subst c33; rw [if_pos rfl] at H
    (try dsimp only at H)
    by_cases c34 : a0_18 ≥ 1
    rotate_left
    ·rw [if_neg c34] at H; have c34b0 : decide (1 ≤ a0_18) = false := decide_eq_false c34; clear c34; obtain rfl := Option.some.inj H; obtain ⟨z44_0, z44_1, z44_2, z44_3, z44_4, z44_5, z44_6, z44_7, z44_8, z44_9, z44_10, z44_11, z44_12, z44_13, z44_14, z44_15, z44_16, z44_17, z44_18, z44_19, z44_20⟩ := Gv.c21 BK0.out
     go_wp2_with (first | ((with_reducible refine gate_callee (f := 25) rfl ?_); refine goesL_ (some 37) rfl rfl Tryz.func25 (by kernel_rfl) rfl #[.int .i64 a0_14, .int .i64 a0_15] rfl Gv.lm ?_; (with_reducible refine (spec_l09Range.calls a0_14 a0_15 true _ A30.out).mono ?_); rintro e w' ⟨rfl, ⟨nd, rfl⟩⟩; refine ⟨_, rfl, ?_⟩) | (go_at_call 25; (with_reducible refine (spec_l09Range.calls a0_16 a0_17 true _ A32.out).mono ?_); rintro e w' ⟨rfl, ⟨nd, rfl⟩⟩) | ((with_reducible refine Gv.gate_load (t := 27) rfl ?_); (try (refine gate_guard (by rfl) ?_; dsimp only)); refine wpList_load_row rfl 27 _ rfl gb0 rfl 27 _ _ _ (Gv.k01 BK0.out) Tryz.underlying27 rfl (by kernel_rfl) ?_))
     go_ret
     exact ⟨Gv.rt, Gv.bw⟩
    rw [if_pos c34] at H; have c34b0 : decide (1 ≤ a0_18) = true := decide_eq_true c34; clear c34
    by_cases c35 : a0_18 ≤ 8
    rotate_left
    ·rw [if_neg c35] at H; have c35b0 := decide_eq_false c35; clear c35; obtain rfl := Option.some.inj H; obtain ⟨z43_0, z43_1, z43_2, z43_3, z43_4, z43_5, z43_6, z43_7, z43_8, z43_9, z43_10, z43_11, z43_12, z43_13, z43_14, z43_15, z43_16, z43_17, z43_18, z43_19, z43_20⟩ := Gv.c21 BK0.out
     go_wp2_with (first | ((with_reducible refine gate_callee (f := 25) rfl ?_); refine goesL_ (some 37) rfl rfl Tryz.func25 (by kernel_rfl) rfl #[.int .i64 a0_14, .int .i64 a0_15] rfl Gv.lm ?_; (with_reducible refine (spec_l09Range.calls a0_14 a0_15 true _ A30.out).mono ?_); rintro e w' ⟨rfl, ⟨nd, rfl⟩⟩; refine ⟨_, rfl, ?_⟩) | (go_at_call 25; (with_reducible refine (spec_l09Range.calls a0_16 a0_17 true _ A32.out).mono ?_); rintro e w' ⟨rfl, ⟨nd, rfl⟩⟩) | ((with_reducible refine Gv.gate_load (t := 27) rfl ?_); (try (refine gate_guard (by rfl) ?_; dsimp only)); refine wpList_load_row rfl 27 _ rfl gb0 rfl 27 _ _ _ (Gv.k01 BK0.out) Tryz.underlying27 rfl (by kernel_rfl) ?_))
     go_ret
     exact ⟨Gv.rt, Gv.bw⟩
    rw [if_pos c35] at H; have c35b0 := decide_eq_true c35; clear c35
    by_cases c36 : a0_19 ≥ 1
    rotate_left
    ·rw [if_neg c36] at H; have c36b0 : decide (1 ≤ a0_19) = false := decide_eq_false c36; clear c36; obtain rfl := Option.some.inj H; obtain ⟨z42_0, z42_1, z42_2, z42_3, z42_4, z42_5, z42_6, z42_7, z42_8, z42_9, z42_10, z42_11, z42_12, z42_13, z42_14, z42_15, z42_16, z42_17, z42_18, z42_19, z42_20⟩ := Gv.c21 BK0.out
     go_wp2_with (first | ((with_reducible refine gate_callee (f := 25) rfl ?_); refine goesL_ (some 37) rfl rfl Tryz.func25 (by kernel_rfl) rfl #[.int .i64 a0_14, .int .i64 a0_15] rfl Gv.lm ?_; (with_reducible refine (spec_l09Range.calls a0_14 a0_15 true _ A30.out).mono ?_); rintro e w' ⟨rfl, ⟨nd, rfl⟩⟩; refine ⟨_, rfl, ?_⟩) | (go_at_call 25; (with_reducible refine (spec_l09Range.calls a0_16 a0_17 true _ A32.out).mono ?_); rintro e w' ⟨rfl, ⟨nd, rfl⟩⟩) | ((with_reducible refine Gv.gate_load (t := 27) rfl ?_); (try (refine gate_guard (by rfl) ?_; dsimp only)); refine wpList_load_row rfl 27 _ rfl gb0 rfl 27 _ _ _ (Gv.k01 BK0.out) Tryz.underlying27 rfl (by kernel_rfl) ?_))
     go_ret
     exact ⟨Gv.rt, Gv.bw⟩
    rw [if_pos c36] at H; have c36b0 : decide (1 ≤ a0_19) = true := decide_eq_true c36; clear c36
    by_cases c37 : a0_19 ≤ 10
    rotate_left
    ·rw [if_neg c37] at H; have c37b0 := decide_eq_false c37; clear c37; obtain rfl := Option.some.inj H; obtain ⟨z41_0, z41_1, z41_2, z41_3, z41_4, z41_5, z41_6, z41_7, z41_8, z41_9, z41_10, z41_11, z41_12, z41_13, z41_14, z41_15, z41_16, z41_17, z41_18, z41_19, z41_20⟩ := Gv.c21 BK0.out
     go_wp2_with (first | ((with_reducible refine gate_callee (f := 25) rfl ?_); refine goesL_ (some 37) rfl rfl Tryz.func25 (by kernel_rfl) rfl #[.int .i64 a0_14, .int .i64 a0_15] rfl Gv.lm ?_; (with_reducible refine (spec_l09Range.calls a0_14 a0_15 true _ A30.out).mono ?_); rintro e w' ⟨rfl, ⟨nd, rfl⟩⟩; refine ⟨_, rfl, ?_⟩) | (go_at_call 25; (with_reducible refine (spec_l09Range.calls a0_16 a0_17 true _ A32.out).mono ?_); rintro e w' ⟨rfl, ⟨nd, rfl⟩⟩) | ((with_reducible refine Gv.gate_load (t := 27) rfl ?_); (try (refine gate_guard (by rfl) ?_; dsimp only)); refine wpList_load_row rfl 27 _ rfl gb0 rfl 27 _ _ _ (Gv.k01 BK0.out) Tryz.underlying27 rfl (by kernel_rfl) ?_))
     go_ret
     exact ⟨Gv.rt, Gv.bw⟩
    rw [if_pos c37] at H; have c37b0 := decide_eq_true c37; clear c37
    by_cases c38 : a0_20 ≥ 1
    ·rw [if_pos c38] at H; have c38b0 : decide (1 ≤ a0_20) = true := decide_eq_true c38; clear c38; obtain rfl := Option.some.inj H; obtain ⟨z39_0, z39_1, z39_2, z39_3, z39_4, z39_5, z39_6, z39_7, z39_8, z39_9, z39_10, z39_11, z39_12, z39_13, z39_14, z39_15, z39_16, z39_17, z39_18, z39_19, z39_20⟩ := Gv.c21 BK0.out
     go_wp2_with (first | ((with_reducible refine gate_callee (f := 25) rfl ?_); refine goesL_ (some 37) rfl rfl Tryz.func25 (by kernel_rfl) rfl #[.int .i64 a0_14, .int .i64 a0_15] rfl Gv.lm ?_; (with_reducible refine (spec_l09Range.calls a0_14 a0_15 true _ A30.out).mono ?_); rintro e w' ⟨rfl, ⟨nd, rfl⟩⟩; refine ⟨_, rfl, ?_⟩) | (go_at_call 25; (with_reducible refine (spec_l09Range.calls a0_16 a0_17 true _ A32.out).mono ?_); rintro e w' ⟨rfl, ⟨nd, rfl⟩⟩) | ((with_reducible refine Gv.gate_load (t := 27) rfl ?_); (try (refine gate_guard (by rfl) ?_; dsimp only)); refine wpList_load_row rfl 27 _ rfl gb0 rfl 27 _ _ _ (Gv.k01 BK0.out) Tryz.underlying27 rfl (by kernel_rfl) ?_))
     go_ret
     exact ⟨Gv.rt, Gv.bw⟩
    ·rw [if_neg c38] at H; have c38b0 : decide (1 ≤ a0_20) = false := decide_eq_false c38; clear c38; obtain rfl := Option.some.inj H; obtain ⟨z40_0, z40_1, z40_2, z40_3, z40_4, z40_5, z40_6, z40_7, z40_8, z40_9, z40_10, z40_11, z40_12, z40_13, z40_14, z40_15, z40_16, z40_17, z40_18, z40_19, z40_20⟩ := Gv.c21 BK0.out
     go_wp2_with (first | ((with_reducible refine gate_callee (f := 25) rfl ?_); refine goesL_ (some 37) rfl rfl Tryz.func25 (by kernel_rfl) rfl #[.int .i64 a0_14, .int .i64 a0_15] rfl Gv.lm ?_; (with_reducible refine (spec_l09Range.calls a0_14 a0_15 true _ A30.out).mono ?_); rintro e w' ⟨rfl, ⟨nd, rfl⟩⟩; refine ⟨_, rfl, ?_⟩) | (go_at_call 25; (with_reducible refine (spec_l09Range.calls a0_16 a0_17 true _ A32.out).mono ?_); rintro e w' ⟨rfl, ⟨nd, rfl⟩⟩) | ((with_reducible refine Gv.gate_load (t := 27) rfl ?_); (try (refine gate_guard (by rfl) ?_; dsimp only)); refine wpList_load_row rfl 27 _ rfl gb0 rfl 27 _ _ _ (Gv.k01 BK0.out) Tryz.underlying27 rfl (by kernel_rfl) ?_))
     go_ret
     exact ⟨Gv.rt, Gv.bw⟩
/-! ### spec_PrefixText: function 26 -/
def spec_PrefixText.f (k : Nat) (a0_0 : Int) (a0_1 : Int) (a0_2 : Int) (a0_3 : Int) (a0_4 : Int) (a0_5 : Int) : Option (ByteArray) := (spec_PrefixOk.f k a0_0 a0_1 a0_2 a0_3 a0_4 a0_5).bind fun t305 => (if t305 = true then ((spec_l03Any.f a0_0 a0_1 a0_2 a0_3 a0_4 a0_5).bind fun t306 => (if t306 = true then (some (⟨#[97, 110, 121]⟩ : ByteArray)) else ((spec_AddrText.f k a0_0 a0_1 a0_2 a0_3 a0_4).bind fun t307 => (if t307.size + 1 ≤ 9223372036854775807 then ((spec_NumText.f k a0_5).bind fun t308 => (if (t307 ++ (⟨#[47]⟩ : ByteArray)).size + t308.size ≤ 9223372036854775807 then (some ((t307 ++ (⟨#[47]⟩ : ByteArray)) ++ t308)) else (none))) else (none))))) else (some (⟨#[]⟩ : ByteArray)))
def spec_PrefixText.T5 : Bool × List (List Nat × List Nat) := (true, [([], []), ([0], [0]), ([1], [1]), ([2], [2]), ([], []), ([4], [4]), ([5, 2], [5]), ([3, 6], [3, 6]), ([7, 6, 0, 1, 2, 3, 4, 5, 6, 7], [7])])
def spec_PrefixText.B5 : List Nat := [0, 1, 3, 7, 0, 16, 55, 127, 255]
theorem spec_PrefixText.tab5 : rtab .any (opsOf Tryz.f26 5) = spec_PrefixText.T5 := by kernel_rfl
theorem spec_PrefixText.bits5 : waitsOk spec_PrefixText.T5.2 spec_PrefixText.B5 = true := by kernel_rfl
set_option maxHeartbeats 8000000 in
set_option maxRecDepth 100000 in
theorem spec_PrefixText.calls (k : Nat) (a0_0 : Int) (a0_1 : Int) (a0_2 : Int) (a0_3 : Int) (a0_4 : Int) (a0_5 : Int) (r : ByteArray) (w : World) (h : spec_PrefixText.f k a0_0 a0_1 a0_2 a0_3 a0_4 a0_5 = some r) :
  Calls Tryz.prog 26 #[.agg #[.int .i64 a0_0, .int .i64 a0_1, .int .i64 a0_2, .int .i64 a0_3, .int .i64 a0_4, .int .i64 a0_5]] w fun e w' => e = .returned (.string r) ∧ Below w.heap.size w w' := by
 have hu25 := Tryz.underlying25; have hu23 := Tryz.underlying23; have HB := Gv.a0 (Below.refl w.heap.size w); unfold spec_PrefixText.f at h; have H := h; clear h; replace H := Option.bind_eq_some_iff.mp H; obtain ⟨t4, A20, H⟩ := H
 (try dsimp only at H); have A2 := Gv.a0 A20; clear A20
 by_cases c3 : t4 = true
 rotate_left
 ·replace c3 := Bool.eq_false_iff.mpr c3; subst c3; rw [if_neg (show ¬ (false = true) by decide)] at H
  (try dsimp only at H); obtain rfl := Option.some.inj H
  go_enter Tryz.func26, Tryz.ntmps26
  go_wp2_with (first | ((with_reducible refine gate_dst (N := 1) rfl ?_); refine Gv.bev 1 25 #[.int .i64 a0_0, .int .i64 a0_1, .int .i64 a0_2, .int .i64 a0_3, .int .i64 a0_4, .int .i64 a0_5] ?_; intro gb0 hg w23 hbox hb; have BK0 := Gv.a0 (hbox); have GW0 := Gv.a0 ((Gv.ble hg Gv.bw : w.heap.size ≤ gb0)); have GE0 := GW0; replace HB := Gv.hb hb; clear hb hbox hg; obtain ⟨z24_0, z24_1, z24_2, z24_3, z24_4, z24_5⟩ := Gv.c6 BK0.out; obtain ⟨o24_0, o24_1, o24_2, o24_3, o24_4, o24_5⟩ := Gv.f6 BK0.out) | ((with_reducible refine gate_callee (f := 24) rfl ?_); refine goesL_ (some 4) rfl rfl Tryz.func24 (by kernel_rfl) rfl #[.agg #[.int .i64 a0_0, .int .i64 a0_1, .int .i64 a0_2, .int .i64 a0_3, .int .i64 a0_4, .int .i64 a0_5]] rfl Gv.lm ?_; (with_reducible refine (spec_PrefixOk.calls k a0_0 a0_1 a0_2 a0_3 a0_4 a0_5 false _ A2.out).mono ?_); rintro e w25 ⟨rfl, hb⟩; refine ⟨_, rfl, ?_⟩; replace BK0 := Gv.b1 BK0 hb; replace HB := Gv.hb hb; clear hb))
  go_ret
  exact ⟨Gv.rt, Gv.bw⟩

 subst c3; rw [if_pos rfl] at H
 (try dsimp only at H); replace H := Option.bind_eq_some_iff.mp H; obtain ⟨t6, A40, H⟩ := H
 (try dsimp only at H); have A4 := Gv.a0 A40; clear A40
 by_cases c5 : t6 = true
 ·subst c5; rw [if_pos rfl] at H
  (try dsimp only at H); obtain rfl := Option.some.inj H
  go_enter Tryz.func26, Tryz.ntmps26
  go_wp2_with (first | ((with_reducible refine gate_dst (N := 1) rfl ?_); refine Gv.bev 1 25 #[.int .i64 a0_0, .int .i64 a0_1, .int .i64 a0_2, .int .i64 a0_3, .int .i64 a0_4, .int .i64 a0_5] ?_; intro gb0 hg w6 hbox hb; have BK0 := Gv.a0 (hbox); have GW0 := Gv.a0 ((Gv.ble hg Gv.bw : w.heap.size ≤ gb0)); have GE0 := GW0; replace HB := Gv.hb hb; clear hb hbox hg; obtain ⟨z7_0, z7_1, z7_2, z7_3, z7_4, z7_5⟩ := Gv.c6 BK0.out; obtain ⟨o7_0, o7_1, o7_2, o7_3, o7_4, o7_5⟩ := Gv.f6 BK0.out) | ((with_reducible refine gate_callee (f := 24) rfl ?_); refine goesL_ (some 4) rfl rfl Tryz.func24 (by kernel_rfl) rfl #[.agg #[.int .i64 a0_0, .int .i64 a0_1, .int .i64 a0_2, .int .i64 a0_3, .int .i64 a0_4, .int .i64 a0_5]] rfl Gv.lm ?_; (with_reducible refine (spec_PrefixOk.calls k a0_0 a0_1 a0_2 a0_3 a0_4 a0_5 true _ A2.out).mono ?_); rintro e w8 ⟨rfl, hb⟩; refine ⟨_, rfl, ?_⟩; replace BK0 := Gv.b1 BK0 hb; replace HB := Gv.hb hb; clear hb; obtain ⟨z9_0, z9_1, z9_2, z9_3, z9_4, z9_5⟩ := Gv.c6 BK0.out; obtain ⟨o9_0, o9_1, o9_2, o9_3, o9_4, o9_5⟩ := Gv.f6 BK0.out) | ((with_reducible refine gate_callee (f := 41) rfl ?_); refine goesL_ (some 7) rfl rfl Tryz.func41 (by kernel_rfl) rfl #[.agg #[.int .i64 a0_0, .int .i64 a0_1, .int .i64 a0_2, .int .i64 a0_3, .int .i64 a0_4, .int .i64 a0_5]] rfl Gv.lm ?_; (with_reducible refine (spec_l03Any.calls a0_0 a0_1 a0_2 a0_3 a0_4 a0_5 true _ A4.out).mono ?_); rintro e w10 ⟨rfl, hb⟩; refine ⟨_, rfl, ?_⟩; replace BK0 := Gv.b1 BK0 hb; replace HB := Gv.hb hb; clear hb))
  go_ret
  exact ⟨Gv.rt, Gv.bw⟩
 ·replace c5 := Bool.eq_false_iff.mpr c5; subst c5; rw [if_neg (show ¬ (false = true) by decide)] at H
  (try dsimp only at H); replace H := Option.bind_eq_some_iff.mp H; obtain ⟨t1, A3, H⟩ := H
  (try dsimp only at H); have A11 := Gv.a0 A3; clear A3
  by_cases c12 : t1.size + 1 ≤ 9223372036854775807
  rotate_left
  ·rw [if_neg c12] at H; cases H
  rw [if_pos c12] at H; have c12b0 := eq_true c12; have c12b1 := decide_eq_true c12
  try have c12b2 : (9223372036854775807 < t1.size + 1) = False := eq_false (Nat.not_lt.2 c12)
  replace H := Option.bind_eq_some_iff.mp H; obtain ⟨t2, A5, H⟩ := H
  (try dsimp only at H); have A13 := Gv.a0 A5; clear A5
  by_cases c14 : (t1 ++ (⟨#[47]⟩ : ByteArray)).size + t2.size ≤ 9223372036854775807
  rotate_left
  ·rw [if_neg c14] at H; cases H
  rw [if_pos c14] at H; have c14b0 := eq_true c14; have c14b1 := decide_eq_true c14; have c14s : t1.size + 1 + t2.size ≤ 9223372036854775807 := (by have h_ := c14; simp only [ByteArray.size_append] at h_; exact h_); have c14b3 := eq_true c14s; have c14b4 : decide (t1.size + 1 + t2.size ≤ 9223372036854775807) = true := decide_eq_true c14s; have c14b5 : (9223372036854775807 < t1.size + 1 + t2.size) = False := eq_false (Nat.not_lt.2 c14s); clear c14s
  try have c14b2 : (9223372036854775807 < (t1 ++ (⟨#[47]⟩ : ByteArray)).size + t2.size) = False := eq_false (Nat.not_lt.2 c14)
  obtain rfl := Option.some.inj H
  go_enter Tryz.func26, Tryz.ntmps26
  try go_wp2_with (first | ((with_reducible refine gate_dst (N := 1) rfl ?_); refine Gv.bev 1 25 #[.int .i64 a0_0, .int .i64 a0_1, .int .i64 a0_2, .int .i64 a0_3, .int .i64 a0_4, .int .i64 a0_5] ?_; intro gb0 hg w15 hbox hb; have BK0 := Gv.a0 (hbox); have GW0 := Gv.a0 ((Gv.ble hg Gv.bw : w.heap.size ≤ gb0)); have GE0 := GW0; replace HB := Gv.hb hb; clear hb hbox hg; obtain ⟨z16_0, z16_1, z16_2, z16_3, z16_4, z16_5⟩ := Gv.c6 BK0.out; obtain ⟨o16_0, o16_1, o16_2, o16_3, o16_4, o16_5⟩ := Gv.f6 BK0.out) | ((with_reducible refine gate_callee (f := 24) rfl ?_); refine goesL_ (some 4) rfl rfl Tryz.func24 (by kernel_rfl) rfl #[.agg #[.int .i64 a0_0, .int .i64 a0_1, .int .i64 a0_2, .int .i64 a0_3, .int .i64 a0_4, .int .i64 a0_5]] rfl Gv.lm ?_; (with_reducible refine (spec_PrefixOk.calls k a0_0 a0_1 a0_2 a0_3 a0_4 a0_5 true _ A2.out).mono ?_); rintro e w17 ⟨rfl, hb⟩; refine ⟨_, rfl, ?_⟩; replace BK0 := Gv.b1 BK0 hb; replace HB := Gv.hb hb; clear hb; obtain ⟨z18_0, z18_1, z18_2, z18_3, z18_4, z18_5⟩ := Gv.c6 BK0.out; obtain ⟨o18_0, o18_1, o18_2, o18_3, o18_4, o18_5⟩ := Gv.f6 BK0.out) | ((with_reducible refine gate_callee (f := 41) rfl ?_); refine goesL_ (some 7) rfl rfl Tryz.func41 (by kernel_rfl) rfl #[.agg #[.int .i64 a0_0, .int .i64 a0_1, .int .i64 a0_2, .int .i64 a0_3, .int .i64 a0_4, .int .i64 a0_5]] rfl Gv.lm ?_; (with_reducible refine (spec_l03Any.calls a0_0 a0_1 a0_2 a0_3 a0_4 a0_5 false _ A4.out).mono ?_); rintro e w19 ⟨rfl, hb⟩; refine ⟨_, rfl, ?_⟩; replace BK0 := Gv.b1 BK0 hb; replace HB := Gv.hb hb; clear hb))
  replace BK0 := Gv.a0 (blk_drew BK0.out); replace HB := Gv.a0 (below_drew1 HB.out); refine start_ (n := 9) (S := fun w' => w'.cell? ⟨gb0, 0, none⟩ = some (.int .i64 a0_0) ∧ w'.cell? ⟨gb0, 1, none⟩ = some (.int .i64 a0_1) ∧ w'.cell? ⟨gb0, 2, none⟩ = some (.int .i64 a0_2) ∧ w'.cell? ⟨gb0, 3, none⟩ = some (.int .i64 a0_3) ∧ w'.cell? ⟨gb0, 4, none⟩ = some (.int .i64 a0_4) ∧ w'.cell? ⟨gb0, 5, none⟩ = some (.int .i64 a0_5)) (ds := []) #[false, false, false, false, false, false, false, false, false] (by kernel_rfl) rfl rfl Gv.qs (fun hHeld => ?_); refine with_tabW spec_PrefixText.tab5 spec_PrefixText.bits5 (fun HT_ HW_ => ?_); generalize w19.drew = w20 at BK0 HB hHeld ⊢; refine Gv.pu 0 (some 8) HT_ ?_; refine Gv.pu 4 (some 12) HT_ ?_; refine take_ (i := 1) (N := some 9) (v := ?_) (a' := ?_) #[true, true, false, false, true, false, false, false, false] rfl rfl (take_ofW HT_.out HW_.out (by kernel_rfl)) (fun _ _ _ h => h) (Or.inl ⟨by rfl, ?_⟩) hHeld ?_ ?_; rotate_left
  ·rintro w' ⟨s0, s1, s2, s3, s4, s5⟩
   go_simp
   with_reducible rfl
  rotate_left
  ·simp only [Act.put, List.setIfInBounds_toArray, List.set_cons_zero, List.set_cons_succ, i64_w, i32_w]
   rfl
  refine take_ (i := 5) (N := some 13) (v := ?_) (a' := ?_) #[true, true, false, false, true, true, false, false, false] rfl rfl (take_ofW HT_.out HW_.out (by kernel_rfl)) (fun _ _ _ h => h) (Or.inl ⟨by rfl, ?_⟩) hHeld ?_ ?_; rotate_left
  ·rintro w' ⟨s0, s1, s2, s3, s4, s5⟩
   go_simp
   with_reducible rfl
  rotate_left
  ·simp only [Act.put, List.setIfInBounds_toArray, List.set_cons_zero, List.set_cons_succ, i64_w, i32_w]
   rfl
  refine one_ (i := 2) (N := some 10) #[true, true, true, false, true, true, false, false, false] rfl rfl (one_of HT_.out (by kernel_rfl)) (by decide) (fun K hK => ?_); refine goes_ Tryz.func40 (by kernel_rfl) rfl #[.agg #[.int .i64 a0_0, .int .i64 a0_1, .int .i64 a0_2, .int .i64 a0_3, .int .i64 a0_4]] (by rfl) rfl rfl Gv.lm ?_
  with_reducible refine (spec_AddrText.calls k a0_0 a0_1 a0_2 a0_3 a0_4 t1 _ A11.out).mono ?_
  rintro e w21 ⟨rfl, hb⟩; refine ⟨_, rfl, ?_⟩; replace BK0 := Gv.b1 BK0 hb; replace HB := Gv.hb hb
  (try clear hb)
  (try clear hb2)
  (try clear hk)
  (try clear hi); refine hK.out _ _ Gv.qs (fun hHeld => ?_); clear hK K; refine norm_ (a' := ?_) ?_ ?_; rotate_left
  ·show Act.put _ (some 10) _ = _
   simp only [Act.put, List.setIfInBounds_toArray, List.set_cons_zero, List.set_cons_succ, i64_w, i32_w]
   rfl
  refine Gv.pu 3 (some 11) HT_ ?_; refine one_ (i := 6) (N := some 14) #[true, true, true, true, true, true, true, false, false] rfl rfl (one_of HT_.out (by kernel_rfl)) (by decide) (fun K hK => ?_); refine goes_ Tryz.func22 (by kernel_rfl) rfl #[.int .i64 a0_5] (by rfl) rfl rfl Gv.lm ?_
  with_reducible refine (spec_NumText.calls k a0_5 t2 _ A13.out).mono ?_
  rintro e w22 ⟨rfl, hb⟩; refine ⟨_, rfl, ?_⟩; replace BK0 := Gv.b1 BK0 hb; replace HB := Gv.hb hb
  (try clear hb)
  (try clear hb2)
  (try clear hk)
  (try clear hi); refine hK.out _ _ Gv.qs (fun hHeld => ?_); clear hK K; refine norm_ (a' := ?_) ?_ ?_; rotate_left
  ·show Act.put _ (some 14) _ = _
   simp only [Act.put, List.setIfInBounds_toArray, List.set_cons_zero, List.set_cons_succ, i64_w, i32_w]
   rfl
  refine Gv.pu 7 (some 15) HT_ ?_; refine Gv.pu 8 (some 2) HT_ ?_; refine done_ (done_of HT_.out (by kernel_rfl)) ?_
  try go_wp2
  go_ret
  exact ⟨Gv.rt, Gv.bw⟩
end Go.Proofs.YtbihbbkdciebhaaGreatDoor.PRr
