/- Plain Lean functions of a law's Go functions, their contracts, by a program of this session (wip/pr.py over the kit's print). -/
import Derived.Test.YtfnpodebjejhpaaPTpx0
import Derived.Test.YtfnpodebjejhpaaPTpx3
namespace Go.Proofs.Ytfnpodebjejhpaa.PTp
open Go.RowKit Go.Proofs.YtfnpodebjejhpaaW.PrintWords Go.Proofs.YtfnpodebjejhpaaW.PrintLast Go.Proofs.YtfnpodebjejhpaaW.PrintMore
attribute [local go_sem] max2_int min2_int max_two min_two max_three min_three max_four min_four   -- for this text's walks alone
set_option linter.unusedVariables false
set_option linter.unusedSimpArgs false

/-! ### spec_AddrBytes: function 71 -/
def spec_AddrBytes.f (a0_0 : Int) (a0_1 : Int) (a0_2 : Int) (a0_3 : Int) (a0_4 : Int) : Option (List Int) := (spec_AddrOk.f a0_0 a0_1 a0_2 a0_3 a0_4).bind fun t241 => (if t241 = true then (if a0_0 = 4 then ((spec_Put32.f a0_4).bind fun t242 => (some t242)) else ((spec_Put32.f a0_1).bind fun t245 => ((spec_Put32.f a0_2).bind fun t248 => (if t245.length + t248.length < 140737488355328 then ((some (t245 ++ t248 : List Int)).bind fun y251 => ((spec_Put32.f a0_3).bind fun t254 => (if y251.length + t254.length < 140737488355328 then ((some (y251 ++ t254 : List Int)).bind fun y257 => ((spec_Put32.f a0_4).bind fun t260 => (if y257.length + t260.length < 140737488355328 then (some (y257 ++ t260)) else (none)))) else (none)))) else (none))))) else (some ([] : List Int)))
def spec_AddrBytes.T5 : Bool × List (List Nat × List Nat) := (true, [([], []), ([0], [0]), ([1], [1]), ([], []), ([3], [3]), ([4, 2], [4]), ([2, 5, 5], [2, 5]), ([6, 6, 0, 1, 2, 3, 4, 5, 6], [6])])
def spec_AddrBytes.B5 : List Nat := [0, 1, 3, 0, 8, 31, 63, 127]
theorem spec_AddrBytes.tab5 : rtab .any (opsOf Try.f71 5) = spec_AddrBytes.T5 := by kernel_rfl
theorem spec_AddrBytes.bits5 : waitsOk spec_AddrBytes.T5.2 spec_AddrBytes.B5 = true := by kernel_rfl
def spec_AddrBytes.T6 : Bool × List (List Nat × List Nat) := (true, [([], []), ([], []), ([1], [1]), ([2], [2]), ([0, 3, 3], [0, 3]), ([], []), ([5], [5]), ([6, 4], [6]), ([4, 7, 7], [4, 7]), ([8, 8, 0, 1, 2, 3, 4, 5, 6, 7, 8], [8])])
def spec_AddrBytes.B6 : List Nat := [0, 0, 2, 6, 15, 0, 32, 127, 255, 511]
theorem spec_AddrBytes.tab6 : rtab .any (opsOf Try.f71 6) = spec_AddrBytes.T6 := by kernel_rfl
theorem spec_AddrBytes.bits6 : waitsOk spec_AddrBytes.T6.2 spec_AddrBytes.B6 = true := by kernel_rfl
set_option maxHeartbeats 8000000 in
set_option maxRecDepth 100000 in
theorem spec_AddrBytes.calls (a0_0 : Int) (a0_1 : Int) (a0_2 : Int) (a0_3 : Int) (a0_4 : Int) (r : List Int) (w : World) (h : spec_AddrBytes.f a0_0 a0_1 a0_2 a0_3 a0_4 = some r) :
  Calls Try.prog 71 #[.agg #[.int .i64 a0_0, .int .i64 a0_1, .int .i64 a0_2, .int .i64 a0_3, .int .i64 a0_4]] w fun e w' => ∃ v0_ : Value, e = .returned (v0_) ∧ Kd.R (Kd.int .u8) 5 w' w.heap.size (fun _ => True) v0_ r ∧ Below w.heap.size w w' := by
 have hu29 := Try.underlying29
 have HB := Gv.a0 (Below.refl w.heap.size w)
 have H : ((spec_AddrOk.f a0_0 a0_1 a0_2 a0_3 a0_4).bind fun t241 => (if t241 = true then (if a0_0 = 4 then ((spec_Put32.f a0_4).bind fun t242 => (some t242)) else ((spec_Put32.f a0_1).bind fun t245 => ((spec_Put32.f a0_2).bind fun t248 => (if t245.length + t248.length < 140737488355328 then ((some (t245 ++ t248 : List Int)).bind fun y251 => ((spec_Put32.f a0_3).bind fun t254 => (if y251.length + t254.length < 140737488355328 then ((some (y251 ++ t254 : List Int)).bind fun y257 => ((spec_Put32.f a0_4).bind fun t260 => (if y257.length + t260.length < 140737488355328 then (some (y257 ++ t260)) else (none)))) else (none)))) else (none))))) else (some ([] : List Int)))) = some r := h
 clear h
 replace H := Option.bind_eq_some_iff.mp H
 obtain ⟨t241, A20, H⟩ := H
 (try dsimp only at H)
 have A2 := Gv.a0 A20
 clear A20
 by_cases c3 : t241 = true
 rotate_left
 ·replace c3 := Bool.eq_false_iff.mpr c3
  subst c3
  rw [if_neg (show ¬ (false = true) by decide)] at H
  (try dsimp only at H)
  obtain rfl := Option.some.inj H
  go_enter Try.func71, Try.ntmps71
  go_wp2_with (first | ((with_reducible refine gate_dst (N := 1) rfl ?_); refine Gv.bev 1 29 #[.int .i64 a0_0, .int .i64 a0_1, .int .i64 a0_2, .int .i64 a0_3, .int .i64 a0_4] ?_; intro gb240 hg w34 hbox hb; have BK240 := Gv.a0 (hbox); have GW240 := Gv.a0 ((Gv.ble hg Gv.bw : w.heap.size ≤ gb240)); have GE240 := Gv.a0 ((Gv.ble hg Gv.bw : w.heap.size ≤ gb240)); replace HB := Gv.a0 (below_step Gv.bw hb); clear hb hbox hg; obtain ⟨hcz35_0, hcz35_1, hcz35_2, hcz35_3, hcz35_4⟩ := Gv.c5 BK240.out; obtain ⟨hfz35_0, hfz35_1, hfz35_2, hfz35_3, hfz35_4⟩ := Gv.f5 BK240.out) | ((with_reducible refine gate_callee (f := 80) rfl ?_); refine goesL_ (some 5) rfl rfl Try.func80 (by kernel_rfl) rfl #[.agg #[.int .i64 a0_0, .int .i64 a0_1, .int .i64 a0_2, .int .i64 a0_3, .int .i64 a0_4]] rfl Gv.lm ?_; (with_reducible refine (spec_AddrOk.calls a0_0 a0_1 a0_2 a0_3 a0_4 false _ A2.out).mono ?_); rintro e w36 ⟨rfl, hb⟩; refine ⟨_, rfl, ?_⟩; replace BK240 := Gv.b1 BK240 hb; replace HB := Gv.a0 (below_step Gv.bw hb); clear hb))
  go_ret
  exact ⟨_, Gv.rt, by first | exact Kd.R_nil _ _ _ _ _ | exact Kd.N_nil _ _ _ _ _ | exact Kd.V_nil _ _ _ _ _ | exact Kd.Q_nil _ _ _ _ _ | exact Kd.S_nil _ _ _ _ _, Gv.bw⟩

 subst c3
 rw [if_pos rfl] at H
 (try dsimp only at H)
 by_cases c4 : a0_0 = 4
 ·rw [if_pos c4] at H
  have c4b0 : (a0_0 == 4) = true := beq_iff_eq.mpr c4
  have c4b1 : (a0_0 != 4) = false := bne_eq_false_iff_eq.mpr c4
  clear c4
  replace H := Option.bind_eq_some_iff.mp H
  obtain ⟨t242, A50, H⟩ := H
  (try dsimp only at H)
  have A5 := Gv.a0 A50
  clear A50
  obtain rfl := Option.some.inj H
  go_enter Try.func71, Try.ntmps71
  go_wp2_with (first | ((with_reducible refine gate_dst (N := 1) rfl ?_); refine Gv.bev 1 29 #[.int .i64 a0_0, .int .i64 a0_1, .int .i64 a0_2, .int .i64 a0_3, .int .i64 a0_4] ?_; intro gb240 hg w6 hbox hb; have BK240 := Gv.a0 (hbox); have GW240 := Gv.a0 ((Gv.ble hg Gv.bw : w.heap.size ≤ gb240)); have GE240 := Gv.a0 ((Gv.ble hg Gv.bw : w.heap.size ≤ gb240)); replace HB := Gv.a0 (below_step Gv.bw hb); clear hb hbox hg; obtain ⟨hcz7_0, hcz7_1, hcz7_2, hcz7_3, hcz7_4⟩ := Gv.c5 BK240.out; obtain ⟨hfz7_0, hfz7_1, hfz7_2, hfz7_3, hfz7_4⟩ := Gv.f5 BK240.out) | ((with_reducible refine gate_callee (f := 80) rfl ?_); refine goesL_ (some 5) rfl rfl Try.func80 (by kernel_rfl) rfl #[.agg #[.int .i64 a0_0, .int .i64 a0_1, .int .i64 a0_2, .int .i64 a0_3, .int .i64 a0_4]] rfl Gv.lm ?_; (with_reducible refine (spec_AddrOk.calls a0_0 a0_1 a0_2 a0_3 a0_4 true _ A2.out).mono ?_); rintro e w8 ⟨rfl, hb⟩; refine ⟨_, rfl, ?_⟩; replace BK240 := Gv.b1 BK240 hb; replace HB := Gv.a0 (below_step Gv.bw hb); clear hb; obtain ⟨hcz9_0, hcz9_1, hcz9_2, hcz9_3, hcz9_4⟩ := Gv.c5 BK240.out; obtain ⟨hfz9_0, hfz9_1, hfz9_2, hfz9_3, hfz9_4⟩ := Gv.f5 BK240.out) | ((with_reducible refine gate_callee (f := 83) rfl ?_); refine goesL_ (some 12) rfl rfl Try.func83 (by kernel_rfl) rfl #[.int .i64 a0_4] rfl Gv.lm ?_; (with_reducible refine (spec_Put32.calls a0_4 t242 _ A5.out).mono ?_); rintro e w10 ⟨v243, rfl, ho0, hb⟩; refine ⟨_, rfl, ?_⟩; have HO244 := Gv.a0 (Kd.R_lower ho0 (below_size Gv.bw)); replace BK240 := Gv.b1 BK240 hb; replace HB := Gv.a0 (below_step Gv.bw hb); clear hb ho0))
  go_ret
  exact ⟨_, Gv.rt, Gv.kr HO244.out, Gv.bw⟩
 ·rw [if_neg c4] at H
  have c4b0 : (a0_0 == 4) = false := beq_eq_false_iff_ne.mpr c4
  have c4b1 : (a0_0 != 4) = true := bne_iff_ne.mpr c4
  replace H := Option.bind_eq_some_iff.mp H
  obtain ⟨t245, A110, H⟩ := H
  (try dsimp only at H)
  have A11 := Gv.a0 A110
  clear A110
  replace H := Option.bind_eq_some_iff.mp H
  obtain ⟨t248, A120, H⟩ := H
  (try dsimp only at H)
  have A12 := Gv.a0 A120
  clear A120
  by_cases c13 : t245.length + t248.length < 140737488355328
  rotate_left
  ·rw [if_neg c13] at H
   exact absurd H (by simp)
  rw [if_pos c13] at H
  have LMc13 := Gv.a0 c13
  clear c13
  obtain ⟨y251, hy251⟩ : ∃ y_ : List Int, y_ = (t245 ++ t248) := ⟨_, rfl⟩
  replace H : ((spec_Put32.f a0_3).bind fun t254 => (if y251.length + t254.length < 140737488355328 then ((some (y251 ++ t254 : List Int)).bind fun y257 => ((spec_Put32.f a0_4).bind fun t260 => (if y257.length + t260.length < 140737488355328 then (some (y257 ++ t260)) else (none)))) else (none))) = some r := by first | (rw [hy251]; with_reducible exact H) | (have H2_ := (Option.bind_some _ _).symm.trans H; rw [hy251]; with_reducible exact H2_) | (have H2_ := (Option.bind_some _ _).symm.trans H; with_reducible exact H2_) | with_reducible exact H | (rw [hy251]; exact H) | exact H
  have Ny251 := Gv.a0 hy251
  clear hy251
  replace H := Option.bind_eq_some_iff.mp H
  obtain ⟨t254, A140, H⟩ := H
  (try dsimp only at H)
  have A14 := Gv.a0 A140
  clear A140
  by_cases c15 : y251.length + t254.length < 140737488355328
  rotate_left
  ·rw [if_neg c15] at H
   exact absurd H (by simp)
  rw [if_pos c15] at H
  have LMc15 := Gv.a0 c15
  clear c15
  obtain ⟨y257, hy257⟩ : ∃ y_ : List Int, y_ = (y251 ++ t254) := ⟨_, rfl⟩
  replace H : ((spec_Put32.f a0_4).bind fun t260 => (if y257.length + t260.length < 140737488355328 then (some (y257 ++ t260)) else (none))) = some r := by first | (rw [hy257]; with_reducible exact H) | (have H2_ := (Option.bind_some _ _).symm.trans H; rw [hy257]; with_reducible exact H2_) | (have H2_ := (Option.bind_some _ _).symm.trans H; with_reducible exact H2_) | with_reducible exact H | (rw [hy257]; exact H) | exact H
  have Ny257 := Gv.a0 hy257
  clear hy257
  replace H := Option.bind_eq_some_iff.mp H
  obtain ⟨t260, A160, H⟩ := H
  (try dsimp only at H)
  have A16 := Gv.a0 A160
  clear A160
  by_cases c17 : y257.length + t260.length < 140737488355328
  rotate_left
  ·rw [if_neg c17] at H
   exact absurd H (by simp)
  rw [if_pos c17] at H
  have LMc17 := Gv.a0 c17
  clear c17
  obtain ⟨y263, hy263⟩ : ∃ y_ : List Int, y_ = (y257 ++ t260) := ⟨_, rfl⟩
  replace H : (some y263) = some r := by first | (rw [hy263]; with_reducible exact H) | (have H2_ := (Option.bind_some _ _).symm.trans H; rw [hy263]; with_reducible exact H2_) | (have H2_ := (Option.bind_some _ _).symm.trans H; with_reducible exact H2_) | with_reducible exact H | (rw [hy263]; exact H) | exact H
  have Ny263 := Gv.a0 hy263
  clear hy263
  obtain rfl := Option.some.inj H
  go_enter Try.func71, Try.ntmps71
  try go_wp2_with (first | ((with_reducible refine gate_dst (N := 1) rfl ?_); refine Gv.bev 1 29 #[.int .i64 a0_0, .int .i64 a0_1, .int .i64 a0_2, .int .i64 a0_3, .int .i64 a0_4] ?_; intro gb240 hg w18 hbox hb; have BK240 := Gv.a0 (hbox); have GW240 := Gv.a0 ((Gv.ble hg Gv.bw : w.heap.size ≤ gb240)); have GE240 := Gv.a0 ((Gv.ble hg Gv.bw : w.heap.size ≤ gb240)); replace HB := Gv.a0 (below_step Gv.bw hb); clear hb hbox hg; obtain ⟨hcz19_0, hcz19_1, hcz19_2, hcz19_3, hcz19_4⟩ := Gv.c5 BK240.out; obtain ⟨hfz19_0, hfz19_1, hfz19_2, hfz19_3, hfz19_4⟩ := Gv.f5 BK240.out) | ((with_reducible refine gate_callee (f := 80) rfl ?_); refine goesL_ (some 5) rfl rfl Try.func80 (by kernel_rfl) rfl #[.agg #[.int .i64 a0_0, .int .i64 a0_1, .int .i64 a0_2, .int .i64 a0_3, .int .i64 a0_4]] rfl Gv.lm ?_; (with_reducible refine (spec_AddrOk.calls a0_0 a0_1 a0_2 a0_3 a0_4 true _ A2.out).mono ?_); rintro e w20 ⟨rfl, hb⟩; refine ⟨_, rfl, ?_⟩; replace BK240 := Gv.b1 BK240 hb; replace HB := Gv.a0 (below_step Gv.bw hb); clear hb; obtain ⟨hcz21_0, hcz21_1, hcz21_2, hcz21_3, hcz21_4⟩ := Gv.c5 BK240.out; obtain ⟨hfz21_0, hfz21_1, hfz21_2, hfz21_3, hfz21_4⟩ := Gv.f5 BK240.out))
  replace BK240 := Gv.a0 (blk_drew BK240.out)
  replace HB := Gv.a0 (below_drew1 HB.out)
  refine start_ (n := 8) (S := fun w' => w'.cell? ⟨gb240, 0, none⟩ = some (.int .i64 a0_0) ∧ w'.cell? ⟨gb240, 1, none⟩ = some (.int .i64 a0_1) ∧ w'.cell? ⟨gb240, 2, none⟩ = some (.int .i64 a0_2) ∧ w'.cell? ⟨gb240, 3, none⟩ = some (.int .i64 a0_3) ∧ w'.cell? ⟨gb240, 4, none⟩ = some (.int .i64 a0_4)) (ds := []) #[false, false, false, false, false, false, false, false] (by kernel_rfl) rfl rfl ⟨Gv.q BK240.out, Gv.q BK240.out, Gv.q BK240.out, Gv.q BK240.out, Gv.q BK240.out⟩ (fun hHeld => ?_); refine with_tabW spec_AddrBytes.tab5 spec_AddrBytes.bits5 (fun HT_ HW_ => ?_)
  generalize w20.drew = w22 at BK240 HB hHeld ⊢
  refine Gv.pu 0 (some 13) HT_ ?_
  refine Gv.pu 3 (some 16) HT_ ?_
  refine take_ (i := 1) (N := some 14) (v := ?_) (a' := ?_) #[true, true, false, true, false, false, false, false] rfl rfl (take_ofW HT_.out HW_.out (by kernel_rfl)) (fun _ _ _ h => h) (Or.inl ⟨by rfl, ?_⟩) hHeld ?_ ?_
  rotate_left
  ·rintro w' ⟨s0, s1, s2, s3, s4⟩
   go_simp
   with_reducible rfl
  rotate_left
  ·simp only [Act.put, List.setIfInBounds_toArray, List.set_cons_zero, List.set_cons_succ, i64_w, i32_w]
   rfl
  refine take_ (i := 4) (N := some 17) (v := ?_) (a' := ?_) #[true, true, false, true, true, false, false, false] rfl rfl (take_ofW HT_.out HW_.out (by kernel_rfl)) (fun _ _ _ h => h) (Or.inl ⟨by rfl, ?_⟩) hHeld ?_ ?_
  rotate_left
  ·rintro w' ⟨s0, s1, s2, s3, s4⟩
   go_simp
   with_reducible rfl
  rotate_left
  ·simp only [Act.put, List.setIfInBounds_toArray, List.set_cons_zero, List.set_cons_succ, i64_w, i32_w]
   rfl
  refine one_ (i := 2) (N := some 15) #[true, true, true, true, true, false, false, false] rfl rfl (one_of HT_.out (by kernel_rfl)) (by decide) (fun K hK => ?_)
  refine goes_ Try.func83 (by kernel_rfl) rfl #[.int .i64 a0_1] (by rfl) rfl rfl Gv.lm ?_
  with_reducible refine (spec_Put32.calls a0_1 t245 _ A11.out).mono ?_
  rintro e w23 ⟨v246, rfl, ho0, hb⟩
  refine ⟨_, rfl, ?_⟩
  have HO247 := Gv.a0 (Kd.R_lower ho0 (below_size Gv.bw))
  replace BK240 := Gv.b1 BK240 hb
  replace HB := Gv.a0 (below_step Gv.bw hb)
  (try clear hb)
  (try clear hb2)
  (try clear hk)
  (try clear hi)
  (try clear ho0)
  refine hK.out _ _ ⟨Gv.q BK240.out, Gv.q BK240.out, Gv.q BK240.out, Gv.q BK240.out, Gv.q BK240.out⟩ (fun hHeld => ?_)
  clear hK K
  refine norm_ (a' := ?_) ?_ ?_
  rotate_left
  ·show Act.put _ (some 15) _ = _
   simp only [Act.put, List.setIfInBounds_toArray, List.set_cons_zero, List.set_cons_succ, i64_w, i32_w]
   rfl
  refine one_ (i := 5) (N := some 18) #[true, true, true, true, true, true, false, false] rfl rfl (one_of HT_.out (by kernel_rfl)) (by decide) (fun K hK => ?_)
  refine goes_ Try.func83 (by kernel_rfl) rfl #[.int .i64 a0_2] (by rfl) rfl rfl Gv.lm ?_
  with_reducible refine (spec_Put32.calls a0_2 t248 _ A12.out).mono ?_
  rintro e w24 ⟨v249, rfl, ho0, hb⟩
  refine ⟨_, rfl, ?_⟩
  have HO250 := Gv.a0 (Kd.R_lower (Kd.R_new' ho0 (Kd.R_lt (Gv.kr HO247.out))) (below_size Gv.bw))
  replace HO247 := Gv.a0 (Kd.R_elder' (Gv.kr HO247.out) (Kd.R_base ho0) hb)
  replace BK240 := Gv.b1 BK240 hb
  replace HB := Gv.a0 (below_step Gv.bw hb)
  (try clear hb)
  (try clear hb2)
  (try clear hk)
  (try clear hi)
  (try clear ho0)
  obtain ⟨Ao26, co26, eo26⟩ := Kd.R_slice HO250.out
  (first | subst eo26 | (injection eo26 with f1_ f2_ f3_; have f4_ := f1_.symm; have f5_ := f3_.symm; clear f1_ f2_ f3_; subst f4_; subst f5_))
  refine hK.out _ _ ⟨Gv.q BK240.out, Gv.q BK240.out, Gv.q BK240.out, Gv.q BK240.out, Gv.q BK240.out⟩ (fun hHeld => ?_)
  clear hK K
  refine norm_ (a' := ?_) ?_ ?_
  rotate_left
  ·show Act.put _ (some 18) _ = _
   simp only [Act.put, List.setIfInBounds_toArray, List.set_cons_zero, List.set_cons_succ, i64_w, i32_w]
   rfl
  refine one_ (i := 6) (N := some 19) #[true, true, true, true, true, true, true, false] rfl rfl (one_of HT_.out (by kernel_rfl)) (by decide) (fun K hK => ?_)
  refine Kd.R_append_rows_step (Kd.int .u8) (w0 := w) w.heap.size (by rfl) (.tmp 15) (.tmp 18) 68 5 (.int .u8 0) 1 rfl Try.underlying68 info5 rfl (by decide) (by omega) v246 t245 t248 _ _ _ (fun k_ => some k_ ≠ (.slice Ao26 t248.length co26 : Value).ownBlock) (fun _ => False) rfl rfl ?aO ?aR (fun _ _ h => h) (fun _ h => h.elim) ?aF ?aB ?aS ?aL ?_
  (case aR => repeat (first | exact (Kd.R_reads' HO250.out).2.2 | (with_reducible refine Kd.C_alloc ?_ _) | (with_reducible refine Kd.C_drewN ?_ _) | (with_reducible refine Kd.C_drew ?_)))
  (case aB => exact Gv.bw)
  (case aF => exact (fun k_ hk => Kd.fresh' (Kd.R_lt (Gv.kr HO250.out)) k_ hk))
  (case aO => exact (by (with_reducible repeat (first | apply Kd.R_alloc | apply Kd.R_drewN | apply Kd.R_drew)); exact Kd.R_mono HO247.out (fun _ hk => hk.2)))
  (case aS => exact (below_size Gv.bw))
  (case aL => have := LMc13.out; omega)
  intro v252 w25 ho hb hg hat
  rw [← Ny251.out] at ho
  replace BK240 := Gv.a0 (blk_grown (g := gb240) (o := .cells #[.int .i64 a0_0, .int .i64 a0_1, .int .i64 a0_2, .int .i64 a0_3, .int .i64 a0_4] 29 (0, 0)) Gv.bk hg (Kd.R_ne HO247.out BK240.out (by decide)))
  replace HO250 := Gv.a0 (Kd.R_after (ok := (fun _ => True)) (Gv.kr HO250.out) hg hat)
  replace HB := Gv.a0 (hb)
  have HO253 := Gv.a0 (ho)
  clear HO247 ho hb hg hat
  refine hK.out _ _ ⟨Gv.q BK240.out, Gv.q BK240.out, Gv.q BK240.out, Gv.q BK240.out, Gv.q BK240.out⟩ (fun hHeld => ?_)
  clear hK K
  refine norm_ (a' := ?_) ?_ ?_
  rotate_left
  ·show Act.put _ (some 19) _ = _
   simp only [Act.put, List.setIfInBounds_toArray, List.set_cons_zero, List.set_cons_succ, i64_w, i32_w]
   rfl
  refine Gv.pu 7 (some 3) HT_ ?_
  refine done_ (done_of HT_.out (by kernel_rfl)) ?_
  try go_wp2
  replace HO250 := Gv.a0 (Kd.R_drew HO250.out)
  replace HO253 := Gv.a0 (Kd.R_drew HO253.out)
  replace BK240 := Gv.a0 (blk_drew BK240.out)
  replace HB := Gv.a0 (below_drew1 HB.out)
  refine start_ (n := 10) (S := fun w' => w'.cell? ⟨gb240, 0, none⟩ = some (.int .i64 a0_0) ∧ w'.cell? ⟨gb240, 1, none⟩ = some (.int .i64 a0_1) ∧ w'.cell? ⟨gb240, 2, none⟩ = some (.int .i64 a0_2) ∧ w'.cell? ⟨gb240, 3, none⟩ = some (.int .i64 a0_3) ∧ w'.cell? ⟨gb240, 4, none⟩ = some (.int .i64 a0_4)) (ds := []) #[false, false, false, false, false, false, false, false, false, false] (by kernel_rfl) rfl rfl ⟨Gv.q BK240.out, Gv.q BK240.out, Gv.q BK240.out, Gv.q BK240.out, Gv.q BK240.out⟩ (fun hHeld => ?_); refine with_tabW spec_AddrBytes.tab6 spec_AddrBytes.bits6 (fun HT_ HW_ => ?_)
  generalize w25.drew = w27 at HO250 HO253 BK240 HB hHeld ⊢
  refine Gv.pu 0 (some 20) HT_ ?_
  refine Gv.pu 1 (some 21) HT_ ?_
  refine Gv.pu 5 (some 25) HT_ ?_
  refine take_ (i := 2) (N := some 22) (v := ?_) (a' := ?_) #[true, true, true, false, false, true, false, false, false, false] rfl rfl (take_ofW HT_.out HW_.out (by kernel_rfl)) (fun _ _ _ h => h) (Or.inl ⟨by rfl, ?_⟩) hHeld ?_ ?_
  rotate_left
  ·rintro w' ⟨s0, s1, s2, s3, s4⟩
   go_simp
   with_reducible rfl
  rotate_left
  ·simp only [Act.put, List.setIfInBounds_toArray, List.set_cons_zero, List.set_cons_succ, i64_w, i32_w]
   rfl
  refine take_ (i := 6) (N := some 26) (v := ?_) (a' := ?_) #[true, true, true, false, false, true, true, false, false, false] rfl rfl (take_ofW HT_.out HW_.out (by kernel_rfl)) (fun _ _ _ h => h) (Or.inl ⟨by rfl, ?_⟩) hHeld ?_ ?_
  rotate_left
  ·rintro w' ⟨s0, s1, s2, s3, s4⟩
   go_simp
   with_reducible rfl
  rotate_left
  ·simp only [Act.put, List.setIfInBounds_toArray, List.set_cons_zero, List.set_cons_succ, i64_w, i32_w]
   rfl
  refine one_ (i := 3) (N := some 23) #[true, true, true, true, false, true, true, false, false, false] rfl rfl (one_of HT_.out (by kernel_rfl)) (by decide) (fun K hK => ?_)
  refine goes_ Try.func83 (by kernel_rfl) rfl #[.int .i64 a0_3] (by rfl) rfl rfl Gv.lm ?_
  with_reducible refine (spec_Put32.calls a0_3 t254 _ A14.out).mono ?_
  rintro e w28 ⟨v255, rfl, ho0, hb⟩
  refine ⟨_, rfl, ?_⟩
  have HO256 := Gv.a0 (Kd.R_lower (Kd.R_new' (Kd.R_new' ho0 (Kd.R_lt (Gv.kr HO250.out))) (Kd.R_lt (Gv.kr HO253.out))) (below_size Gv.bw))
  replace HO250 := Gv.a0 (Kd.R_elder' (Gv.kr HO250.out) (Kd.R_base ho0) hb)
  replace HO253 := Gv.a0 (Kd.R_elder' (Gv.kr HO253.out) (Kd.R_base ho0) hb)
  replace BK240 := Gv.b1 BK240 hb
  replace HB := Gv.a0 (below_step Gv.bw hb)
  (try clear hb)
  (try clear hb2)
  (try clear hk)
  (try clear hi)
  (try clear ho0)
  obtain ⟨Ao30, co30, eo30⟩ := Kd.R_slice HO256.out
  (first | subst eo30 | (injection eo30 with f1_ f2_ f3_; have f4_ := f1_.symm; have f5_ := f3_.symm; clear f1_ f2_ f3_; subst f4_; subst f5_))
  refine hK.out _ _ ⟨Gv.q BK240.out, Gv.q BK240.out, Gv.q BK240.out, Gv.q BK240.out, Gv.q BK240.out⟩ (fun hHeld => ?_)
  clear hK K
  refine norm_ (a' := ?_) ?_ ?_
  rotate_left
  ·show Act.put _ (some 23) _ = _
   simp only [Act.put, List.setIfInBounds_toArray, List.set_cons_zero, List.set_cons_succ, i64_w, i32_w]
   rfl
  refine one_ (i := 4) (N := some 24) #[true, true, true, true, true, true, true, false, false, false] rfl rfl (one_of HT_.out (by kernel_rfl)) (by decide) (fun K hK => ?_)
  refine Kd.R_append_rows_step (Kd.int .u8) (w0 := w) w.heap.size (by rfl) (.tmp 20) (.tmp 23) 68 5 (.int .u8 0) 1 rfl Try.underlying68 info5 rfl (by decide) (by omega) v252 y251 t254 _ _ _ (fun k_ => some k_ ≠ (.slice Ao26 t248.length co26 : Value).ownBlock ∧ some k_ ≠ (.slice Ao30 t254.length co30 : Value).ownBlock) (fun _ => False) rfl rfl ?aO ?aR (fun _ _ h => h) (fun _ h => h.elim) ?aF ?aB ?aS ?aL ?_
  (case aR => repeat (first | exact (Kd.R_reads' HO256.out).2.2 | (with_reducible refine Kd.C_alloc ?_ _) | (with_reducible refine Kd.C_drewN ?_ _) | (with_reducible refine Kd.C_drew ?_)))
  (case aB => exact Gv.bw)
  (case aF => exact (fun k_ hk => ⟨Kd.fresh' (Kd.R_lt (Gv.kr HO250.out)) k_ hk, Kd.fresh' (Kd.R_lt (Gv.kr HO256.out)) k_ hk⟩))
  (case aO => exact (Gv.kr HO253.out))
  (case aS => exact (below_size Gv.bw))
  (case aL => have := LMc15.out; omega)
  intro v258 w29 ho hb hg hat
  rw [← Ny257.out] at ho
  replace BK240 := Gv.a0 (blk_grown (g := gb240) (o := .cells #[.int .i64 a0_0, .int .i64 a0_1, .int .i64 a0_2, .int .i64 a0_3, .int .i64 a0_4] 29 (0, 0)) Gv.bk hg (Kd.R_ne HO253.out BK240.out (by decide)))
  replace HO250 := Gv.a0 (Kd.R_after (ok := (fun k_ => some k_ ≠ (.slice Ao30 t254.length co30 : Value).ownBlock)) (by (with_reducible repeat (first | apply Kd.R_alloc | apply Kd.R_drewN | apply Kd.R_drew)); exact Kd.R_mono HO250.out (fun _ hk => ⟨hk.2, hk.1.2⟩)) hg hat)
  replace HO256 := Gv.a0 (Kd.R_after (ok := (fun k_ => some k_ ≠ (.slice Ao26 t248.length co26 : Value).ownBlock)) (by (with_reducible repeat (first | apply Kd.R_alloc | apply Kd.R_drewN | apply Kd.R_drew)); exact Kd.R_mono HO256.out (fun _ hk => ⟨hk.1.2, hk.2⟩)) hg hat)
  replace HB := Gv.a0 (hb)
  have HO259 := Gv.a0 (ho)
  clear HO253 ho hb hg hat
  refine hK.out _ _ ⟨Gv.q BK240.out, Gv.q BK240.out, Gv.q BK240.out, Gv.q BK240.out, Gv.q BK240.out⟩ (fun hHeld => ?_)
  clear hK K
  refine norm_ (a' := ?_) ?_ ?_
  rotate_left
  ·show Act.put _ (some 24) _ = _
   simp only [Act.put, List.setIfInBounds_toArray, List.set_cons_zero, List.set_cons_succ, i64_w, i32_w]
   rfl
  refine one_ (i := 7) (N := some 27) #[true, true, true, true, true, true, true, true, false, false] rfl rfl (one_of HT_.out (by kernel_rfl)) (by decide) (fun K hK => ?_)
  refine goes_ Try.func83 (by kernel_rfl) rfl #[.int .i64 a0_4] (by rfl) rfl rfl Gv.lm ?_
  with_reducible refine (spec_Put32.calls a0_4 t260 _ A16.out).mono ?_
  rintro e w31 ⟨v261, rfl, ho0, hb⟩
  refine ⟨_, rfl, ?_⟩
  have HO262 := Gv.a0 (Kd.R_lower (Kd.R_new' (Kd.R_new' (Kd.R_new' ho0 (Kd.R_lt (Gv.kr HO250.out))) (Kd.R_lt (Gv.kr HO256.out))) (Kd.R_lt (Gv.kr HO259.out))) (below_size Gv.bw))
  replace HO250 := Gv.a0 (Kd.R_elder' (Gv.kr HO250.out) (Kd.R_base ho0) hb)
  replace HO256 := Gv.a0 (Kd.R_elder' (Gv.kr HO256.out) (Kd.R_base ho0) hb)
  replace HO259 := Gv.a0 (Kd.R_elder' (Gv.kr HO259.out) (Kd.R_base ho0) hb)
  replace BK240 := Gv.b1 BK240 hb
  replace HB := Gv.a0 (below_step Gv.bw hb)
  (try clear hb)
  (try clear hb2)
  (try clear hk)
  (try clear hi)
  (try clear ho0)
  obtain ⟨Ao33, co33, eo33⟩ := Kd.R_slice HO262.out
  (first | subst eo33 | (injection eo33 with f1_ f2_ f3_; have f4_ := f1_.symm; have f5_ := f3_.symm; clear f1_ f2_ f3_; subst f4_; subst f5_))
  refine hK.out _ _ ⟨Gv.q BK240.out, Gv.q BK240.out, Gv.q BK240.out, Gv.q BK240.out, Gv.q BK240.out⟩ (fun hHeld => ?_)
  clear hK K
  refine norm_ (a' := ?_) ?_ ?_
  rotate_left
  ·show Act.put _ (some 27) _ = _
   simp only [Act.put, List.setIfInBounds_toArray, List.set_cons_zero, List.set_cons_succ, i64_w, i32_w]
   rfl
  refine one_ (i := 8) (N := some 28) #[true, true, true, true, true, true, true, true, true, false] rfl rfl (one_of HT_.out (by kernel_rfl)) (by decide) (fun K hK => ?_)
  refine Kd.R_append_rows_step (Kd.int .u8) (w0 := w) w.heap.size (by rfl) (.tmp 24) (.tmp 27) 68 5 (.int .u8 0) 1 rfl Try.underlying68 info5 rfl (by decide) (by omega) v258 y257 t260 _ _ _ (fun k_ => some k_ ≠ (.slice Ao26 t248.length co26 : Value).ownBlock ∧ some k_ ≠ (.slice Ao30 t254.length co30 : Value).ownBlock ∧ some k_ ≠ (.slice Ao33 t260.length co33 : Value).ownBlock) (fun _ => False) rfl rfl ?aO ?aR (fun _ _ h => h) (fun _ h => h.elim) ?aF ?aB ?aS ?aL ?_
  (case aR => repeat (first | exact (Kd.R_reads' HO262.out).2.2 | (with_reducible refine Kd.C_alloc ?_ _) | (with_reducible refine Kd.C_drewN ?_ _) | (with_reducible refine Kd.C_drew ?_)))
  (case aB => exact Gv.bw)
  (case aF => exact (fun k_ hk => ⟨Kd.fresh' (Kd.R_lt (Gv.kr HO250.out)) k_ hk, Kd.fresh' (Kd.R_lt (Gv.kr HO256.out)) k_ hk, Kd.fresh' (Kd.R_lt (Gv.kr HO262.out)) k_ hk⟩))
  (case aO => exact (by (with_reducible repeat (first | apply Kd.R_alloc | apply Kd.R_drewN | apply Kd.R_drew)); exact Kd.R_mono HO259.out (fun _ hk => ⟨hk.1.1, ⟨hk.1.2, hk.2⟩⟩)))
  (case aS => exact (below_size Gv.bw))
  (case aL => have := LMc17.out; omega)
  intro v264 w32 ho hb hg hat
  rw [← Ny263.out] at ho
  replace BK240 := Gv.a0 (blk_grown (g := gb240) (o := .cells #[.int .i64 a0_0, .int .i64 a0_1, .int .i64 a0_2, .int .i64 a0_3, .int .i64 a0_4] 29 (0, 0)) Gv.bk hg (Kd.R_ne HO259.out BK240.out (by decide)))
  replace HO250 := Gv.a0 (Kd.R_after (ok := (fun k_ => some k_ ≠ (.slice Ao30 t254.length co30 : Value).ownBlock ∧ some k_ ≠ (.slice Ao33 t260.length co33 : Value).ownBlock)) (by (with_reducible repeat (first | apply Kd.R_alloc | apply Kd.R_drewN | apply Kd.R_drew)); exact Kd.R_mono HO250.out (fun _ hk => ⟨⟨hk.1.1, hk.2⟩, hk.1.2⟩)) hg hat)
  replace HO256 := Gv.a0 (Kd.R_after (ok := (fun k_ => some k_ ≠ (.slice Ao26 t248.length co26 : Value).ownBlock ∧ some k_ ≠ (.slice Ao33 t260.length co33 : Value).ownBlock)) (by (with_reducible repeat (first | apply Kd.R_alloc | apply Kd.R_drewN | apply Kd.R_drew)); exact Kd.R_mono HO256.out (fun _ hk => ⟨⟨hk.1.1, hk.2⟩, hk.1.2⟩)) hg hat)
  replace HO262 := Gv.a0 (Kd.R_after (ok := (fun k_ => some k_ ≠ (.slice Ao26 t248.length co26 : Value).ownBlock ∧ some k_ ≠ (.slice Ao30 t254.length co30 : Value).ownBlock)) (by (with_reducible repeat (first | apply Kd.R_alloc | apply Kd.R_drewN | apply Kd.R_drew)); exact Kd.R_mono HO262.out (fun _ hk => ⟨⟨hk.1.1.2, hk.1.2⟩, hk.2⟩)) hg hat)
  replace HB := Gv.a0 (hb)
  have HO265 := Gv.a0 (ho)
  clear HO259 ho hb hg hat
  refine hK.out _ _ ⟨Gv.q BK240.out, Gv.q BK240.out, Gv.q BK240.out, Gv.q BK240.out, Gv.q BK240.out⟩ (fun hHeld => ?_)
  clear hK K
  refine norm_ (a' := ?_) ?_ ?_
  rotate_left
  ·show Act.put _ (some 28) _ = _
   simp only [Act.put, List.setIfInBounds_toArray, List.set_cons_zero, List.set_cons_succ, i64_w, i32_w]
   rfl
  refine Gv.pu 9 (some 2) HT_ ?_
  refine done_ (done_of HT_.out (by kernel_rfl)) ?_
  try go_wp2
  go_ret
  exact ⟨_, Gv.rt, by (with_reducible repeat (first | apply Kd.R_alloc | apply Kd.R_drewN | apply Kd.R_drew)); exact Kd.R_mono HO265.out (fun _ hk => trivial), Gv.bw⟩
/-! ### spec_l11Bytes: function 46 -/
def spec_l11Bytes.f (a0_0 : Int) (a0_1 : Int) (a0_2 : Int) (a0_3 : Int) (a0_4 : Int) (a0_5 : Int) (a0_6 : Int) (a0_7 : Int) (a0_8 : Int) (a0_9 : Int) (a0_10 : Int) (a0_11 : Int) (a0_12 : Int) (a0_13 : Int) : Option (List Int) := (some (([(a0_0) % 256, (a0_1) % 256] : List Int) : List Int)).bind fun y267 => ((spec_AddrBytes.f a0_1 a0_2 a0_3 a0_4 a0_5).bind fun t270 => (if y267.length + t270.length < 140737488355328 then ((some (y267 ++ t270 : List Int)).bind fun y273 => ((spec_AddrBytes.f a0_6 a0_7 a0_8 a0_9 a0_10).bind fun t276 => (if y273.length + t276.length < 140737488355328 then ((some (y273 ++ t276 : List Int)).bind fun y279 => (if y279.length < 140737488355328 then ((some (y279 ++ [(a0_11) % 256] : List Int)).bind fun y282 => ((spec_Put16.f a0_12).bind fun t285 => (if y282.length + t285.length < 140737488355328 then ((some (y282 ++ t285 : List Int)).bind fun y288 => ((spec_Put16.f a0_13).bind fun t291 => (if y288.length + t291.length < 140737488355328 then (some (y288 ++ t291)) else (none)))) else (none)))) else (none))) else (none)))) else (none)))
def spec_l11Bytes.T2 : Bool × List (List Nat × List Nat) := (true, [([], []), ([], []), ([1], [1]), ([2], [2]), ([3], [3]), ([0, 4, 4], [0, 4]), ([], []), ([6], [6]), ([7], [7]), ([8, 5], [8]), ([5, 9, 9], [5, 9]), ([10, 10, 0, 1, 2, 3, 4, 5, 6, 7, 8, 9, 10], [0, 10])])
def spec_l11Bytes.B2 : List Nat := [0, 0, 2, 6, 14, 31, 0, 64, 192, 511, 1023, 2047]
theorem spec_l11Bytes.tab2 : rtab .any (opsOf Try.f46 2) = spec_l11Bytes.T2 := by kernel_rfl
theorem spec_l11Bytes.bits2 : waitsOk spec_l11Bytes.T2.2 spec_l11Bytes.B2 = true := by kernel_rfl
def spec_l11Bytes.T4 : Bool × List (List Nat × List Nat) := (true, [([], []), ([], []), ([1], [1]), ([2], [2]), ([3], [3]), ([0, 4, 4], [0, 4]), ([], []), ([6], [6]), ([7], [7]), ([8, 5], [8]), ([5, 9, 9], [5, 9]), ([10, 10, 0, 1, 2, 3, 4, 5, 6, 7, 8, 9, 10], [10])])
def spec_l11Bytes.B4 : List Nat := [0, 0, 2, 6, 14, 31, 0, 64, 192, 511, 1023, 2047]
theorem spec_l11Bytes.tab4 : rtab .any (opsOf Try.f46 4) = spec_l11Bytes.T4 := by kernel_rfl
theorem spec_l11Bytes.bits4 : waitsOk spec_l11Bytes.T4.2 spec_l11Bytes.B4 = true := by kernel_rfl
set_option maxHeartbeats 8000000 in
set_option maxRecDepth 100000 in
theorem spec_l11Bytes.calls (a0_0 : Int) (a0_1 : Int) (a0_2 : Int) (a0_3 : Int) (a0_4 : Int) (a0_5 : Int) (a0_6 : Int) (a0_7 : Int) (a0_8 : Int) (a0_9 : Int) (a0_10 : Int) (a0_11 : Int) (a0_12 : Int) (a0_13 : Int) (r : List Int) (w : World) (h : spec_l11Bytes.f a0_0 a0_1 a0_2 a0_3 a0_4 a0_5 a0_6 a0_7 a0_8 a0_9 a0_10 a0_11 a0_12 a0_13 = some r) :
  Calls Try.prog 46 #[.agg #[.int .i64 a0_0, .int .i64 a0_1, .int .i64 a0_2, .int .i64 a0_3, .int .i64 a0_4, .int .i64 a0_5, .int .i64 a0_6, .int .i64 a0_7, .int .i64 a0_8, .int .i64 a0_9, .int .i64 a0_10, .int .i64 a0_11, .int .i64 a0_12, .int .i64 a0_13]] w fun e w' => ∃ v0_ : Value, e = .returned (v0_) ∧ Kd.R (Kd.int .u8) 5 w' w.heap.size (fun _ => True) v0_ r ∧ Below w.heap.size w w' := by
 have hu33 := Try.underlying33
 have hu29 := Try.underlying29
 have HB := Gv.a0 (Below.refl w.heap.size w)
 have H : ((some (([(a0_0) % 256, (a0_1) % 256] : List Int) : List Int)).bind fun y267 => ((spec_AddrBytes.f a0_1 a0_2 a0_3 a0_4 a0_5).bind fun t270 => (if y267.length + t270.length < 140737488355328 then ((some (y267 ++ t270 : List Int)).bind fun y273 => ((spec_AddrBytes.f a0_6 a0_7 a0_8 a0_9 a0_10).bind fun t276 => (if y273.length + t276.length < 140737488355328 then ((some (y273 ++ t276 : List Int)).bind fun y279 => (if y279.length < 140737488355328 then ((some (y279 ++ [(a0_11) % 256] : List Int)).bind fun y282 => ((spec_Put16.f a0_12).bind fun t285 => (if y282.length + t285.length < 140737488355328 then ((some (y282 ++ t285 : List Int)).bind fun y288 => ((spec_Put16.f a0_13).bind fun t291 => (if y288.length + t291.length < 140737488355328 then (some (y288 ++ t291)) else (none)))) else (none)))) else (none))) else (none)))) else (none)))) = some r := h
 clear h
 obtain ⟨y267, hy267⟩ : ∃ y_ : List Int, y_ = (([(a0_0) % 256, (a0_1) % 256] : List Int)) := ⟨_, rfl⟩
 replace H : ((spec_AddrBytes.f a0_1 a0_2 a0_3 a0_4 a0_5).bind fun t270 => (if y267.length + t270.length < 140737488355328 then ((some (y267 ++ t270 : List Int)).bind fun y273 => ((spec_AddrBytes.f a0_6 a0_7 a0_8 a0_9 a0_10).bind fun t276 => (if y273.length + t276.length < 140737488355328 then ((some (y273 ++ t276 : List Int)).bind fun y279 => (if y279.length < 140737488355328 then ((some (y279 ++ [(a0_11) % 256] : List Int)).bind fun y282 => ((spec_Put16.f a0_12).bind fun t285 => (if y282.length + t285.length < 140737488355328 then ((some (y282 ++ t285 : List Int)).bind fun y288 => ((spec_Put16.f a0_13).bind fun t291 => (if y288.length + t291.length < 140737488355328 then (some (y288 ++ t291)) else (none)))) else (none)))) else (none))) else (none)))) else (none))) = some r := by first | (rw [hy267]; with_reducible exact H) | (have H2_ := (Option.bind_some _ _).symm.trans H; rw [hy267]; with_reducible exact H2_) | (have H2_ := (Option.bind_some _ _).symm.trans H; with_reducible exact H2_) | with_reducible exact H | (rw [hy267]; exact H) | exact H
 have Ny267 := Gv.a0 hy267
 clear hy267
 replace H := Option.bind_eq_some_iff.mp H
 obtain ⟨t270, A20, H⟩ := H
 (try dsimp only at H)
 have A2 := Gv.a0 A20
 clear A20
 by_cases c3 : y267.length + t270.length < 140737488355328
 rotate_left
 ·rw [if_neg c3] at H
  exact absurd H (by simp)

 rw [if_pos c3] at H
 have LMc3 := Gv.a0 c3
 clear c3
 obtain ⟨y273, hy273⟩ : ∃ y_ : List Int, y_ = (y267 ++ t270) := ⟨_, rfl⟩
 replace H : ((spec_AddrBytes.f a0_6 a0_7 a0_8 a0_9 a0_10).bind fun t276 => (if y273.length + t276.length < 140737488355328 then ((some (y273 ++ t276 : List Int)).bind fun y279 => (if y279.length < 140737488355328 then ((some (y279 ++ [(a0_11) % 256] : List Int)).bind fun y282 => ((spec_Put16.f a0_12).bind fun t285 => (if y282.length + t285.length < 140737488355328 then ((some (y282 ++ t285 : List Int)).bind fun y288 => ((spec_Put16.f a0_13).bind fun t291 => (if y288.length + t291.length < 140737488355328 then (some (y288 ++ t291)) else (none)))) else (none)))) else (none))) else (none))) = some r := by first | (rw [hy273]; with_reducible exact H) | (have H2_ := (Option.bind_some _ _).symm.trans H; rw [hy273]; with_reducible exact H2_) | (have H2_ := (Option.bind_some _ _).symm.trans H; with_reducible exact H2_) | with_reducible exact H | (rw [hy273]; exact H) | exact H
 have Ny273 := Gv.a0 hy273
 clear hy273
 replace H := Option.bind_eq_some_iff.mp H
 obtain ⟨t276, A40, H⟩ := H
 (try dsimp only at H)
 have A4 := Gv.a0 A40
 clear A40
 by_cases c5 : y273.length + t276.length < 140737488355328
 rotate_left
 ·rw [if_neg c5] at H
  exact absurd H (by simp)
 rw [if_pos c5] at H
 have LMc5 := Gv.a0 c5
 clear c5
 obtain ⟨y279, hy279⟩ : ∃ y_ : List Int, y_ = (y273 ++ t276) := ⟨_, rfl⟩
 replace H : (if y279.length < 140737488355328 then ((some (y279 ++ [(a0_11) % 256] : List Int)).bind fun y282 => ((spec_Put16.f a0_12).bind fun t285 => (if y282.length + t285.length < 140737488355328 then ((some (y282 ++ t285 : List Int)).bind fun y288 => ((spec_Put16.f a0_13).bind fun t291 => (if y288.length + t291.length < 140737488355328 then (some (y288 ++ t291)) else (none)))) else (none)))) else (none)) = some r := by first | (rw [hy279]; with_reducible exact H) | (have H2_ := (Option.bind_some _ _).symm.trans H; rw [hy279]; with_reducible exact H2_) | (have H2_ := (Option.bind_some _ _).symm.trans H; with_reducible exact H2_) | with_reducible exact H | (rw [hy279]; exact H) | exact H
 have Ny279 := Gv.a0 hy279
 clear hy279
 by_cases c6 : y279.length < 140737488355328
 rotate_left
 ·rw [if_neg c6] at H
  exact absurd H (by simp)
 rw [if_pos c6] at H
 have LMc6 := Gv.a0 c6
 clear c6
 obtain ⟨y282, hy282⟩ : ∃ y_ : List Int, y_ = (y279 ++ [(a0_11) % 256]) := ⟨_, rfl⟩
 replace H : ((spec_Put16.f a0_12).bind fun t285 => (if y282.length + t285.length < 140737488355328 then ((some (y282 ++ t285 : List Int)).bind fun y288 => ((spec_Put16.f a0_13).bind fun t291 => (if y288.length + t291.length < 140737488355328 then (some (y288 ++ t291)) else (none)))) else (none))) = some r := by first | (rw [hy282]; with_reducible exact H) | (have H2_ := (Option.bind_some _ _).symm.trans H; rw [hy282]; with_reducible exact H2_) | (have H2_ := (Option.bind_some _ _).symm.trans H; with_reducible exact H2_) | with_reducible exact H | (rw [hy282]; exact H) | exact H
 have Ny282 := Gv.a0 hy282
 clear hy282
 replace H := Option.bind_eq_some_iff.mp H
 obtain ⟨t285, A70, H⟩ := H
 (try dsimp only at H)
 have A7 := Gv.a0 A70
 clear A70
 by_cases c8 : y282.length + t285.length < 140737488355328
 rotate_left
 ·rw [if_neg c8] at H
  exact absurd H (by simp)
 rw [if_pos c8] at H
 have LMc8 := Gv.a0 c8
 clear c8
 obtain ⟨y288, hy288⟩ : ∃ y_ : List Int, y_ = (y282 ++ t285) := ⟨_, rfl⟩
 replace H : ((spec_Put16.f a0_13).bind fun t291 => (if y288.length + t291.length < 140737488355328 then (some (y288 ++ t291)) else (none))) = some r := by first | (rw [hy288]; with_reducible exact H) | (have H2_ := (Option.bind_some _ _).symm.trans H; rw [hy288]; with_reducible exact H2_) | (have H2_ := (Option.bind_some _ _).symm.trans H; with_reducible exact H2_) | with_reducible exact H | (rw [hy288]; exact H) | exact H
 have Ny288 := Gv.a0 hy288
 clear hy288
 replace H := Option.bind_eq_some_iff.mp H
 obtain ⟨t291, A90, H⟩ := H
 (try dsimp only at H)
 have A9 := Gv.a0 A90
 clear A90
 by_cases c10 : y288.length + t291.length < 140737488355328
 rotate_left
 ·rw [if_neg c10] at H
  exact absurd H (by simp)
 rw [if_pos c10] at H
 have LMc10 := Gv.a0 c10
 clear c10
 obtain ⟨y294, hy294⟩ : ∃ y_ : List Int, y_ = (y288 ++ t291) := ⟨_, rfl⟩
 replace H : (some y294) = some r := by first | (rw [hy294]; with_reducible exact H) | (have H2_ := (Option.bind_some _ _).symm.trans H; rw [hy294]; with_reducible exact H2_) | (have H2_ := (Option.bind_some _ _).symm.trans H; with_reducible exact H2_) | with_reducible exact H | (rw [hy294]; exact H) | exact H
 have Ny294 := Gv.a0 hy294
 clear hy294
 obtain rfl := Option.some.inj H
 go_enter Try.func46, Try.ntmps46
 try go_wp2_with (first | ((with_reducible refine gate_dst (N := 1) rfl ?_); refine Gv.bev 1 33 #[.int .i64 a0_0, .int .i64 a0_1, .int .i64 a0_2, .int .i64 a0_3, .int .i64 a0_4, .int .i64 a0_5, .int .i64 a0_6, .int .i64 a0_7, .int .i64 a0_8, .int .i64 a0_9, .int .i64 a0_10, .int .i64 a0_11, .int .i64 a0_12, .int .i64 a0_13] ?_; intro gb266 hg w11 hbox hb; have BK266 := Gv.a0 (hbox); have GW266 := Gv.a0 ((Gv.ble hg Gv.bw : w.heap.size ≤ gb266)); have GE266 := Gv.a0 ((Gv.ble hg Gv.bw : w.heap.size ≤ gb266)); replace HB := Gv.a0 (below_step Gv.bw hb); clear hb hbox hg; obtain ⟨hcz12_0, hcz12_1, hcz12_2, hcz12_3, hcz12_4, hcz12_5, hcz12_6, hcz12_7, hcz12_8, hcz12_9, hcz12_10, hcz12_11, hcz12_12, hcz12_13⟩ := Gv.c14 BK266.out; obtain ⟨hfz12_0, hfz12_1, hfz12_2, hfz12_3, hfz12_4, hfz12_5, hfz12_6, hfz12_7, hfz12_8, hfz12_9, hfz12_10, hfz12_11, hfz12_12, hfz12_13⟩ := Gv.f14 BK266.out) | ((with_reducible refine gate_dst (N := 12) rfl ?_); refine Kd.R_lit (Kd.int .u8) _ 5 ?hg (N := 12) ?hd (xs := ([(a0_0) % 256, (a0_1) % 256] : List Int)) (inner := [.int .u8 ((a0_0) % 256), .int .u8 ((a0_1) % 256)]) (ok := fun _ => True) (okp := fun _ => True) ?hr ?hp (fun _ hk => hk) trivial (Below.refl _ _) (Nat.le_refl _) (by simp) ?_; (case hd => rfl); (case hg => rfl); (case hr => first | (go_simp; done) | (go_simp; rfl)); (case hp => exact (Reps.one (show Kd.M (Kd.int .u8) _ _ _ ((a0_0) % 256) [.int .u8 ((a0_0) % 256)] from rfl) (Reps.one (show Kd.M (Kd.int .u8) _ _ _ ((a0_1) % 256) [.int .u8 ((a0_1) % 256)] from rfl) (Reps.none _ _)))); intro v268 w13 ho14 hb hg_ hnew_; clear hg_ hnew_; (first | rw [← Ny267.out] at ho14 | (simp only [Int.reduceToNat] at ho14; rw [← Ny267.out] at ho14)); have HO269 := Gv.a0 (Kd.R_lower ho14 (below_size Gv.bw)); replace BK266 := Gv.b1 BK266 hb; replace HB := Gv.a0 (below_step Gv.bw hb); clear hb ho14))
 replace HO269 := Gv.a0 (Kd.R_drew HO269.out)
 replace BK266 := Gv.a0 (blk_drew BK266.out)
 replace HB := Gv.a0 (below_drew1 HB.out)
 refine start_ (n := 12) (S := fun w' => w'.cell? ⟨gb266, 0, none⟩ = some (.int .i64 a0_0) ∧ w'.cell? ⟨gb266, 1, none⟩ = some (.int .i64 a0_1) ∧ w'.cell? ⟨gb266, 2, none⟩ = some (.int .i64 a0_2) ∧ w'.cell? ⟨gb266, 3, none⟩ = some (.int .i64 a0_3) ∧ w'.cell? ⟨gb266, 4, none⟩ = some (.int .i64 a0_4) ∧ w'.cell? ⟨gb266, 5, none⟩ = some (.int .i64 a0_5) ∧ w'.cell? ⟨gb266, 6, none⟩ = some (.int .i64 a0_6) ∧ w'.cell? ⟨gb266, 7, none⟩ = some (.int .i64 a0_7) ∧ w'.cell? ⟨gb266, 8, none⟩ = some (.int .i64 a0_8) ∧ w'.cell? ⟨gb266, 9, none⟩ = some (.int .i64 a0_9) ∧ w'.cell? ⟨gb266, 10, none⟩ = some (.int .i64 a0_10) ∧ w'.cell? ⟨gb266, 11, none⟩ = some (.int .i64 a0_11) ∧ w'.cell? ⟨gb266, 12, none⟩ = some (.int .i64 a0_12) ∧ w'.cell? ⟨gb266, 13, none⟩ = some (.int .i64 a0_13)) (ds := []) #[false, false, false, false, false, false, false, false, false, false, false, false] (by kernel_rfl) rfl rfl ⟨Gv.q BK266.out, Gv.q BK266.out, Gv.q BK266.out, Gv.q BK266.out, Gv.q BK266.out, Gv.q BK266.out, Gv.q BK266.out, Gv.q BK266.out, Gv.q BK266.out, Gv.q BK266.out, Gv.q BK266.out, Gv.q BK266.out, Gv.q BK266.out, Gv.q BK266.out⟩ (fun hHeld => ?_); refine with_tabW spec_l11Bytes.tab2 spec_l11Bytes.bits2 (fun HT_ HW_ => ?_)
 generalize w13.drew = w15 at HO269 BK266 HB hHeld ⊢
 refine Gv.pu 0 (some 13) HT_ ?_
 refine Gv.pu 1 (some 14) HT_ ?_
 refine Gv.pu 2 (some 15) HT_ ?_
 refine Gv.pu 6 (some 19) HT_ ?_
 refine Gv.pu 7 (some 20) HT_ ?_
 refine take_ (i := 3) (N := some 16) (v := ?_) (a' := ?_) #[true, true, true, true, false, false, true, true, false, false, false, false] rfl rfl (take_ofW HT_.out HW_.out (by kernel_rfl)) (fun _ _ _ h => h) (Or.inl ⟨by rfl, ?_⟩) hHeld ?_ ?_
 rotate_left
 ·rintro w' ⟨s0, s1, s2, s3, s4, s5, s6, s7, s8, s9, s10, s11, s12, s13⟩
  first | ((refine Gv.load_run (t := 33) (A := ⟨gb266, 0, none⟩) (cs := [_, _, _, _, _, _, _, _, _, _, _, _, _, _]) (x := ?xx7_) ?ho7_ ?hx7_ ⟨s0, s1, s2, s3, s4, s5, s6, s7, s8, s9, s10, s11, s12, s13, trivial⟩ Try.underlying33 rfl (by kernel_rfl)); (case ho7_ => rfl); (case hx7_ => rfl)) | (go_simp; with_reducible rfl)
 rotate_left
 ·simp only [Act.put, List.setIfInBounds_toArray, List.set_cons_zero, List.set_cons_succ, i64_w, i32_w]
  rfl
 refine take_ (i := 8) (N := some 21) (v := ?_) (a' := ?_) #[true, true, true, true, false, false, true, true, true, false, false, false] rfl rfl (take_ofW HT_.out HW_.out (by kernel_rfl)) (fun _ _ _ h => h) (Or.inl ⟨by rfl, ?_⟩) hHeld ?_ ?_
 rotate_left
 ·rintro w' ⟨s0, s1, s2, s3, s4, s5, s6, s7, s8, s9, s10, s11, s12, s13⟩
  first | ((refine Gv.load_run (t := 33) (A := ⟨gb266, 0, none⟩) (cs := [_, _, _, _, _, _, _, _, _, _, _, _, _, _]) (x := ?xx9_) ?ho9_ ?hx9_ ⟨s0, s1, s2, s3, s4, s5, s6, s7, s8, s9, s10, s11, s12, s13, trivial⟩ Try.underlying33 rfl (by kernel_rfl)); (case ho9_ => rfl); (case hx9_ => rfl)) | (go_simp; with_reducible rfl)
 rotate_left
 ·simp only [Act.put, List.setIfInBounds_toArray, List.set_cons_zero, List.set_cons_succ, i64_w, i32_w]
  rfl
 refine one_ (i := 4) (N := some 17) #[true, true, true, true, true, false, true, true, true, false, false, false] rfl rfl (one_of HT_.out (by kernel_rfl)) (by decide) (fun K hK => ?_)
 refine goes_ Try.func71 (by kernel_rfl) rfl #[.agg #[.int .i64 a0_1, .int .i64 a0_2, .int .i64 a0_3, .int .i64 a0_4, .int .i64 a0_5]] (by rfl) rfl rfl Gv.lm ?_
 with_reducible refine (spec_AddrBytes.calls a0_1 a0_2 a0_3 a0_4 a0_5 t270 _ A2.out).mono ?_
 rintro e w16 ⟨v271, rfl, ho0, hb⟩
 refine ⟨_, rfl, ?_⟩
 have HO272 := Gv.a0 (Kd.R_lower (Kd.R_new' ho0 (Kd.R_lt (Gv.kr HO269.out))) (below_size Gv.bw))
 replace HO269 := Gv.a0 (Kd.R_elder' (Gv.kr HO269.out) (Kd.R_base ho0) hb)
 replace BK266 := Gv.b1 BK266 hb
 replace HB := Gv.a0 (below_step Gv.bw hb)
 (try clear hb)
 (try clear hb2)
 (try clear hk)
 (try clear hi)
 (try clear ho0)
 obtain ⟨Ao18, co18, eo18⟩ := Kd.R_slice HO272.out
 (first | subst eo18 | (injection eo18 with f1_ f2_ f3_; have f4_ := f1_.symm; have f5_ := f3_.symm; clear f1_ f2_ f3_; subst f4_; subst f5_))
 refine hK.out _ _ ⟨Gv.q BK266.out, Gv.q BK266.out, Gv.q BK266.out, Gv.q BK266.out, Gv.q BK266.out, Gv.q BK266.out, Gv.q BK266.out, Gv.q BK266.out, Gv.q BK266.out, Gv.q BK266.out, Gv.q BK266.out, Gv.q BK266.out, Gv.q BK266.out, Gv.q BK266.out⟩ (fun hHeld => ?_)
 clear hK K
 refine norm_ (a' := ?_) ?_ ?_
 rotate_left
 ·show Act.put _ (some 17) _ = _
  simp only [Act.put, List.setIfInBounds_toArray, List.set_cons_zero, List.set_cons_succ, i64_w, i32_w]
  rfl
 refine one_ (i := 5) (N := some 18) #[true, true, true, true, true, true, true, true, true, false, false, false] rfl rfl (one_of HT_.out (by kernel_rfl)) (by decide) (fun K hK => ?_)
 refine Kd.R_append_rows_step (Kd.int .u8) (w0 := w) w.heap.size (by rfl) (.tmp 13) (.tmp 17) 68 5 (.int .u8 0) 1 rfl Try.underlying68 info5 rfl (by decide) (by omega) v268 y267 t270 _ _ _ (fun k_ => some k_ ≠ (.slice Ao18 t270.length co18 : Value).ownBlock) (fun _ => False) rfl rfl ?aO ?aR (fun _ _ h => h) (fun _ h => h.elim) ?aF ?aB ?aS ?aL ?_
 (case aR => repeat (first | exact (Kd.R_reads' HO272.out).2.2 | (with_reducible refine Kd.C_alloc ?_ _) | (with_reducible refine Kd.C_drewN ?_ _) | (with_reducible refine Kd.C_drew ?_)))
 (case aB => exact Gv.bw)
 (case aF => exact (fun k_ hk => Kd.fresh' (Kd.R_lt (Gv.kr HO272.out)) k_ hk))
 (case aO => exact (by (with_reducible repeat (first | apply Kd.R_alloc | apply Kd.R_drewN | apply Kd.R_drew)); exact Kd.R_mono HO269.out (fun _ hk => hk.2)))
 (case aS => exact (below_size Gv.bw))
 (case aL => have := LMc3.out; omega)
 intro v274 w17 ho hb hg hat
 rw [← Ny273.out] at ho
 replace BK266 := Gv.a0 (blk_grown (g := gb266) (o := .cells #[.int .i64 a0_0, .int .i64 a0_1, .int .i64 a0_2, .int .i64 a0_3, .int .i64 a0_4, .int .i64 a0_5, .int .i64 a0_6, .int .i64 a0_7, .int .i64 a0_8, .int .i64 a0_9, .int .i64 a0_10, .int .i64 a0_11, .int .i64 a0_12, .int .i64 a0_13] 33 (0, 0)) Gv.bk hg (Kd.R_ne HO269.out BK266.out (by decide)))
 replace HO272 := Gv.a0 (Kd.R_after (ok := (fun _ => True)) (Gv.kr HO272.out) hg hat)
 replace HB := Gv.a0 (hb)
 have HO275 := Gv.a0 (ho)
 clear HO269 ho hb hg hat
 refine hK.out _ _ ⟨Gv.q BK266.out, Gv.q BK266.out, Gv.q BK266.out, Gv.q BK266.out, Gv.q BK266.out, Gv.q BK266.out, Gv.q BK266.out, Gv.q BK266.out, Gv.q BK266.out, Gv.q BK266.out, Gv.q BK266.out, Gv.q BK266.out, Gv.q BK266.out, Gv.q BK266.out⟩ (fun hHeld => ?_)
 clear hK K
 refine norm_ (a' := ?_) ?_ ?_
 rotate_left
 ·show Act.put _ (some 18) _ = _
  simp only [Act.put, List.setIfInBounds_toArray, List.set_cons_zero, List.set_cons_succ, i64_w, i32_w]
  rfl
 refine one_ (i := 9) (N := some 22) #[true, true, true, true, true, true, true, true, true, true, false, false] rfl rfl (one_of HT_.out (by kernel_rfl)) (by decide) (fun K hK => ?_)
 refine goes_ Try.func71 (by kernel_rfl) rfl #[.agg #[.int .i64 a0_6, .int .i64 a0_7, .int .i64 a0_8, .int .i64 a0_9, .int .i64 a0_10]] (by rfl) rfl rfl Gv.lm ?_
 with_reducible refine (spec_AddrBytes.calls a0_6 a0_7 a0_8 a0_9 a0_10 t276 _ A4.out).mono ?_
 rintro e w19 ⟨v277, rfl, ho0, hb⟩
 refine ⟨_, rfl, ?_⟩
 have HO278 := Gv.a0 (Kd.R_lower (Kd.R_new' (Kd.R_new' ho0 (Kd.R_lt (Gv.kr HO272.out))) (Kd.R_lt (Gv.kr HO275.out))) (below_size Gv.bw))
 replace HO272 := Gv.a0 (Kd.R_elder' (Gv.kr HO272.out) (Kd.R_base ho0) hb)
 replace HO275 := Gv.a0 (Kd.R_elder' (Gv.kr HO275.out) (Kd.R_base ho0) hb)
 replace BK266 := Gv.b1 BK266 hb
 replace HB := Gv.a0 (below_step Gv.bw hb)
 (try clear hb)
 (try clear hb2)
 (try clear hk)
 (try clear hi)
 (try clear ho0)
 obtain ⟨Ao21, co21, eo21⟩ := Kd.R_slice HO278.out
 (first | subst eo21 | (injection eo21 with f1_ f2_ f3_; have f4_ := f1_.symm; have f5_ := f3_.symm; clear f1_ f2_ f3_; subst f4_; subst f5_))
 refine hK.out _ _ ⟨Gv.q BK266.out, Gv.q BK266.out, Gv.q BK266.out, Gv.q BK266.out, Gv.q BK266.out, Gv.q BK266.out, Gv.q BK266.out, Gv.q BK266.out, Gv.q BK266.out, Gv.q BK266.out, Gv.q BK266.out, Gv.q BK266.out, Gv.q BK266.out, Gv.q BK266.out⟩ (fun hHeld => ?_)
 clear hK K
 refine norm_ (a' := ?_) ?_ ?_
 rotate_left
 ·show Act.put _ (some 22) _ = _
  simp only [Act.put, List.setIfInBounds_toArray, List.set_cons_zero, List.set_cons_succ, i64_w, i32_w]
  rfl
 refine one_ (i := 10) (N := some 23) #[true, true, true, true, true, true, true, true, true, true, true, false] rfl rfl (one_of HT_.out (by kernel_rfl)) (by decide) (fun K hK => ?_)
 refine Kd.R_append_rows_step (Kd.int .u8) (w0 := w) w.heap.size (by rfl) (.tmp 18) (.tmp 22) 68 5 (.int .u8 0) 1 rfl Try.underlying68 info5 rfl (by decide) (by omega) v274 y273 t276 _ _ _ (fun k_ => some k_ ≠ (.slice Ao18 t270.length co18 : Value).ownBlock ∧ some k_ ≠ (.slice Ao21 t276.length co21 : Value).ownBlock) (fun _ => False) rfl rfl ?aO ?aR (fun _ _ h => h) (fun _ h => h.elim) ?aF ?aB ?aS ?aL ?_
 (case aR => repeat (first | exact (Kd.R_reads' HO278.out).2.2 | (with_reducible refine Kd.C_alloc ?_ _) | (with_reducible refine Kd.C_drewN ?_ _) | (with_reducible refine Kd.C_drew ?_)))
 (case aB => exact Gv.bw)
 (case aF => exact (fun k_ hk => ⟨Kd.fresh' (Kd.R_lt (Gv.kr HO272.out)) k_ hk, Kd.fresh' (Kd.R_lt (Gv.kr HO278.out)) k_ hk⟩))
 (case aO => exact (Gv.kr HO275.out))
 (case aS => exact (below_size Gv.bw))
 (case aL => have := LMc5.out; omega)
 intro v280 w20 ho hb hg hat
 rw [← Ny279.out] at ho
 replace BK266 := Gv.a0 (blk_grown (g := gb266) (o := .cells #[.int .i64 a0_0, .int .i64 a0_1, .int .i64 a0_2, .int .i64 a0_3, .int .i64 a0_4, .int .i64 a0_5, .int .i64 a0_6, .int .i64 a0_7, .int .i64 a0_8, .int .i64 a0_9, .int .i64 a0_10, .int .i64 a0_11, .int .i64 a0_12, .int .i64 a0_13] 33 (0, 0)) Gv.bk hg (Kd.R_ne HO275.out BK266.out (by decide)))
 replace HO272 := Gv.a0 (Kd.R_after (ok := (fun k_ => some k_ ≠ (.slice Ao21 t276.length co21 : Value).ownBlock)) (by (with_reducible repeat (first | apply Kd.R_alloc | apply Kd.R_drewN | apply Kd.R_drew)); exact Kd.R_mono HO272.out (fun _ hk => ⟨hk.2, hk.1.2⟩)) hg hat)
 replace HO278 := Gv.a0 (Kd.R_after (ok := (fun k_ => some k_ ≠ (.slice Ao18 t270.length co18 : Value).ownBlock)) (by (with_reducible repeat (first | apply Kd.R_alloc | apply Kd.R_drewN | apply Kd.R_drew)); exact Kd.R_mono HO278.out (fun _ hk => ⟨hk.1.2, hk.2⟩)) hg hat)
 replace HB := Gv.a0 (hb)
 have HO281 := Gv.a0 (ho)
 clear HO275 ho hb hg hat
 refine hK.out _ _ ⟨Gv.q BK266.out, Gv.q BK266.out, Gv.q BK266.out, Gv.q BK266.out, Gv.q BK266.out, Gv.q BK266.out, Gv.q BK266.out, Gv.q BK266.out, Gv.q BK266.out, Gv.q BK266.out, Gv.q BK266.out, Gv.q BK266.out, Gv.q BK266.out, Gv.q BK266.out⟩ (fun hHeld => ?_)
 clear hK K
 refine norm_ (a' := ?_) ?_ ?_
 rotate_left
 ·show Act.put _ (some 23) _ = _
  simp only [Act.put, List.setIfInBounds_toArray, List.set_cons_zero, List.set_cons_succ, i64_w, i32_w]
  rfl
 refine Gv.pu 11 (some 3) HT_ ?_
 refine done_ (done_of HT_.out (by kernel_rfl)) ?_
 obtain ⟨hcz22_0, hcz22_1, hcz22_2, hcz22_3, hcz22_4, hcz22_5, hcz22_6, hcz22_7, hcz22_8, hcz22_9, hcz22_10, hcz22_11, hcz22_12, hcz22_13⟩ := Gv.c14 BK266.out
 obtain ⟨hfz22_0, hfz22_1, hfz22_2, hfz22_3, hfz22_4, hfz22_5, hfz22_6, hfz22_7, hfz22_8, hfz22_9, hfz22_10, hfz22_11, hfz22_12, hfz22_13⟩ := Gv.f14 BK266.out
 try go_wp2_with (first | ((with_reducible refine gate_builtin (b := .append) (xs := #[.tmp 24, .tmp 29]) rfl ?_); at_builtin; refine Kd.R_append (Kd.int .u8) (w0 := w) w.heap.size rfl (.tmp 24) (.tmp 29) 68 5 (.int .u8 0) 1 rfl Try.underlying68 info5 rfl (by decide) (by omega) v280 y279 ((a0_11) % 256) [.int .u8 ((a0_11) % 256)] (fun k_ => some k_ ≠ (.slice Ao18 t270.length co18 : Value).ownBlock ∧ some k_ ≠ (.slice Ao21 t276.length co21 : Value).ownBlock) (fun _ => False) rfl rfl ?aP (fun _ hk => hk.elim) ?aF ?aO ?aB ?aS ?aL ?_; (case aP => exact rfl); (case aB => exact Gv.bw); (case aF => exact (fun k_ hk => ⟨Kd.fresh' (Kd.R_lt (Gv.kr HO272.out)) k_ hk, Kd.fresh' (Kd.R_lt (Gv.kr HO278.out)) k_ hk⟩)); (case aO => exact (Gv.kr HO281.out)); (case aS => exact (below_size Gv.bw)); (case aL => have := LMc6.out; omega); intro v283 w23 ho hb hg hat; rw [← Ny282.out] at ho; replace BK266 := Gv.a0 (blk_grown (g := gb266) (o := .cells #[.int .i64 a0_0, .int .i64 a0_1, .int .i64 a0_2, .int .i64 a0_3, .int .i64 a0_4, .int .i64 a0_5, .int .i64 a0_6, .int .i64 a0_7, .int .i64 a0_8, .int .i64 a0_9, .int .i64 a0_10, .int .i64 a0_11, .int .i64 a0_12, .int .i64 a0_13] 33 (0, 0)) Gv.bk hg (Kd.R_ne HO281.out BK266.out (by decide))); replace HO272 := Gv.a0 (Kd.R_after (ok := (fun k_ => some k_ ≠ (.slice Ao21 t276.length co21 : Value).ownBlock)) (Gv.kr HO272.out) hg hat); replace HO278 := Gv.a0 (Kd.R_after (ok := (fun k_ => some k_ ≠ (.slice Ao18 t270.length co18 : Value).ownBlock)) (Gv.kr HO278.out) hg hat); replace HB := Gv.a0 (hb); have HO284 := Gv.a0 (ho); clear HO281 ho hb hg hat))
 replace HO272 := Gv.a0 (Kd.R_drew HO272.out)
 replace HO278 := Gv.a0 (Kd.R_drew HO278.out)
 replace HO284 := Gv.a0 (Kd.R_drew HO284.out)
 replace BK266 := Gv.a0 (blk_drew BK266.out)
 replace HB := Gv.a0 (below_drew1 HB.out)
 refine start_ (n := 12) (S := fun w' => w'.cell? ⟨gb266, 0, none⟩ = some (.int .i64 a0_0) ∧ w'.cell? ⟨gb266, 1, none⟩ = some (.int .i64 a0_1) ∧ w'.cell? ⟨gb266, 2, none⟩ = some (.int .i64 a0_2) ∧ w'.cell? ⟨gb266, 3, none⟩ = some (.int .i64 a0_3) ∧ w'.cell? ⟨gb266, 4, none⟩ = some (.int .i64 a0_4) ∧ w'.cell? ⟨gb266, 5, none⟩ = some (.int .i64 a0_5) ∧ w'.cell? ⟨gb266, 6, none⟩ = some (.int .i64 a0_6) ∧ w'.cell? ⟨gb266, 7, none⟩ = some (.int .i64 a0_7) ∧ w'.cell? ⟨gb266, 8, none⟩ = some (.int .i64 a0_8) ∧ w'.cell? ⟨gb266, 9, none⟩ = some (.int .i64 a0_9) ∧ w'.cell? ⟨gb266, 10, none⟩ = some (.int .i64 a0_10) ∧ w'.cell? ⟨gb266, 11, none⟩ = some (.int .i64 a0_11) ∧ w'.cell? ⟨gb266, 12, none⟩ = some (.int .i64 a0_12) ∧ w'.cell? ⟨gb266, 13, none⟩ = some (.int .i64 a0_13)) (ds := []) #[false, false, false, false, false, false, false, false, false, false, false, false] (by kernel_rfl) rfl rfl ⟨Gv.q BK266.out, Gv.q BK266.out, Gv.q BK266.out, Gv.q BK266.out, Gv.q BK266.out, Gv.q BK266.out, Gv.q BK266.out, Gv.q BK266.out, Gv.q BK266.out, Gv.q BK266.out, Gv.q BK266.out, Gv.q BK266.out, Gv.q BK266.out, Gv.q BK266.out⟩ (fun hHeld => ?_); refine with_tabW spec_l11Bytes.tab4 spec_l11Bytes.bits4 (fun HT_ HW_ => ?_)
 generalize w23.drew = w24 at HO272 HO278 HO284 BK266 HB hHeld ⊢
 refine Gv.pu 0 (some 31) HT_ ?_
 refine Gv.pu 1 (some 32) HT_ ?_
 refine Gv.pu 2 (some 33) HT_ ?_
 refine Gv.pu 6 (some 37) HT_ ?_
 refine Gv.pu 7 (some 38) HT_ ?_
 refine take_ (i := 3) (N := some 34) (v := ?_) (a' := ?_) #[true, true, true, true, false, false, true, true, false, false, false, false] rfl rfl (take_ofW HT_.out HW_.out (by kernel_rfl)) (fun _ _ _ h => h) (Or.inl ⟨by rfl, ?_⟩) hHeld ?_ ?_
 rotate_left
 ·rintro w' ⟨s0, s1, s2, s3, s4, s5, s6, s7, s8, s9, s10, s11, s12, s13⟩
  first | ((refine Gv.load_run (t := 33) (A := ⟨gb266, 0, none⟩) (cs := [_, _, _, _, _, _, _, _, _, _, _, _, _, _]) (x := ?xx11_) ?ho11_ ?hx11_ ⟨s0, s1, s2, s3, s4, s5, s6, s7, s8, s9, s10, s11, s12, s13, trivial⟩ Try.underlying33 rfl (by kernel_rfl)); (case ho11_ => rfl); (case hx11_ => rfl)) | (go_simp; with_reducible rfl)
 rotate_left
 ·simp only [Act.put, List.setIfInBounds_toArray, List.set_cons_zero, List.set_cons_succ, i64_w, i32_w]
  rfl
 refine take_ (i := 8) (N := some 39) (v := ?_) (a' := ?_) #[true, true, true, true, false, false, true, true, true, false, false, false] rfl rfl (take_ofW HT_.out HW_.out (by kernel_rfl)) (fun _ _ _ h => h) (Or.inl ⟨by rfl, ?_⟩) hHeld ?_ ?_
 rotate_left
 ·rintro w' ⟨s0, s1, s2, s3, s4, s5, s6, s7, s8, s9, s10, s11, s12, s13⟩
  first | ((refine Gv.load_run (t := 33) (A := ⟨gb266, 0, none⟩) (cs := [_, _, _, _, _, _, _, _, _, _, _, _, _, _]) (x := ?xx13_) ?ho13_ ?hx13_ ⟨s0, s1, s2, s3, s4, s5, s6, s7, s8, s9, s10, s11, s12, s13, trivial⟩ Try.underlying33 rfl (by kernel_rfl)); (case ho13_ => rfl); (case hx13_ => rfl)) | (go_simp; with_reducible rfl)
 rotate_left
 ·simp only [Act.put, List.setIfInBounds_toArray, List.set_cons_zero, List.set_cons_succ, i64_w, i32_w]
  rfl
 refine one_ (i := 4) (N := some 35) #[true, true, true, true, true, false, true, true, true, false, false, false] rfl rfl (one_of HT_.out (by kernel_rfl)) (by decide) (fun K hK => ?_)
 refine goes_ Try.func72 (by kernel_rfl) rfl #[.int .i64 a0_12] (by rfl) rfl rfl Gv.lm ?_
 with_reducible refine (spec_Put16.calls a0_12 t285 _ A7.out).mono ?_
 rintro e w25 ⟨v286, rfl, ho0, hb⟩
 refine ⟨_, rfl, ?_⟩
 have HO287 := Gv.a0 (Kd.R_lower (Kd.R_new' (Kd.R_new' (Kd.R_new' ho0 (Kd.R_lt (Gv.kr HO272.out))) (Kd.R_lt (Gv.kr HO278.out))) (Kd.R_lt (Gv.kr HO284.out))) (below_size Gv.bw))
 replace HO272 := Gv.a0 (Kd.R_elder' (Gv.kr HO272.out) (Kd.R_base ho0) hb)
 replace HO278 := Gv.a0 (Kd.R_elder' (Gv.kr HO278.out) (Kd.R_base ho0) hb)
 replace HO284 := Gv.a0 (Kd.R_elder' (Gv.kr HO284.out) (Kd.R_base ho0) hb)
 replace BK266 := Gv.b1 BK266 hb
 replace HB := Gv.a0 (below_step Gv.bw hb)
 (try clear hb)
 (try clear hb2)
 (try clear hk)
 (try clear hi)
 (try clear ho0)
 obtain ⟨Ao27, co27, eo27⟩ := Kd.R_slice HO287.out
 (first | subst eo27 | (injection eo27 with f1_ f2_ f3_; have f4_ := f1_.symm; have f5_ := f3_.symm; clear f1_ f2_ f3_; subst f4_; subst f5_))
 refine hK.out _ _ ⟨Gv.q BK266.out, Gv.q BK266.out, Gv.q BK266.out, Gv.q BK266.out, Gv.q BK266.out, Gv.q BK266.out, Gv.q BK266.out, Gv.q BK266.out, Gv.q BK266.out, Gv.q BK266.out, Gv.q BK266.out, Gv.q BK266.out, Gv.q BK266.out, Gv.q BK266.out⟩ (fun hHeld => ?_)
 clear hK K
 refine norm_ (a' := ?_) ?_ ?_
 rotate_left
 ·show Act.put _ (some 35) _ = _
  simp only [Act.put, List.setIfInBounds_toArray, List.set_cons_zero, List.set_cons_succ, i64_w, i32_w]
  rfl
 refine one_ (i := 5) (N := some 36) #[true, true, true, true, true, true, true, true, true, false, false, false] rfl rfl (one_of HT_.out (by kernel_rfl)) (by decide) (fun K hK => ?_)
 refine Kd.R_append_rows_step (Kd.int .u8) (w0 := w) w.heap.size (by rfl) (.tmp 31) (.tmp 35) 68 5 (.int .u8 0) 1 rfl Try.underlying68 info5 rfl (by decide) (by omega) v283 y282 t285 _ _ _ (fun k_ => some k_ ≠ (.slice Ao18 t270.length co18 : Value).ownBlock ∧ some k_ ≠ (.slice Ao21 t276.length co21 : Value).ownBlock ∧ some k_ ≠ (.slice Ao27 t285.length co27 : Value).ownBlock) (fun _ => False) rfl rfl ?aO ?aR (fun _ _ h => h) (fun _ h => h.elim) ?aF ?aB ?aS ?aL ?_
 (case aR => repeat (first | exact (Kd.R_reads' HO287.out).2.2 | (with_reducible refine Kd.C_alloc ?_ _) | (with_reducible refine Kd.C_drewN ?_ _) | (with_reducible refine Kd.C_drew ?_)))
 (case aB => exact Gv.bw)
 (case aF => exact (fun k_ hk => ⟨Kd.fresh' (Kd.R_lt (Gv.kr HO272.out)) k_ hk, Kd.fresh' (Kd.R_lt (Gv.kr HO278.out)) k_ hk, Kd.fresh' (Kd.R_lt (Gv.kr HO287.out)) k_ hk⟩))
 (case aO => exact (by (with_reducible repeat (first | apply Kd.R_alloc | apply Kd.R_drewN | apply Kd.R_drew)); exact Kd.R_mono HO284.out (fun _ hk => ⟨hk.1.1, ⟨hk.1.2, hk.2⟩⟩)))
 (case aS => exact (below_size Gv.bw))
 (case aL => have := LMc8.out; omega)
 intro v289 w26 ho hb hg hat
 rw [← Ny288.out] at ho
 replace BK266 := Gv.a0 (blk_grown (g := gb266) (o := .cells #[.int .i64 a0_0, .int .i64 a0_1, .int .i64 a0_2, .int .i64 a0_3, .int .i64 a0_4, .int .i64 a0_5, .int .i64 a0_6, .int .i64 a0_7, .int .i64 a0_8, .int .i64 a0_9, .int .i64 a0_10, .int .i64 a0_11, .int .i64 a0_12, .int .i64 a0_13] 33 (0, 0)) Gv.bk hg (Kd.R_ne HO284.out BK266.out (by decide)))
 replace HO272 := Gv.a0 (Kd.R_after (ok := (fun k_ => some k_ ≠ (.slice Ao21 t276.length co21 : Value).ownBlock ∧ some k_ ≠ (.slice Ao27 t285.length co27 : Value).ownBlock)) (by (with_reducible repeat (first | apply Kd.R_alloc | apply Kd.R_drewN | apply Kd.R_drew)); exact Kd.R_mono HO272.out (fun _ hk => ⟨⟨hk.1.1, hk.2⟩, hk.1.2⟩)) hg hat)
 replace HO278 := Gv.a0 (Kd.R_after (ok := (fun k_ => some k_ ≠ (.slice Ao18 t270.length co18 : Value).ownBlock ∧ some k_ ≠ (.slice Ao27 t285.length co27 : Value).ownBlock)) (by (with_reducible repeat (first | apply Kd.R_alloc | apply Kd.R_drewN | apply Kd.R_drew)); exact Kd.R_mono HO278.out (fun _ hk => ⟨⟨hk.1.1, hk.2⟩, hk.1.2⟩)) hg hat)
 replace HO287 := Gv.a0 (Kd.R_after (ok := (fun k_ => some k_ ≠ (.slice Ao18 t270.length co18 : Value).ownBlock ∧ some k_ ≠ (.slice Ao21 t276.length co21 : Value).ownBlock)) (by (with_reducible repeat (first | apply Kd.R_alloc | apply Kd.R_drewN | apply Kd.R_drew)); exact Kd.R_mono HO287.out (fun _ hk => ⟨⟨hk.1.1.2, hk.1.2⟩, hk.2⟩)) hg hat)
 replace HB := Gv.a0 (hb)
 have HO290 := Gv.a0 (ho)
 clear HO284 ho hb hg hat
 refine hK.out _ _ ⟨Gv.q BK266.out, Gv.q BK266.out, Gv.q BK266.out, Gv.q BK266.out, Gv.q BK266.out, Gv.q BK266.out, Gv.q BK266.out, Gv.q BK266.out, Gv.q BK266.out, Gv.q BK266.out, Gv.q BK266.out, Gv.q BK266.out, Gv.q BK266.out, Gv.q BK266.out⟩ (fun hHeld => ?_)
 clear hK K
 refine norm_ (a' := ?_) ?_ ?_
 rotate_left
 ·show Act.put _ (some 36) _ = _
  simp only [Act.put, List.setIfInBounds_toArray, List.set_cons_zero, List.set_cons_succ, i64_w, i32_w]
  rfl
 refine one_ (i := 9) (N := some 40) #[true, true, true, true, true, true, true, true, true, true, false, false] rfl rfl (one_of HT_.out (by kernel_rfl)) (by decide) (fun K hK => ?_)
 refine goes_ Try.func72 (by kernel_rfl) rfl #[.int .i64 a0_13] (by rfl) rfl rfl Gv.lm ?_
 with_reducible refine (spec_Put16.calls a0_13 t291 _ A9.out).mono ?_
 rintro e w28 ⟨v292, rfl, ho0, hb⟩
 refine ⟨_, rfl, ?_⟩
 have HO293 := Gv.a0 (Kd.R_lower (Kd.R_new' (Kd.R_new' (Kd.R_new' (Kd.R_new' ho0 (Kd.R_lt (Gv.kr HO272.out))) (Kd.R_lt (Gv.kr HO278.out))) (Kd.R_lt (Gv.kr HO287.out))) (Kd.R_lt (Gv.kr HO290.out))) (below_size Gv.bw))
 replace HO272 := Gv.a0 (Kd.R_elder' (Gv.kr HO272.out) (Kd.R_base ho0) hb)
 replace HO278 := Gv.a0 (Kd.R_elder' (Gv.kr HO278.out) (Kd.R_base ho0) hb)
 replace HO287 := Gv.a0 (Kd.R_elder' (Gv.kr HO287.out) (Kd.R_base ho0) hb)
 replace HO290 := Gv.a0 (Kd.R_elder' (Gv.kr HO290.out) (Kd.R_base ho0) hb)
 replace BK266 := Gv.b1 BK266 hb
 replace HB := Gv.a0 (below_step Gv.bw hb)
 (try clear hb)
 (try clear hb2)
 (try clear hk)
 (try clear hi)
 (try clear ho0)
 obtain ⟨Ao30, co30, eo30⟩ := Kd.R_slice HO293.out
 (first | subst eo30 | (injection eo30 with f1_ f2_ f3_; have f4_ := f1_.symm; have f5_ := f3_.symm; clear f1_ f2_ f3_; subst f4_; subst f5_))
 refine hK.out _ _ ⟨Gv.q BK266.out, Gv.q BK266.out, Gv.q BK266.out, Gv.q BK266.out, Gv.q BK266.out, Gv.q BK266.out, Gv.q BK266.out, Gv.q BK266.out, Gv.q BK266.out, Gv.q BK266.out, Gv.q BK266.out, Gv.q BK266.out, Gv.q BK266.out, Gv.q BK266.out⟩ (fun hHeld => ?_)
 clear hK K
 refine norm_ (a' := ?_) ?_ ?_
 rotate_left
 ·show Act.put _ (some 40) _ = _
  simp only [Act.put, List.setIfInBounds_toArray, List.set_cons_zero, List.set_cons_succ, i64_w, i32_w]
  rfl
 refine one_ (i := 10) (N := some 41) #[true, true, true, true, true, true, true, true, true, true, true, false] rfl rfl (one_of HT_.out (by kernel_rfl)) (by decide) (fun K hK => ?_)
 refine Kd.R_append_rows_step (Kd.int .u8) (w0 := w) w.heap.size (by rfl) (.tmp 36) (.tmp 40) 68 5 (.int .u8 0) 1 rfl Try.underlying68 info5 rfl (by decide) (by omega) v289 y288 t291 _ _ _ (fun k_ => some k_ ≠ (.slice Ao18 t270.length co18 : Value).ownBlock ∧ some k_ ≠ (.slice Ao21 t276.length co21 : Value).ownBlock ∧ some k_ ≠ (.slice Ao27 t285.length co27 : Value).ownBlock ∧ some k_ ≠ (.slice Ao30 t291.length co30 : Value).ownBlock) (fun _ => False) rfl rfl ?aO ?aR (fun _ _ h => h) (fun _ h => h.elim) ?aF ?aB ?aS ?aL ?_
 (case aR => repeat (first | exact (Kd.R_reads' HO293.out).2.2 | (with_reducible refine Kd.C_alloc ?_ _) | (with_reducible refine Kd.C_drewN ?_ _) | (with_reducible refine Kd.C_drew ?_)))
 (case aB => exact Gv.bw)
 (case aF => exact (fun k_ hk => ⟨Kd.fresh' (Kd.R_lt (Gv.kr HO272.out)) k_ hk, Kd.fresh' (Kd.R_lt (Gv.kr HO278.out)) k_ hk, Kd.fresh' (Kd.R_lt (Gv.kr HO287.out)) k_ hk, Kd.fresh' (Kd.R_lt (Gv.kr HO293.out)) k_ hk⟩))
 (case aO => exact (by (with_reducible repeat (first | apply Kd.R_alloc | apply Kd.R_drewN | apply Kd.R_drew)); exact Kd.R_mono HO290.out (fun _ hk => ⟨hk.1.1, ⟨hk.1.2.1, ⟨hk.1.2.2, hk.2⟩⟩⟩)))
 (case aS => exact (below_size Gv.bw))
 (case aL => have := LMc10.out; omega)
 intro v295 w29 ho hb hg hat
 rw [← Ny294.out] at ho
 replace BK266 := Gv.a0 (blk_grown (g := gb266) (o := .cells #[.int .i64 a0_0, .int .i64 a0_1, .int .i64 a0_2, .int .i64 a0_3, .int .i64 a0_4, .int .i64 a0_5, .int .i64 a0_6, .int .i64 a0_7, .int .i64 a0_8, .int .i64 a0_9, .int .i64 a0_10, .int .i64 a0_11, .int .i64 a0_12, .int .i64 a0_13] 33 (0, 0)) Gv.bk hg (Kd.R_ne HO290.out BK266.out (by decide)))
 replace HO272 := Gv.a0 (Kd.R_after (ok := (fun k_ => some k_ ≠ (.slice Ao21 t276.length co21 : Value).ownBlock ∧ some k_ ≠ (.slice Ao27 t285.length co27 : Value).ownBlock ∧ some k_ ≠ (.slice Ao30 t291.length co30 : Value).ownBlock)) (by (with_reducible repeat (first | apply Kd.R_alloc | apply Kd.R_drewN | apply Kd.R_drew)); exact Kd.R_mono HO272.out (fun _ hk => ⟨⟨hk.1.1.1, ⟨hk.1.1.2, hk.2⟩⟩, hk.1.2⟩)) hg hat)
 replace HO278 := Gv.a0 (Kd.R_after (ok := (fun k_ => some k_ ≠ (.slice Ao18 t270.length co18 : Value).ownBlock ∧ some k_ ≠ (.slice Ao27 t285.length co27 : Value).ownBlock ∧ some k_ ≠ (.slice Ao30 t291.length co30 : Value).ownBlock)) (by (with_reducible repeat (first | apply Kd.R_alloc | apply Kd.R_drewN | apply Kd.R_drew)); exact Kd.R_mono HO278.out (fun _ hk => ⟨⟨hk.1.1.1, ⟨hk.1.1.2, hk.2⟩⟩, hk.1.2⟩)) hg hat)
 replace HO287 := Gv.a0 (Kd.R_after (ok := (fun k_ => some k_ ≠ (.slice Ao18 t270.length co18 : Value).ownBlock ∧ some k_ ≠ (.slice Ao21 t276.length co21 : Value).ownBlock ∧ some k_ ≠ (.slice Ao30 t291.length co30 : Value).ownBlock)) (by (with_reducible repeat (first | apply Kd.R_alloc | apply Kd.R_drewN | apply Kd.R_drew)); exact Kd.R_mono HO287.out (fun _ hk => ⟨⟨hk.1.1.1, ⟨hk.1.1.2, hk.2⟩⟩, hk.1.2⟩)) hg hat)
 replace HO293 := Gv.a0 (Kd.R_after (ok := (fun k_ => some k_ ≠ (.slice Ao18 t270.length co18 : Value).ownBlock ∧ some k_ ≠ (.slice Ao21 t276.length co21 : Value).ownBlock ∧ some k_ ≠ (.slice Ao27 t285.length co27 : Value).ownBlock)) (by (with_reducible repeat (first | apply Kd.R_alloc | apply Kd.R_drewN | apply Kd.R_drew)); exact Kd.R_mono HO293.out (fun _ hk => ⟨⟨hk.1.1.1.2, ⟨hk.1.1.2, hk.1.2⟩⟩, hk.2⟩)) hg hat)
 replace HB := Gv.a0 (hb)
 have HO296 := Gv.a0 (ho)
 clear HO290 ho hb hg hat
 refine hK.out _ _ ⟨Gv.q BK266.out, Gv.q BK266.out, Gv.q BK266.out, Gv.q BK266.out, Gv.q BK266.out, Gv.q BK266.out, Gv.q BK266.out, Gv.q BK266.out, Gv.q BK266.out, Gv.q BK266.out, Gv.q BK266.out, Gv.q BK266.out, Gv.q BK266.out, Gv.q BK266.out⟩ (fun hHeld => ?_)
 clear hK K
 refine norm_ (a' := ?_) ?_ ?_
 rotate_left
 ·show Act.put _ (some 41) _ = _
  simp only [Act.put, List.setIfInBounds_toArray, List.set_cons_zero, List.set_cons_succ, i64_w, i32_w]
  rfl
 refine Gv.pu 11 (some 2) HT_ ?_
 refine done_ (done_of HT_.out (by kernel_rfl)) ?_
 try go_wp2
 go_ret
 exact ⟨_, Gv.rt, by (with_reducible repeat (first | apply Kd.R_alloc | apply Kd.R_drewN | apply Kd.R_drew)); exact Kd.R_mono HO296.out (fun _ hk => trivial), Gv.bw⟩
/-! ### spec_HashOf: function 16 -/
mutual
def spec_HashOf.j0 : Nat → Int → Bool → Int → Int → Int → Int → Int → Int → Int → Int → Int → Int → Int → Int → Int → Int → Option (Int)
 | 0, _, _, _, _, _, _, _, _, _, _, _, _, _, _, _, _ => none
 | k + 1, x0, x18, x298000, x298001, x298002, x298003, x298004, x298005, x298006, x298007, x298008, x298009, x298010, x298011, x298012, x298013 => if x18 = true then (some (-1)) else ((spec_l11Bytes.f x298000 x298001 x298002 x298003 x298004 x298005 x298006 x298007 x298008 x298009 x298010 x298011 x298012 x298013).bind fun t299 => (spec_HashOf.l0 k x0 t299 0))
def spec_HashOf.l0 : Nat → Int → List Int → Int → Option (Int)
 | 0, _, _, _ => none
 | k + 1, x5, x6, x7 => if x7 < (x6.length : Int) then (if 0 ≤ x7 then (spec_HashOf.l0 k (Int.tmod (wrap64 ((Go.bits .xor .i64 x5 (wrap64 (rd x6 x7))) * 16777619)) 4294967296) x6 (wrap64 (x7 + 1))) else (none)) else (some (Go.bits .xor .i64 x5 (wrap64 (Int.tdiv x5 65536))))
end
def spec_HashOf.f (k : Nat) (a0 : Int) (a1_0 : Int) (a1_1 : Int) (a1_2 : Int) (a1_3 : Int) (a1_4 : Int) (a1_5 : Int) (a1_6 : Int) (a1_7 : Int) (a1_8 : Int) (a1_9 : Int) (a1_10 : Int) (a1_11 : Int) (a1_12 : Int) (a1_13 : Int) : Option (Int) := if a0 < 0 then (spec_HashOf.j0 k a0 true a1_0 a1_1 a1_2 a1_3 a1_4 a1_5 a1_6 a1_7 a1_8 a1_9 a1_10 a1_11 a1_12 a1_13) else (if a0 > 4294967295 then (spec_HashOf.j0 k a0 true a1_0 a1_1 a1_2 a1_3 a1_4 a1_5 a1_6 a1_7 a1_8 a1_9 a1_10 a1_11 a1_12 a1_13) else ((spec_FlowKeyOk.f a1_0 a1_1 a1_2 a1_3 a1_4 a1_5 a1_6 a1_7 a1_8 a1_9 a1_10 a1_11 a1_12 a1_13).bind fun t298 => (spec_HashOf.j0 k a0 (!t298) a1_0 a1_1 a1_2 a1_3 a1_4 a1_5 a1_6 a1_7 a1_8 a1_9 a1_10 a1_11 a1_12 a1_13)))
set_option maxHeartbeats 8000000 in
set_option maxRecDepth 100000 in
theorem spec_HashOf.calls (k : Nat) (a0 : Int) (a1_0 : Int) (a1_1 : Int) (a1_2 : Int) (a1_3 : Int) (a1_4 : Int) (a1_5 : Int) (a1_6 : Int) (a1_7 : Int) (a1_8 : Int) (a1_9 : Int) (a1_10 : Int) (a1_11 : Int) (a1_12 : Int) (a1_13 : Int) (r : Int) (w : World) (h : spec_HashOf.f k a0 a1_0 a1_1 a1_2 a1_3 a1_4 a1_5 a1_6 a1_7 a1_8 a1_9 a1_10 a1_11 a1_12 a1_13 = some r) :
  Calls Try.prog 16 #[.int .i64 a0, .agg #[.int .i64 a1_0, .int .i64 a1_1, .int .i64 a1_2, .int .i64 a1_3, .int .i64 a1_4, .int .i64 a1_5, .int .i64 a1_6, .int .i64 a1_7, .int .i64 a1_8, .int .i64 a1_9, .int .i64 a1_10, .int .i64 a1_11, .int .i64 a1_12, .int .i64 a1_13]] w fun e w' => e = .returned (.int .i64 r) ∧ Below w.heap.size w w' := by
 have hu33 := Try.underlying33
 have HB := Gv.a0 (Below.refl w.heap.size w)
 have H : (if a0 < 0 then (spec_HashOf.j0 k a0 true a1_0 a1_1 a1_2 a1_3 a1_4 a1_5 a1_6 a1_7 a1_8 a1_9 a1_10 a1_11 a1_12 a1_13) else (if a0 > 4294967295 then (spec_HashOf.j0 k a0 true a1_0 a1_1 a1_2 a1_3 a1_4 a1_5 a1_6 a1_7 a1_8 a1_9 a1_10 a1_11 a1_12 a1_13) else ((spec_FlowKeyOk.f a1_0 a1_1 a1_2 a1_3 a1_4 a1_5 a1_6 a1_7 a1_8 a1_9 a1_10 a1_11 a1_12 a1_13).bind fun t298 => (spec_HashOf.j0 k a0 (!t298) a1_0 a1_1 a1_2 a1_3 a1_4 a1_5 a1_6 a1_7 a1_8 a1_9 a1_10 a1_11 a1_12 a1_13)))) = some r := h
 clear h
 have HC3 := Gv.a0 H
 clear H
 go_enter Try.func16, Try.ntmps16
 go_upto_region 1 with (first | ((with_reducible refine gate_dst (N := 3) rfl ?_); refine Gv.bev 3 33 #[.int .i64 a1_0, .int .i64 a1_1, .int .i64 a1_2, .int .i64 a1_3, .int .i64 a1_4, .int .i64 a1_5, .int .i64 a1_6, .int .i64 a1_7, .int .i64 a1_8, .int .i64 a1_9, .int .i64 a1_10, .int .i64 a1_11, .int .i64 a1_12, .int .i64 a1_13] ?_; intro gb297 hg w4 hbox hb; have BK297 := Gv.a0 (hbox); have GW297 := Gv.a0 ((Gv.ble hg Gv.bw : w.heap.size ≤ gb297)); have GE297 := Gv.a0 ((Gv.ble hg Gv.bw : w.heap.size ≤ gb297)); replace HB := Gv.a0 (below_step Gv.bw hb); clear hb hbox hg))
 (try simp only [Act.put, List.setIfInBounds_toArray, List.set_cons_zero, List.set_cons_succ])
 go_cut [18] (fun v18 wc => ∃ (kq : Nat) (x18_2 : Bool), v18 = .bool x18_2 ∧ Aside0 (spec_HashOf.j0 kq a0 x18_2 a1_0 a1_1 a1_2 a1_3 a1_4 a1_5 a1_6 a1_7 a1_8 a1_9 a1_10 a1_11 a1_12 a1_13 = some r) ∧ Aside0 (kq ≤ k) ∧ Aside0 (wc.heap[gb297]? = some (.cells #[.int .i64 a1_0, .int .i64 a1_1, .int .i64 a1_2, .int .i64 a1_3, .int .i64 a1_4, .int .i64 a1_5, .int .i64 a1_6, .int .i64 a1_7, .int .i64 a1_8, .int .i64 a1_9, .int .i64 a1_10, .int .i64 a1_11, .int .i64 a1_12, .int .i64 a1_13] 33 (0, 0))) ∧ Aside0 (Below w.heap.size w wc))
 case first =>
  have H := HC3.out
  clear HC3
  by_cases c5 : a0 < 0
  ·rw [if_pos c5] at H
   have c5b0 : decide (a0 < 0) = true := decide_eq_true c5
   clear c5
   (first | rw [c5b0] | (simp only [i64_w, i32_w]; rw [c5b0]) | skip)
   have H' := Gv.a0 H
   clear H
   go_wp2
   go_meet
   case rel => exact ⟨_, (true), Gv.rq, H', ⟨by first | omega | exact Nat.le_refl _⟩, ⟨by (with_reducible repeat (first | refine blk_drewN ?_ _ | refine blk_drew ?_ | refine blk_alloc ?_ _)); exact BK297.out⟩, ⟨Gv.bw⟩⟩
  ·rw [if_neg c5] at H
   have c5b0 : decide (a0 < 0) = false := decide_eq_false c5
   clear c5
   (first | rw [c5b0] | (simp only [i64_w, i32_w]; rw [c5b0]) | skip)
   by_cases c6 : a0 > 4294967295
   ·rw [if_pos c6] at H
    have c6b0 : decide (4294967295 < a0) = true := decide_eq_true c6
    clear c6
    have H' := Gv.a0 H
    clear H
    go_wp2
    go_meet
    case rel => exact ⟨_, (true), Gv.rq, H', ⟨by first | omega | exact Nat.le_refl _⟩, ⟨by (with_reducible repeat (first | refine blk_drewN ?_ _ | refine blk_drew ?_ | refine blk_alloc ?_ _)); exact BK297.out⟩, ⟨Gv.bw⟩⟩
   ·rw [if_neg c6] at H
    have c6b0 : decide (4294967295 < a0) = false := decide_eq_false c6
    clear c6
    replace H := Option.bind_eq_some_iff.mp H
    obtain ⟨t298, A70, H⟩ := H
    (try dsimp only at H)
    have A7 := Gv.a0 A70
    clear A70
    have H' := Gv.a0 H
    clear H
    obtain ⟨hcz8_0, hcz8_1, hcz8_2, hcz8_3, hcz8_4, hcz8_5, hcz8_6, hcz8_7, hcz8_8, hcz8_9, hcz8_10, hcz8_11, hcz8_12, hcz8_13⟩ := Gv.c14 BK297.out
    obtain ⟨hfz8_0, hfz8_1, hfz8_2, hfz8_3, hfz8_4, hfz8_5, hfz8_6, hfz8_7, hfz8_8, hfz8_9, hfz8_10, hfz8_11, hfz8_12, hfz8_13⟩ := Gv.f14 BK297.out
    go_wp2_with (first | (go_at_call 13; (with_reducible refine (spec_FlowKeyOk.calls a1_0 a1_1 a1_2 a1_3 a1_4 a1_5 a1_6 a1_7 a1_8 a1_9 a1_10 a1_11 a1_12 a1_13 t298 _ A7.out).mono ?_); rintro e w9 ⟨rfl, hb⟩; replace BK297 := Gv.b1 BK297 hb; replace HB := Gv.a0 (below_step Gv.bw hb); clear hb))
    go_meet
    case rel => exact ⟨_, (!t298), Gv.rq, H', ⟨by first | omega | exact Nat.le_refl _⟩, ⟨by (with_reducible repeat (first | refine blk_drewN ?_ _ | refine blk_drew ?_ | refine blk_alloc ?_ _)); exact BK297.out⟩, ⟨Gv.bw⟩⟩
 case rest =>
  clear HC3
  try clear c1
  try clear p2
  try clear c5
  try clear c5b0
  try clear c6
  try clear c6b0
  try clear hcz8_0 hcz8_1
  try clear hcz8_10 hcz8_11 hcz8_12 hcz8_13
  try clear hcz8_2 hcz8_3 hcz8_4 hcz8_5 hcz8_6 hcz8_7 hcz8_8 hcz8_9
  try clear hfz8_0 hfz8_1
  try clear hfz8_10 hfz8_11 hfz8_12 hfz8_13
  try clear hfz8_2 hfz8_3 hfz8_4 hfz8_5 hfz8_6 hfz8_7 hfz8_8 hfz8_9
  obtain ⟨kq, x18_2, rfl, HA, HJ2, BK297, HB⟩ := hcut
  cases kq with
  | zero => exact absurd HA.out (by simp [spec_HashOf.j0])
  | succ kj2 =>
   have H := HA.out
   clear HA
   simp only [spec_HashOf.j0] at H
   by_cases c10 : x18_2 = true
   ·subst c10
    rw [if_pos rfl] at H
    (try dsimp only at H)
    obtain rfl := Option.some.inj H
    go_wp2
    go_ret
    exact ⟨Gv.rt, Gv.bw⟩
   ·replace c10 := Bool.eq_false_iff.mpr c10
    subst c10
    rw [if_neg (show ¬ (false = true) by decide)] at H
    (try dsimp only at H)
    replace H := Option.bind_eq_some_iff.mp H
    obtain ⟨t299, A110, H⟩ := H
    (try dsimp only at H)
    have A11 := Gv.a0 A110
    clear A110
    have H' := Gv.a0 H
    clear H
    obtain ⟨hcz12_0, hcz12_1, hcz12_2, hcz12_3, hcz12_4, hcz12_5, hcz12_6, hcz12_7, hcz12_8, hcz12_9, hcz12_10, hcz12_11, hcz12_12, hcz12_13⟩ := Gv.c14 BK297.out
    obtain ⟨hfz12_0, hfz12_1, hfz12_2, hfz12_3, hfz12_4, hfz12_5, hfz12_6, hfz12_7, hfz12_8, hfz12_9, hfz12_10, hfz12_11, hfz12_12, hfz12_13⟩ := Gv.f14 BK297.out
    go_wp2_with (first | ((with_reducible refine gate_callee (f := 46) rfl ?_); refine goesL_ (some 21) rfl rfl Try.func46 (by kernel_rfl) rfl #[.agg #[.int .i64 a1_0, .int .i64 a1_1, .int .i64 a1_2, .int .i64 a1_3, .int .i64 a1_4, .int .i64 a1_5, .int .i64 a1_6, .int .i64 a1_7, .int .i64 a1_8, .int .i64 a1_9, .int .i64 a1_10, .int .i64 a1_11, .int .i64 a1_12, .int .i64 a1_13]] rfl Gv.lm ?_; (with_reducible refine (spec_l11Bytes.calls a1_0 a1_1 a1_2 a1_3 a1_4 a1_5 a1_6 a1_7 a1_8 a1_9 a1_10 a1_11 a1_12 a1_13 t299 _ A11.out).mono ?_); rintro e w13 ⟨v300, rfl, ho0, hb⟩; refine ⟨_, rfl, ?_⟩; have HO301 := Gv.a0 (Kd.R_lower ho0 (below_size Gv.bw)); replace BK297 := Gv.b1 BK297 hb; replace HB := Gv.a0 (below_step Gv.bw hb); clear hb ho0))
    go_loopg [5, 7] kj2 (fun kq v5 v7 w' => ∃ (x5_2 : Int) (x7_2 : Int), v5 = .int .i64 x5_2 ∧ v7 = .int .i64 x7_2 ∧ Aside0 (spec_HashOf.l0 kq x5_2 t299 x7_2 = some r) ∧ Aside0 (kq ≤ kj2) ∧ Aside0 (Kd.R (Kd.int .u8) 5 w' w.heap.size (fun _ => True) v300 t299) ∧ Aside0 (w'.heap[gb297]? = some (.cells #[.int .i64 a1_0, .int .i64 a1_1, .int .i64 a1_2, .int .i64 a1_3, .int .i64 a1_4, .int .i64 a1_5, .int .i64 a1_6, .int .i64 a1_7, .int .i64 a1_8, .int .i64 a1_9, .int .i64 a1_10, .int .i64 a1_11, .int .i64 a1_12, .int .i64 a1_13] 33 (0, 0))) ∧ Aside0 (Below w.heap.size w w'))
    case atStart => exact ⟨(a0), (0), Gv.rq, Gv.rq, H', ⟨Nat.le_refl _⟩, ⟨Gv.kr HO301.out⟩, ⟨by (with_reducible repeat (first | refine blk_drewN ?_ _ | refine blk_drew ?_ | refine blk_alloc ?_ _)); exact BK297.out⟩, ⟨Gv.bw⟩⟩
    case round =>
     clear H'
     try clear c1
     try clear p2
     try clear c4
     try clear c5
     try clear c5b0
     try clear c6
     try clear c6b0
     try clear c10
     try clear hcz12_0 hcz12_1
     try clear hcz12_10 hcz12_11 hcz12_12 hcz12_13
     try clear hcz12_2 hcz12_3 hcz12_4 hcz12_5 hcz12_6 hcz12_7 hcz12_8 hcz12_9
     try clear hcz8_0 hcz8_1
     try clear hcz8_10 hcz8_11 hcz8_12 hcz8_13
     try clear hcz8_2 hcz8_3 hcz8_4 hcz8_5 hcz8_6 hcz8_7 hcz8_8 hcz8_9
     try clear hfz12_0 hfz12_1
     try clear hfz12_10 hfz12_11 hfz12_12 hfz12_13
     try clear hfz12_2 hfz12_3 hfz12_4 hfz12_5 hfz12_6 hfz12_7 hfz12_8 hfz12_9
     try clear hfz8_0 hfz8_1
     try clear hfz8_10 hfz8_11 hfz8_12 hfz8_13
     try clear hfz8_2 hfz8_3 hfz8_4 hfz8_5 hfz8_6 hfz8_7 hfz8_8 hfz8_9
     try clear p2
     obtain ⟨x5_2, x7_2, rfl, rfl, HA, HK2, HO_6, BK297, HB⟩ := hrel
     cases gk with
     | zero => exact absurd HA.out (by simp [spec_HashOf.l0])
     | succ k2 =>
      have H := HA.out
      clear HA
      simp only [spec_HashOf.l0] at H
      by_cases c14 : x7_2 < (t299.length : Int)
      rotate_left
      ·rw [if_neg c14] at H
       have c14b0 : decide (x7_2 < (t299.length : Int)) = false := decide_eq_false c14
       clear c14
       obtain rfl := Option.some.inj H
       obtain ⟨Ao17, co17, eo17⟩ := Kd.R_slice HO_6.out
       subst eo17
       go_wp2
       go_ret
       exact ⟨Gv.rt, Gv.bw⟩

      rw [if_pos c14] at H
      have c14b0 : decide (x7_2 < (t299.length : Int)) = true := decide_eq_true c14
      clear c14
      by_cases c15 : 0 ≤ x7_2
      ·rw [if_pos c15] at H
       have c15b0 : decide (0 ≤ x7_2) = true := decide_eq_true c15
       clear c15
       have H' := Gv.a0 H
       clear H
       obtain ⟨Ao16, co16, eo16⟩ := Kd.R_slice HO_6.out
       subst eo16
       have p302 : 0 ≤ (x7_2 : Int) := of_decide_eq_true (by first | (with_reducible assumption) | assumption)
       have q302 : x7_2 < (t299.length : Int) := of_decide_eq_true (by first | (with_reducible assumption) | assumption)
       obtain ⟨ad302, e302, hx302_0⟩ := Kd.at_int (Kd.R_reads' HO_6.out).2.2 x7_2 p302 q302
       cases e302
       replace p302 := eq_true p302
       replace q302 := eq_true q302
       go_wp2
       go_roundg k2
       case measure => have := HJ2.out; have := HK2.out; omega
       case rel => exact ⟨(Int.tmod (wrap64 ((Go.bits .xor .i64 x5_2 (wrap64 (rd t299 x7_2))) * 16777619)) 4294967296), (wrap64 (x7_2 + 1)), Gv.rq, Gv.rq, H', ⟨by have := HJ2.out; have := HK2.out; omega⟩, ⟨Gv.kr HO_6.out⟩, ⟨by (with_reducible repeat (first | refine blk_drewN ?_ _ | refine blk_drew ?_ | refine blk_alloc ?_ _)); exact BK297.out⟩, ⟨Gv.bw⟩⟩
      ·rw [if_neg c15] at H
       exact absurd H (by simp)
/-! ### spec_l11Home: function 55 -/
def spec_l11Home.f (k : Nat) (a0_0 : Int) (l0_1 : List (S75)) (a1_0 : Int) (a1_1 : Int) (a1_2 : Int) (a1_3 : Int) (a1_4 : Int) (a1_5 : Int) (a1_6 : Int) (a1_7 : Int) (a1_8 : Int) (a1_9 : Int) (a1_10 : Int) (a1_11 : Int) (a1_12 : Int) (a1_13 : Int) : Option (Int) := (spec_HashOf.f k a0_0 a1_0 a1_1 a1_2 a1_3 a1_4 a1_5 a1_6 a1_7 a1_8 a1_9 a1_10 a1_11 a1_12 a1_13).bind fun t305 => (if (l0_1.length : Int) = 0 then (none) else (some (Int.tmod t305 (l0_1.length : Int))))
def spec_l11Home.T1 : Bool × List (List Nat × List Nat) := (true, [([], []), ([0], [0]), ([], []), ([1, 2], [1, 2]), ([], []), ([4], [4]), ([5], [5]), ([3, 6], [3, 6]), ([7, 3, 0, 1, 2, 3, 4, 5, 6, 7], [7])])
def spec_l11Home.B1 : List Nat := [0, 1, 0, 7, 0, 16, 48, 127, 255]
theorem spec_l11Home.tab1 : rtab .any (opsOf Try.f55 1) = spec_l11Home.T1 := by kernel_rfl
theorem spec_l11Home.bits1 : waitsOk spec_l11Home.T1.2 spec_l11Home.B1 = true := by kernel_rfl
set_option maxHeartbeats 8000000 in
set_option maxRecDepth 100000 in
theorem spec_l11Home.calls (k : Nat) (a0_0 : Int) (A0_1 : Option Addr) (c0_1 : Nat) (l0_1 : List (S75)) (a1_0 : Int) (a1_1 : Int) (a1_2 : Int) (a1_3 : Int) (a1_4 : Int) (a1_5 : Int) (a1_6 : Int) (a1_7 : Int) (a1_8 : Int) (a1_9 : Int) (a1_10 : Int) (a1_11 : Int) (a1_12 : Int) (a1_13 : Int) (r : Int) (w : World) (hr0_1 : Kd.C k75 w A0_1 l0_1.length l0_1) (hc0_1 : l0_1.length ≤ c0_1) (h : spec_l11Home.f k a0_0 l0_1 a1_0 a1_1 a1_2 a1_3 a1_4 a1_5 a1_6 a1_7 a1_8 a1_9 a1_10 a1_11 a1_12 a1_13 = some r) :
  Calls Try.prog 55 #[.agg #[.int .i64 a0_0, .slice A0_1 l0_1.length c0_1], .agg #[.int .i64 a1_0, .int .i64 a1_1, .int .i64 a1_2, .int .i64 a1_3, .int .i64 a1_4, .int .i64 a1_5, .int .i64 a1_6, .int .i64 a1_7, .int .i64 a1_8, .int .i64 a1_9, .int .i64 a1_10, .int .i64 a1_11, .int .i64 a1_12, .int .i64 a1_13]] w fun e w' => e = .returned (.int .i64 r) ∧ Below w.heap.size w w' := by
 have hu40 := Try.underlying40
 have hu33 := Try.underlying33
 have HR0_1 := Gv.a0 hr0_1
 have HC0_1 := Gv.a0 hc0_1
 clear hr0_1 hc0_1
 have HB := Gv.a0 (Below.refl w.heap.size w)
 have H : ((spec_HashOf.f k a0_0 a1_0 a1_1 a1_2 a1_3 a1_4 a1_5 a1_6 a1_7 a1_8 a1_9 a1_10 a1_11 a1_12 a1_13).bind fun t305 => (if (l0_1.length : Int) = 0 then (none) else (some (Int.tmod t305 (l0_1.length : Int))))) = some r := h
 clear h
 replace H := Option.bind_eq_some_iff.mp H
 obtain ⟨t305, A30, H⟩ := H
 (try dsimp only at H)
 have A3 := Gv.a0 A30
 clear A30
 by_cases c4 : (l0_1.length : Int) = 0
 ·rw [if_pos c4] at H
  exact absurd H (by simp)
 ·rw [if_neg c4] at H
  have c4b0 : ((l0_1.length : Int) == 0) = false := beq_eq_false_iff_ne.mpr c4
  have c4b1 : ((l0_1.length : Int) != 0) = true := bne_iff_ne.mpr c4
  have c4b2 : ¬ (l0_1 = []) := fun h_ => c4 (by rw [h_]; rfl)
  obtain rfl := Option.some.inj H
  go_enter Try.func55, Try.ntmps55
  try go_wp2_with (first | ((with_reducible refine gate_dst (N := 2) rfl ?_); refine Gv.bev 2 40 #[.int .i64 a0_0, .slice A0_1 l0_1.length c0_1] ?_; intro gb303 hg w5 hbox hb; have BK303 := Gv.a0 (hbox); have GW303 := Gv.a0 ((Gv.ble hg Gv.bw : w.heap.size ≤ gb303)); have GE303 := Gv.a0 ((Gv.ble hg Gv.bw : w.heap.size ≤ gb303)); replace HB := Gv.a0 (below_step Gv.bw hb); clear hb hbox hg) | ((with_reducible refine gate_dst (N := 3) rfl ?_); refine Gv.bev 3 33 #[.int .i64 a1_0, .int .i64 a1_1, .int .i64 a1_2, .int .i64 a1_3, .int .i64 a1_4, .int .i64 a1_5, .int .i64 a1_6, .int .i64 a1_7, .int .i64 a1_8, .int .i64 a1_9, .int .i64 a1_10, .int .i64 a1_11, .int .i64 a1_12, .int .i64 a1_13] ?_; intro gb304 hg w6 hbox hb; have BK304 := Gv.a0 (hbox); have GW304 := Gv.a0 ((Gv.ble hg Gv.bw : w.heap.size ≤ gb304)); have GE304 := Gv.a0 ((Gv.ble hg Gv.bw : w.heap.size ≤ gb304)); replace HB := Gv.a0 (below_step Gv.bw hb); have NB303_304 := Gv.a0 ((Gv.nlt hg (Gv.kb BK303.out) : gb303 ≠ gb304)); have NB304_303 := Gv.a0 ((Gv.ngt hg (Gv.kb BK303.out) : gb304 ≠ gb303)); replace BK303 := Gv.b1 BK303 hb; clear hb hbox hg))
  replace BK303 := Gv.a0 (blk_drew BK303.out)
  replace BK304 := Gv.a0 (blk_drew BK304.out)
  replace HB := Gv.a0 (below_drew1 HB.out)
  refine start_ (n := 9) (S := fun w' => w'.cell? ⟨gb303, 0, none⟩ = some (.int .i64 a0_0) ∧ w'.cell? ⟨gb303, 1, none⟩ = some (.slice A0_1 l0_1.length c0_1) ∧ w'.cell? ⟨gb304, 0, none⟩ = some (.int .i64 a1_0) ∧ w'.cell? ⟨gb304, 1, none⟩ = some (.int .i64 a1_1) ∧ w'.cell? ⟨gb304, 2, none⟩ = some (.int .i64 a1_2) ∧ w'.cell? ⟨gb304, 3, none⟩ = some (.int .i64 a1_3) ∧ w'.cell? ⟨gb304, 4, none⟩ = some (.int .i64 a1_4) ∧ w'.cell? ⟨gb304, 5, none⟩ = some (.int .i64 a1_5) ∧ w'.cell? ⟨gb304, 6, none⟩ = some (.int .i64 a1_6) ∧ w'.cell? ⟨gb304, 7, none⟩ = some (.int .i64 a1_7) ∧ w'.cell? ⟨gb304, 8, none⟩ = some (.int .i64 a1_8) ∧ w'.cell? ⟨gb304, 9, none⟩ = some (.int .i64 a1_9) ∧ w'.cell? ⟨gb304, 10, none⟩ = some (.int .i64 a1_10) ∧ w'.cell? ⟨gb304, 11, none⟩ = some (.int .i64 a1_11) ∧ w'.cell? ⟨gb304, 12, none⟩ = some (.int .i64 a1_12) ∧ w'.cell? ⟨gb304, 13, none⟩ = some (.int .i64 a1_13)) (ds := []) #[false, false, false, false, false, false, false, false, false] (by kernel_rfl) rfl rfl ⟨Gv.q BK303.out, Gv.q BK303.out, Gv.q BK304.out, Gv.q BK304.out, Gv.q BK304.out, Gv.q BK304.out, Gv.q BK304.out, Gv.q BK304.out, Gv.q BK304.out, Gv.q BK304.out, Gv.q BK304.out, Gv.q BK304.out, Gv.q BK304.out, Gv.q BK304.out, Gv.q BK304.out, Gv.q BK304.out⟩ (fun hHeld => ?_); refine with_tabW spec_l11Home.tab1 spec_l11Home.bits1 (fun HT_ HW_ => ?_)
  generalize w6.drew = w7 at BK303 BK304 HB hHeld ⊢
  refine Gv.pu 0 (some 5) HT_ ?_
  refine Gv.pu 4 (some 9) HT_ ?_
  refine take_ (i := 1) (N := some 6) (v := ?_) (a' := ?_) #[true, true, false, false, true, false, false, false, false] rfl rfl (take_ofW HT_.out HW_.out (by kernel_rfl)) (fun _ _ _ h => h) (Or.inl ⟨by rfl, ?_⟩) hHeld ?_ ?_
  rotate_left
  ·rintro w' ⟨s0, s1, s2, s3, s4, s5, s6, s7, s8, s9, s10, s11, s12, s13, s14, s15⟩
   first | ((refine Gv.load_run (t := 33) (A := ⟨gb304, 0, none⟩) (cs := [_, _, _, _, _, _, _, _, _, _, _, _, _, _]) (x := ?xx15_) ?ho15_ ?hx15_ ⟨s2, s3, s4, s5, s6, s7, s8, s9, s10, s11, s12, s13, s14, s15, trivial⟩ Try.underlying33 rfl (by kernel_rfl)); (case ho15_ => rfl); (case hx15_ => rfl)) | (go_simp; with_reducible rfl)
  rotate_left
  ·simp only [Act.put, List.setIfInBounds_toArray, List.set_cons_zero, List.set_cons_succ, i64_w, i32_w]
   rfl
  refine take_ (i := 2) (N := some 7) (v := ?_) (a' := ?_) #[true, true, true, false, true, false, false, false, false] rfl rfl (take_ofW HT_.out HW_.out (by kernel_rfl)) (fun _ _ _ h => h) (Or.inl ⟨by rfl, ?_⟩) hHeld ?_ ?_
  rotate_left
  ·rintro w' ⟨s0, s1, s2, s3, s4, s5, s6, s7, s8, s9, s10, s11, s12, s13, s14, s15⟩
   first | ((refine Gv.load_run (t := 33) (A := ⟨gb304, 0, none⟩) (cs := [_, _, _, _, _, _, _, _, _, _, _, _, _, _]) (x := ?xx17_) ?ho17_ ?hx17_ ⟨s2, s3, s4, s5, s6, s7, s8, s9, s10, s11, s12, s13, s14, s15, trivial⟩ Try.underlying33 rfl (by kernel_rfl)); (case ho17_ => rfl); (case hx17_ => rfl)) | (go_simp; with_reducible rfl)
  rotate_left
  ·simp only [Act.put, List.setIfInBounds_toArray, List.set_cons_zero, List.set_cons_succ, i64_w, i32_w]
   rfl
  refine take_ (i := 5) (N := some 10) (v := ?_) (a' := ?_) #[true, true, true, false, true, true, false, false, false] rfl rfl (take_ofW HT_.out HW_.out (by kernel_rfl)) (fun _ _ _ h => h) (Or.inl ⟨by rfl, ?_⟩) hHeld ?_ ?_
  rotate_left
  ·rintro w' ⟨s0, s1, s2, s3, s4, s5, s6, s7, s8, s9, s10, s11, s12, s13, s14, s15⟩
   first | ((refine Gv.load_run (t := 33) (A := ⟨gb304, 0, none⟩) (cs := [_, _, _, _, _, _, _, _, _, _, _, _, _, _]) (x := ?xx19_) ?ho19_ ?hx19_ ⟨s2, s3, s4, s5, s6, s7, s8, s9, s10, s11, s12, s13, s14, s15, trivial⟩ Try.underlying33 rfl (by kernel_rfl)); (case ho19_ => rfl); (case hx19_ => rfl)) | (go_simp; with_reducible rfl)
  rotate_left
  ·simp only [Act.put, List.setIfInBounds_toArray, List.set_cons_zero, List.set_cons_succ, i64_w, i32_w]
   rfl
  refine Gv.pu 6 (some 11) HT_ ?_
  refine one_ (i := 3) (N := some 8) #[true, true, true, true, true, true, true, false, false] rfl rfl (one_of HT_.out (by kernel_rfl)) (by decide) (fun K hK => ?_)
  refine goes_ Try.func16 (by kernel_rfl) rfl #[.int .i64 a0_0, .agg #[.int .i64 a1_0, .int .i64 a1_1, .int .i64 a1_2, .int .i64 a1_3, .int .i64 a1_4, .int .i64 a1_5, .int .i64 a1_6, .int .i64 a1_7, .int .i64 a1_8, .int .i64 a1_9, .int .i64 a1_10, .int .i64 a1_11, .int .i64 a1_12, .int .i64 a1_13]] (by rfl) rfl rfl Gv.lm ?_
  with_reducible refine (spec_HashOf.calls k a0_0 a1_0 a1_1 a1_2 a1_3 a1_4 a1_5 a1_6 a1_7 a1_8 a1_9 a1_10 a1_11 a1_12 a1_13 t305 _ A3.out).mono ?_
  rintro e w8 ⟨rfl, hb⟩
  refine ⟨_, rfl, ?_⟩
  replace BK303 := Gv.b1 BK303 hb
  replace BK304 := Gv.b1 BK304 hb
  replace HB := Gv.a0 (below_step Gv.bw hb)
  (try clear hb)
  (try clear hb2)
  (try clear hk)
  (try clear hi)
  refine hK.out _ _ ⟨Gv.q BK303.out, Gv.q BK303.out, Gv.q BK304.out, Gv.q BK304.out, Gv.q BK304.out, Gv.q BK304.out, Gv.q BK304.out, Gv.q BK304.out, Gv.q BK304.out, Gv.q BK304.out, Gv.q BK304.out, Gv.q BK304.out, Gv.q BK304.out, Gv.q BK304.out, Gv.q BK304.out, Gv.q BK304.out⟩ (fun hHeld => ?_)
  clear hK K
  refine norm_ (a' := ?_) ?_ ?_
  rotate_left
  ·show Act.put _ (some 8) _ = _
   simp only [Act.put, List.setIfInBounds_toArray, List.set_cons_zero, List.set_cons_succ, i64_w, i32_w]
   rfl
  refine Gv.pu 7 (some 12) HT_ ?_
  refine Gv.pu 8 (some 4) HT_ ?_
  refine done_ (done_of HT_.out (by kernel_rfl)) ?_
  try go_wp2
  go_ret
  exact ⟨Gv.rt, Gv.bw⟩

end Go.Proofs.Ytfnpodebjejhpaa.PTp
