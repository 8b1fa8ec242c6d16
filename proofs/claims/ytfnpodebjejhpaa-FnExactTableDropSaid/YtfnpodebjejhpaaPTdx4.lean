/- Plain Lean functions of a law's Go functions, their contracts, by a program of this session (wip/pr.py over the kit's print). -/
import Derived.Test.YtfnpodebjejhpaaPTdx0
import Derived.Test.YtfnpodebjejhpaaPTdx3
namespace Go.Proofs.Ytfnpodebjejhpaa.PTd
open Go.RowKit Go.Proofs.YtfnpodebjejhpaaW.PrintWords Go.Proofs.YtfnpodebjejhpaaW.PrintLast Go.Proofs.YtfnpodebjejhpaaW.PrintMore
attribute [local go_sem] max2_int min2_int max_two min_two max_three min_three max_four min_four   -- for this text's walks alone
set_option linter.unusedVariables false
set_option linter.unusedSimpArgs false

/-! ### spec_AddrBytes: function 71 -/
def spec_AddrBytes.f (a0_0 : Int) (a0_1 : Int) (a0_2 : Int) (a0_3 : Int) (a0_4 : Int) : Option (List Int) := (spec_AddrOk.f a0_0 a0_1 a0_2 a0_3 a0_4).bind fun t241 => (if t241 = true then (if a0_0 = 4 then ((spec_Put32.f a0_4).bind fun t242 => (some t242)) else ((spec_Put32.f a0_1).bind fun t245 => ((spec_Put32.f a0_2).bind fun t248 => (if t245.length + t248.length < 140737488355328 then ((some (t245 ++ t248 : List Int)).bind fun y251 => ((spec_Put32.f a0_3).bind fun t254 => (if y251.length + t254.length < 140737488355328 then ((some (y251 ++ t254 : List Int)).bind fun y257 => ((spec_Put32.f a0_4).bind fun t260 => (if y257.length + t260.length < 140737488355328 then (some (y257 ++ t260)) else (none)))) else (none)))) else (none))))) else (some ([] : List Int)))
def spec_AddrBytes.T5 : Bool × List (List Nat × List Nat) := (true, [([], []), ([0], [0]), ([1], [1]), ([], []), ([3], [3]), ([4, 2], [4]), ([2, 5, 5], [2, 5]), ([6, 6, 0, 1, 2, 3, 4, 5, 6], [6])])
def spec_AddrBytes.B5 : List Nat := [0, 1, 3, 0, 8, 31, 63, 127]
theorem spec_AddrBytes.tab5 : rtab .any (opsOf Try.f71 5) = spec_AddrBytes.T5 := by kernel_rfl
theorem spec_AddrBytes.bits5 : waitsOk spec_AddrBytes.T5.2 spec_AddrBytes.B5 = true := by kernel_rfl
def spec_AddrBytes.T6 : Bool × List (List Nat × List Nat) := (true, [([], []), ([], []), ([1], [1]), ([2], [2]), ([0, 3, 3], [0, 3]), ([], []), ([5], [5]), ([6, 4], [6]), ([4, 7, 7], [4, 7]), ([8, 8, 0, 1, 2, 3, 4, 5, 6, 7, 8], [8])])
def spec_AddrBytes.B6 : List Nat := [0, 0, 2, 6, 15, 0, 32, 127, 255, 511]
theorem spec_AddrBytes.tab6 : rtab .any (opsOf Try.f71 6) = spec_AddrBytes.T6 := by kernel_rfl
theorem spec_AddrBytes.bits6 : waitsOk spec_AddrBytes.T6.2 spec_AddrBytes.B6 = true := by kernel_rfl
set_option maxHeartbeats 8000000 in
set_option maxRecDepth 100000 in
theorem spec_AddrBytes.calls (a0_0 : Int) (a0_1 : Int) (a0_2 : Int) (a0_3 : Int) (a0_4 : Int) (r : List Int) (w : World) (h : spec_AddrBytes.f a0_0 a0_1 a0_2 a0_3 a0_4 = some r) :
  Calls Try.prog 71 #[.agg #[.int .i64 a0_0, .int .i64 a0_1, .int .i64 a0_2, .int .i64 a0_3, .int .i64 a0_4]] w fun e w' => ∃ v0_ : Value, e = .returned (v0_) ∧ Kd.R (Kd.int .u8) 5 w' w.heap.size (fun _ => True) v0_ r ∧ Below w.heap.size w w' := by
 have hu29 := Try.underlying29; have HB := Gv.a0 (Below.refl w.heap.size w); unfold spec_AddrBytes.f at h; have H := h; clear h; replace H := Option.bind_eq_some_iff.mp H; obtain ⟨t14, A20, H⟩ := H
 (try dsimp only at H); have A2 := Gv.a0 A20; clear A20
 by_cases c3 : t14 = true
 rotate_left
 ·replace c3 := Bool.eq_false_iff.mpr c3; subst c3; rw [if_neg (show ¬ (false = true) by decide)] at H
  (try dsimp only at H); obtain rfl := Option.some.inj H
  go_enter Try.func71, Try.ntmps71
  go_wp2_with (first | ((with_reducible refine gate_dst (N := 1) rfl ?_); refine Gv.bev 1 29 #[.int .i64 a0_0, .int .i64 a0_1, .int .i64 a0_2, .int .i64 a0_3, .int .i64 a0_4] ?_; intro gb0 hg w34 hbox hb; have BK0 := Gv.a0 (hbox); have GW0 := Gv.a0 ((Gv.ble hg Gv.bw : w.heap.size ≤ gb0)); have GE0 := GW0; replace HB := Gv.hb hb; clear hb hbox hg; obtain ⟨z35_0, z35_1, z35_2, z35_3, z35_4⟩ := Gv.c5 BK0.out; obtain ⟨o35_0, o35_1, o35_2, o35_3, o35_4⟩ := Gv.f5 BK0.out) | ((with_reducible refine gate_callee (f := 80) rfl ?_); refine goesL_ (some 5) rfl rfl Try.func80 (by kernel_rfl) rfl #[.agg #[.int .i64 a0_0, .int .i64 a0_1, .int .i64 a0_2, .int .i64 a0_3, .int .i64 a0_4]] rfl Gv.lm ?_; (with_reducible refine (spec_AddrOk.calls a0_0 a0_1 a0_2 a0_3 a0_4 false _ A2.out).mono ?_); rintro e w36 ⟨rfl, hb⟩; refine ⟨_, rfl, ?_⟩; replace BK0 := Gv.b1 BK0 hb; replace HB := Gv.hb hb; clear hb))
  go_ret
  exact ⟨_, Gv.rt, by first | exact Kd.R_nil _ _ _ _ _ | exact Kd.N_nil _ _ _ _ _ | exact Kd.V_nil _ _ _ _ _ | exact Kd.Q_nil _ _ _ _ _ | exact Kd.S_nil _ _ _ _ _, Gv.bw⟩

 subst c3; rw [if_pos rfl] at H
 (try dsimp only at H)
 by_cases c4 : a0_0 = 4
 ·rw [if_pos c4] at H; have c4b0 : (a0_0 == 4) = true := beq_iff_eq.mpr c4; have c4b1 : (a0_0 != 4) = false := bne_eq_false_iff_eq.mpr c4; clear c4; replace H := Option.bind_eq_some_iff.mp H; obtain ⟨t16, A50, H⟩ := H
  (try dsimp only at H); have A5 := Gv.a0 A50; clear A50; obtain rfl := Option.some.inj H
  go_enter Try.func71, Try.ntmps71
  go_wp2_with (first | ((with_reducible refine gate_dst (N := 1) rfl ?_); refine Gv.bev 1 29 #[.int .i64 a0_0, .int .i64 a0_1, .int .i64 a0_2, .int .i64 a0_3, .int .i64 a0_4] ?_; intro gb0 hg w6 hbox hb; have BK0 := Gv.a0 (hbox); have GW0 := Gv.a0 ((Gv.ble hg Gv.bw : w.heap.size ≤ gb0)); have GE0 := GW0; replace HB := Gv.hb hb; clear hb hbox hg; obtain ⟨z7_0, z7_1, z7_2, z7_3, z7_4⟩ := Gv.c5 BK0.out; obtain ⟨o7_0, o7_1, o7_2, o7_3, o7_4⟩ := Gv.f5 BK0.out) | ((with_reducible refine gate_callee (f := 80) rfl ?_); refine goesL_ (some 5) rfl rfl Try.func80 (by kernel_rfl) rfl #[.agg #[.int .i64 a0_0, .int .i64 a0_1, .int .i64 a0_2, .int .i64 a0_3, .int .i64 a0_4]] rfl Gv.lm ?_; (with_reducible refine (spec_AddrOk.calls a0_0 a0_1 a0_2 a0_3 a0_4 true _ A2.out).mono ?_); rintro e w8 ⟨rfl, hb⟩; refine ⟨_, rfl, ?_⟩; replace BK0 := Gv.b1 BK0 hb; replace HB := Gv.hb hb; clear hb; obtain ⟨z9_0, z9_1, z9_2, z9_3, z9_4⟩ := Gv.c5 BK0.out; obtain ⟨o9_0, o9_1, o9_2, o9_3, o9_4⟩ := Gv.f5 BK0.out) | ((with_reducible refine gate_callee (f := 83) rfl ?_); refine goesL_ (some 12) rfl rfl Try.func83 (by kernel_rfl) rfl #[.int .i64 a0_4] rfl Gv.lm ?_; (with_reducible refine (spec_Put32.calls a0_4 t16 _ A5.out).mono ?_); rintro e w10 ⟨v25, rfl, ho0, hb⟩; refine ⟨_, rfl, ?_⟩; have HO20 := Gv.a0 (Kd.R_lower ho0 (below_size Gv.bw)); replace BK0 := Gv.b1 BK0 hb; replace HB := Gv.hb hb; clear hb ho0))
  go_ret
  exact ⟨_, Gv.rt, Gv.kr HO20.out, Gv.bw⟩
 ·rw [if_neg c4] at H; have c4b0 : (a0_0 == 4) = false := beq_eq_false_iff_ne.mpr c4; have c4b1 : (a0_0 != 4) = true := bne_iff_ne.mpr c4; replace H := Option.bind_eq_some_iff.mp H; obtain ⟨t13, A15, H⟩ := H
  (try dsimp only at H); have A11 := Gv.a0 A15; clear A15; replace H := Option.bind_eq_some_iff.mp H; obtain ⟨t7, A17, H⟩ := H
  (try dsimp only at H); have A12 := Gv.a0 A17; clear A17
  by_cases c13 : t13.length + t7.length < 140737488355328
  rotate_left
  ·rw [if_neg c13] at H; cases H
  rw [if_pos c13] at H; have LMc13 := Gv.a0 c13; clear c13; obtain ⟨y3, hy3⟩ : ∃ y_ : List Int, y_ = (t13 ++ t7) := ⟨_, rfl⟩
  replace H : ((spec_Put32.f a0_3).bind fun t5 => (if y3.length + t5.length < 140737488355328 then ((some (y3 ++ t5 : List Int)).bind fun y2 => ((spec_Put32.f a0_4).bind fun t4 => (if y2.length + t4.length < 140737488355328 then (some (y2 ++ t4)) else (none)))) else (none))) = some r := by first | (rw [hy3]; with_reducible exact H) | (have H2_ := (Option.bind_some _ _).symm.trans H; rw [hy3]; with_reducible exact H2_) | (have H2_ := (Option.bind_some _ _).symm.trans H; with_reducible exact H2_) | with_reducible exact H | (rw [hy3]; exact H) | exact H
  have Ny3 := Gv.a0 hy3; clear hy3; replace H := Option.bind_eq_some_iff.mp H; obtain ⟨t5, A18, H⟩ := H
  (try dsimp only at H); have A14 := Gv.a0 A18; clear A18
  by_cases c15 : y3.length + t5.length < 140737488355328
  rotate_left
  ·rw [if_neg c15] at H; cases H
  rw [if_pos c15] at H; have LMc15 := Gv.a0 c15; clear c15; obtain ⟨y2, hy2⟩ : ∃ y_ : List Int, y_ = (y3 ++ t5) := ⟨_, rfl⟩
  replace H : ((spec_Put32.f a0_4).bind fun t4 => (if y2.length + t4.length < 140737488355328 then (some (y2 ++ t4)) else (none))) = some r := by first | (rw [hy2]; with_reducible exact H) | (have H2_ := (Option.bind_some _ _).symm.trans H; rw [hy2]; with_reducible exact H2_) | (have H2_ := (Option.bind_some _ _).symm.trans H; with_reducible exact H2_) | with_reducible exact H | (rw [hy2]; exact H) | exact H
  have Ny2 := Gv.a0 hy2; clear hy2; replace H := Option.bind_eq_some_iff.mp H; obtain ⟨t4, A19, H⟩ := H
  (try dsimp only at H); have A16 := Gv.a0 A19; clear A19
  by_cases c17 : y2.length + t4.length < 140737488355328
  rotate_left
  ·rw [if_neg c17] at H; cases H
  rw [if_pos c17] at H; have LMc17 := Gv.a0 c17; clear c17; obtain ⟨y8, hy8⟩ : ∃ y_ : List Int, y_ = (y2 ++ t4) := ⟨_, rfl⟩
  replace H : (some y8) = some r := by first | (rw [hy8]; with_reducible exact H) | (have H2_ := (Option.bind_some _ _).symm.trans H; rw [hy8]; with_reducible exact H2_) | (have H2_ := (Option.bind_some _ _).symm.trans H; with_reducible exact H2_) | with_reducible exact H | (rw [hy8]; exact H) | exact H
  have Ny8 := Gv.a0 hy8; clear hy8; obtain rfl := Option.some.inj H
  go_enter Try.func71, Try.ntmps71
  try go_wp2_with (first | ((with_reducible refine gate_dst (N := 1) rfl ?_); refine Gv.bev 1 29 #[.int .i64 a0_0, .int .i64 a0_1, .int .i64 a0_2, .int .i64 a0_3, .int .i64 a0_4] ?_; intro gb0 hg w18 hbox hb; have BK0 := Gv.a0 (hbox); have GW0 := Gv.a0 ((Gv.ble hg Gv.bw : w.heap.size ≤ gb0)); have GE0 := GW0; replace HB := Gv.hb hb; clear hb hbox hg; obtain ⟨z19_0, z19_1, z19_2, z19_3, z19_4⟩ := Gv.c5 BK0.out; obtain ⟨o19_0, o19_1, o19_2, o19_3, o19_4⟩ := Gv.f5 BK0.out) | ((with_reducible refine gate_callee (f := 80) rfl ?_); refine goesL_ (some 5) rfl rfl Try.func80 (by kernel_rfl) rfl #[.agg #[.int .i64 a0_0, .int .i64 a0_1, .int .i64 a0_2, .int .i64 a0_3, .int .i64 a0_4]] rfl Gv.lm ?_; (with_reducible refine (spec_AddrOk.calls a0_0 a0_1 a0_2 a0_3 a0_4 true _ A2.out).mono ?_); rintro e w20 ⟨rfl, hb⟩; refine ⟨_, rfl, ?_⟩; replace BK0 := Gv.b1 BK0 hb; replace HB := Gv.hb hb; clear hb; obtain ⟨z21_0, z21_1, z21_2, z21_3, z21_4⟩ := Gv.c5 BK0.out; obtain ⟨o21_0, o21_1, o21_2, o21_3, o21_4⟩ := Gv.f5 BK0.out))
  replace BK0 := Gv.a0 (blk_drew BK0.out); replace HB := Gv.a0 (below_drew1 HB.out); refine start_ (n := 8) (S := fun w' => w'.cell? ⟨gb0, 0, none⟩ = some (.int .i64 a0_0) ∧ w'.cell? ⟨gb0, 1, none⟩ = some (.int .i64 a0_1) ∧ w'.cell? ⟨gb0, 2, none⟩ = some (.int .i64 a0_2) ∧ w'.cell? ⟨gb0, 3, none⟩ = some (.int .i64 a0_3) ∧ w'.cell? ⟨gb0, 4, none⟩ = some (.int .i64 a0_4)) (ds := []) #[false, false, false, false, false, false, false, false] (by kernel_rfl) rfl rfl Gv.qs (fun hHeld => ?_); refine with_tabW spec_AddrBytes.tab5 spec_AddrBytes.bits5 (fun HT_ HW_ => ?_); generalize w20.drew = w22 at BK0 HB hHeld ⊢; refine Gv.pu 0 (some 13) HT_ ?_; refine Gv.pu 3 (some 16) HT_ ?_; refine take_ (i := 1) (N := some 14) (v := ?_) (a' := ?_) #[true, true, false, true, false, false, false, false] rfl rfl (take_ofW HT_.out HW_.out (by kernel_rfl)) (fun _ _ _ h => h) (Or.inl ⟨by rfl, ?_⟩) hHeld ?_ ?_; rotate_left
  ·rintro w' ⟨s0, s1, s2, s3, s4⟩
   go_simp
   with_reducible rfl
  rotate_left
  ·simp only [Act.put, List.setIfInBounds_toArray, List.set_cons_zero, List.set_cons_succ, i64_w, i32_w]
   rfl
  refine take_ (i := 4) (N := some 17) (v := ?_) (a' := ?_) #[true, true, false, true, true, false, false, false] rfl rfl (take_ofW HT_.out HW_.out (by kernel_rfl)) (fun _ _ _ h => h) (Or.inl ⟨by rfl, ?_⟩) hHeld ?_ ?_; rotate_left
  ·rintro w' ⟨s0, s1, s2, s3, s4⟩
   go_simp
   with_reducible rfl
  rotate_left
  ·simp only [Act.put, List.setIfInBounds_toArray, List.set_cons_zero, List.set_cons_succ, i64_w, i32_w]
   rfl
  refine one_ (i := 2) (N := some 15) #[true, true, true, true, true, false, false, false] rfl rfl (one_of HT_.out (by kernel_rfl)) (by decide) (fun K hK => ?_); refine goes_ Try.func83 (by kernel_rfl) rfl #[.int .i64 a0_1] (by rfl) rfl rfl Gv.lm ?_
  with_reducible refine (spec_Put32.calls a0_1 t13 _ A11.out).mono ?_
  rintro e w23 ⟨v21, rfl, ho0, hb⟩; refine ⟨_, rfl, ?_⟩; have HO10 := Gv.a0 (Kd.R_lower ho0 (below_size Gv.bw)); replace BK0 := Gv.b1 BK0 hb; replace HB := Gv.hb hb
  (try clear hb)
  (try clear hb2)
  (try clear hk)
  (try clear hi)
  (try clear ho0); refine hK.out _ _ Gv.qs (fun hHeld => ?_); clear hK K; refine norm_ (a' := ?_) ?_ ?_; rotate_left
  ·show Act.put _ (some 15) _ = _
   simp only [Act.put, List.setIfInBounds_toArray, List.set_cons_zero, List.set_cons_succ, i64_w, i32_w]
   rfl
  refine one_ (i := 5) (N := some 18) #[true, true, true, true, true, true, false, false] rfl rfl (one_of HT_.out (by kernel_rfl)) (by decide) (fun K hK => ?_); refine goes_ Try.func83 (by kernel_rfl) rfl #[.int .i64 a0_2] (by rfl) rfl rfl Gv.lm ?_
  with_reducible refine (spec_Put32.calls a0_2 t7 _ A12.out).mono ?_
  rintro e w24 ⟨v26, rfl, ho0, hb⟩; refine ⟨_, rfl, ?_⟩; have HO1 := Gv.a0 (Kd.R_lower (Kd.R_new' ho0 (Kd.R_lt (Gv.kr HO10.out))) (below_size Gv.bw)); replace HO10 := Gv.a0 (Kd.R_elder' (Gv.kr HO10.out) (Kd.R_base ho0) hb); replace BK0 := Gv.b1 BK0 hb; replace HB := Gv.hb hb
  (try clear hb)
  (try clear hb2)
  (try clear hk)
  (try clear hi)
  (try clear ho0); obtain ⟨Ao26, co26, eo26⟩ := Kd.R_slice HO1.out
  (first | subst eo26 | (injection eo26 with f1_ f2_ f3_; have f4_ := f1_.symm; have f5_ := f3_.symm; clear f1_ f2_ f3_; subst f4_; subst f5_)); refine hK.out _ _ Gv.qs (fun hHeld => ?_); clear hK K; refine norm_ (a' := ?_) ?_ ?_; rotate_left
  ·show Act.put _ (some 18) _ = _
   simp only [Act.put, List.setIfInBounds_toArray, List.set_cons_zero, List.set_cons_succ, i64_w, i32_w]
   rfl
  refine one_ (i := 6) (N := some 19) #[true, true, true, true, true, true, true, false] rfl rfl (one_of HT_.out (by kernel_rfl)) (by decide) (fun K hK => ?_); refine Kd.R_append_rows_step (Kd.int .u8) (w0 := w) w.heap.size (by rfl) (.tmp 15) (.tmp 18) 68 5 (.int .u8 0) 1 rfl Try.underlying68 info5 rfl (by decide) (by omega) v21 t13 t7 _ _ _ (fun k_ => some k_ ≠ (.slice Ao26 t7.length co26 : Value).ownBlock) (fun _ => False) rfl rfl ?aO ?aR (fun _ _ h => h) (fun _ h => h.elim) ?aF ?aB ?aS ?aL ?_
  (case aR => repeat (first | exact (Kd.R_reads' HO1.out).2.2 | (with_reducible refine Kd.C_alloc ?_ _) | (with_reducible refine Kd.C_drewN ?_ _) | (with_reducible refine Kd.C_drew ?_)))
  (case aB => exact Gv.bw)
  (case aF => exact (fun k_ hk => Kd.fresh' (Kd.R_lt (Gv.kr HO1.out)) k_ hk))
  (case aO => exact (by (with_reducible repeat (first | apply Kd.R_alloc | apply Kd.R_drewN | apply Kd.R_drew)); exact Kd.R_mono HO10.out (fun _ hk => hk.2)))
  (case aS => exact (below_size Gv.bw))
  (case aL => have := LMc13.out; omega)
  intro v22 w25 ho hb hg hat; rw [← Ny3.out] at ho; replace BK0 := Gv.a0 (blk_grown (g := gb0) (o := .cells #[.int .i64 a0_0, .int .i64 a0_1, .int .i64 a0_2, .int .i64 a0_3, .int .i64 a0_4] 29 (0, 0)) Gv.bk hg (Kd.R_ne HO10.out BK0.out (by decide))); replace HO1 := Gv.a0 (Kd.R_after (ok := (fun _ => True)) (Gv.kr HO1.out) hg hat); replace HB := Gv.a0 (hb); have HO9 := Gv.a0 (ho); clear HO10 ho hb hg hat; refine hK.out _ _ Gv.qs (fun hHeld => ?_); clear hK K; refine norm_ (a' := ?_) ?_ ?_; rotate_left
  ·show Act.put _ (some 19) _ = _
   simp only [Act.put, List.setIfInBounds_toArray, List.set_cons_zero, List.set_cons_succ, i64_w, i32_w]
   rfl
  refine Gv.pu 7 (some 3) HT_ ?_; refine done_ (done_of HT_.out (by kernel_rfl)) ?_
  try go_wp2
  replace HO1 := Gv.a0 (Kd.R_drew HO1.out); replace HO9 := Gv.a0 (Kd.R_drew HO9.out); replace BK0 := Gv.a0 (blk_drew BK0.out); replace HB := Gv.a0 (below_drew1 HB.out); refine start_ (n := 10) (S := fun w' => w'.cell? ⟨gb0, 0, none⟩ = some (.int .i64 a0_0) ∧ w'.cell? ⟨gb0, 1, none⟩ = some (.int .i64 a0_1) ∧ w'.cell? ⟨gb0, 2, none⟩ = some (.int .i64 a0_2) ∧ w'.cell? ⟨gb0, 3, none⟩ = some (.int .i64 a0_3) ∧ w'.cell? ⟨gb0, 4, none⟩ = some (.int .i64 a0_4)) (ds := []) #[false, false, false, false, false, false, false, false, false, false] (by kernel_rfl) rfl rfl Gv.qs (fun hHeld => ?_); refine with_tabW spec_AddrBytes.tab6 spec_AddrBytes.bits6 (fun HT_ HW_ => ?_); generalize w25.drew = w27 at HO1 HO9 BK0 HB hHeld ⊢; refine Gv.pu 0 (some 20) HT_ ?_; refine Gv.pu 1 (some 21) HT_ ?_; refine Gv.pu 5 (some 25) HT_ ?_; refine take_ (i := 2) (N := some 22) (v := ?_) (a' := ?_) #[true, true, true, false, false, true, false, false, false, false] rfl rfl (take_ofW HT_.out HW_.out (by kernel_rfl)) (fun _ _ _ h => h) (Or.inl ⟨by rfl, ?_⟩) hHeld ?_ ?_; rotate_left
  ·rintro w' ⟨s0, s1, s2, s3, s4⟩
   go_simp
   with_reducible rfl
  rotate_left
  ·simp only [Act.put, List.setIfInBounds_toArray, List.set_cons_zero, List.set_cons_succ, i64_w, i32_w]
   rfl
  refine take_ (i := 6) (N := some 26) (v := ?_) (a' := ?_) #[true, true, true, false, false, true, true, false, false, false] rfl rfl (take_ofW HT_.out HW_.out (by kernel_rfl)) (fun _ _ _ h => h) (Or.inl ⟨by rfl, ?_⟩) hHeld ?_ ?_; rotate_left
  ·rintro w' ⟨s0, s1, s2, s3, s4⟩
   go_simp
   with_reducible rfl
  rotate_left
  ·simp only [Act.put, List.setIfInBounds_toArray, List.set_cons_zero, List.set_cons_succ, i64_w, i32_w]
   rfl
  refine one_ (i := 3) (N := some 23) #[true, true, true, true, false, true, true, false, false, false] rfl rfl (one_of HT_.out (by kernel_rfl)) (by decide) (fun K hK => ?_); refine goes_ Try.func83 (by kernel_rfl) rfl #[.int .i64 a0_3] (by rfl) rfl rfl Gv.lm ?_
  with_reducible refine (spec_Put32.calls a0_3 t5 _ A14.out).mono ?_
  rintro e w28 ⟨v27, rfl, ho0, hb⟩; refine ⟨_, rfl, ?_⟩; have HO6 := Gv.a0 (Kd.R_lower (Kd.R_new' (Kd.R_new' ho0 (Kd.R_lt (Gv.kr HO1.out))) (Kd.R_lt (Gv.kr HO9.out))) (below_size Gv.bw)); replace HO1 := Gv.a0 (Kd.R_elder' (Gv.kr HO1.out) (Kd.R_base ho0) hb); replace HO9 := Gv.a0 (Kd.R_elder' (Gv.kr HO9.out) (Kd.R_base ho0) hb); replace BK0 := Gv.b1 BK0 hb; replace HB := Gv.hb hb
  (try clear hb)
  (try clear hb2)
  (try clear hk)
  (try clear hi)
  (try clear ho0); obtain ⟨Ao30, co30, eo30⟩ := Kd.R_slice HO6.out
  (first | subst eo30 | (injection eo30 with f1_ f2_ f3_; have f4_ := f1_.symm; have f5_ := f3_.symm; clear f1_ f2_ f3_; subst f4_; subst f5_)); refine hK.out _ _ Gv.qs (fun hHeld => ?_); clear hK K; refine norm_ (a' := ?_) ?_ ?_; rotate_left
  ·show Act.put _ (some 23) _ = _
   simp only [Act.put, List.setIfInBounds_toArray, List.set_cons_zero, List.set_cons_succ, i64_w, i32_w]
   rfl
  refine one_ (i := 4) (N := some 24) #[true, true, true, true, true, true, true, false, false, false] rfl rfl (one_of HT_.out (by kernel_rfl)) (by decide) (fun K hK => ?_); refine Kd.R_append_rows_step (Kd.int .u8) (w0 := w) w.heap.size (by rfl) (.tmp 20) (.tmp 23) 68 5 (.int .u8 0) 1 rfl Try.underlying68 info5 rfl (by decide) (by omega) v22 y3 t5 _ _ _ (fun k_ => some k_ ≠ (.slice Ao26 t7.length co26 : Value).ownBlock ∧ some k_ ≠ (.slice Ao30 t5.length co30 : Value).ownBlock) (fun _ => False) rfl rfl ?aO ?aR (fun _ _ h => h) (fun _ h => h.elim) ?aF ?aB ?aS ?aL ?_
  (case aR => repeat (first | exact (Kd.R_reads' HO6.out).2.2 | (with_reducible refine Kd.C_alloc ?_ _) | (with_reducible refine Kd.C_drewN ?_ _) | (with_reducible refine Kd.C_drew ?_)))
  (case aB => exact Gv.bw)
  (case aF => exact (fun k_ hk => ⟨Kd.fresh' (Kd.R_lt (Gv.kr HO1.out)) k_ hk, Kd.fresh' (Kd.R_lt (Gv.kr HO6.out)) k_ hk⟩))
  (case aO => exact (Gv.kr HO9.out))
  (case aS => exact (below_size Gv.bw))
  (case aL => have := LMc15.out; omega)
  intro v23 w29 ho hb hg hat; rw [← Ny2.out] at ho; replace BK0 := Gv.a0 (blk_grown (g := gb0) (o := .cells #[.int .i64 a0_0, .int .i64 a0_1, .int .i64 a0_2, .int .i64 a0_3, .int .i64 a0_4] 29 (0, 0)) Gv.bk hg (Kd.R_ne HO9.out BK0.out (by decide))); replace HO1 := Gv.a0 (Kd.R_after (ok := (fun k_ => some k_ ≠ (.slice Ao30 t5.length co30 : Value).ownBlock)) (by (with_reducible repeat (first | apply Kd.R_alloc | apply Kd.R_drewN | apply Kd.R_drew)); exact Kd.R_mono HO1.out (fun _ hk => ⟨hk.2, hk.1.2⟩)) hg hat); replace HO6 := Gv.a0 (Kd.R_after (ok := (fun k_ => some k_ ≠ (.slice Ao26 t7.length co26 : Value).ownBlock)) (by (with_reducible repeat (first | apply Kd.R_alloc | apply Kd.R_drewN | apply Kd.R_drew)); exact Kd.R_mono HO6.out (fun _ hk => ⟨hk.1.2, hk.2⟩)) hg hat); replace HB := Gv.a0 (hb); have HO11 := Gv.a0 (ho); clear HO9 ho hb hg hat; refine hK.out _ _ Gv.qs (fun hHeld => ?_); clear hK K; refine norm_ (a' := ?_) ?_ ?_; rotate_left
  ·show Act.put _ (some 24) _ = _
   simp only [Act.put, List.setIfInBounds_toArray, List.set_cons_zero, List.set_cons_succ, i64_w, i32_w]
   rfl
  refine one_ (i := 7) (N := some 27) #[true, true, true, true, true, true, true, true, false, false] rfl rfl (one_of HT_.out (by kernel_rfl)) (by decide) (fun K hK => ?_); refine goes_ Try.func83 (by kernel_rfl) rfl #[.int .i64 a0_4] (by rfl) rfl rfl Gv.lm ?_
  with_reducible refine (spec_Put32.calls a0_4 t4 _ A16.out).mono ?_
  rintro e w31 ⟨v28, rfl, ho0, hb⟩; refine ⟨_, rfl, ?_⟩; have HO12 := Gv.a0 (Kd.R_lower (Kd.R_new' (Kd.R_new' (Kd.R_new' ho0 (Kd.R_lt (Gv.kr HO1.out))) (Kd.R_lt (Gv.kr HO6.out))) (Kd.R_lt (Gv.kr HO11.out))) (below_size Gv.bw)); replace HO1 := Gv.a0 (Kd.R_elder' (Gv.kr HO1.out) (Kd.R_base ho0) hb); replace HO6 := Gv.a0 (Kd.R_elder' (Gv.kr HO6.out) (Kd.R_base ho0) hb); replace HO11 := Gv.a0 (Kd.R_elder' (Gv.kr HO11.out) (Kd.R_base ho0) hb); replace BK0 := Gv.b1 BK0 hb; replace HB := Gv.hb hb
  (try clear hb)
  (try clear hb2)
  (try clear hk)
  (try clear hi)
  (try clear ho0); obtain ⟨Ao33, co33, eo33⟩ := Kd.R_slice HO12.out
  (first | subst eo33 | (injection eo33 with f1_ f2_ f3_; have f4_ := f1_.symm; have f5_ := f3_.symm; clear f1_ f2_ f3_; subst f4_; subst f5_)); refine hK.out _ _ Gv.qs (fun hHeld => ?_); clear hK K; refine norm_ (a' := ?_) ?_ ?_; rotate_left
  ·show Act.put _ (some 27) _ = _
   simp only [Act.put, List.setIfInBounds_toArray, List.set_cons_zero, List.set_cons_succ, i64_w, i32_w]
   rfl
  refine one_ (i := 8) (N := some 28) #[true, true, true, true, true, true, true, true, true, false] rfl rfl (one_of HT_.out (by kernel_rfl)) (by decide) (fun K hK => ?_); refine Kd.R_append_rows_step (Kd.int .u8) (w0 := w) w.heap.size (by rfl) (.tmp 24) (.tmp 27) 68 5 (.int .u8 0) 1 rfl Try.underlying68 info5 rfl (by decide) (by omega) v23 y2 t4 _ _ _ (fun k_ => some k_ ≠ (.slice Ao26 t7.length co26 : Value).ownBlock ∧ some k_ ≠ (.slice Ao30 t5.length co30 : Value).ownBlock ∧ some k_ ≠ (.slice Ao33 t4.length co33 : Value).ownBlock) (fun _ => False) rfl rfl ?aO ?aR (fun _ _ h => h) (fun _ h => h.elim) ?aF ?aB ?aS ?aL ?_
  (case aR => repeat (first | exact (Kd.R_reads' HO12.out).2.2 | (with_reducible refine Kd.C_alloc ?_ _) | (with_reducible refine Kd.C_drewN ?_ _) | (with_reducible refine Kd.C_drew ?_)))
  (case aB => exact Gv.bw)
  (case aF => exact (fun k_ hk => ⟨Kd.fresh' (Kd.R_lt (Gv.kr HO1.out)) k_ hk, Kd.fresh' (Kd.R_lt (Gv.kr HO6.out)) k_ hk, Kd.fresh' (Kd.R_lt (Gv.kr HO12.out)) k_ hk⟩))
  (case aO => exact (by (with_reducible repeat (first | apply Kd.R_alloc | apply Kd.R_drewN | apply Kd.R_drew)); exact Kd.R_mono HO11.out (fun _ hk => ⟨hk.1.1, ⟨hk.1.2, hk.2⟩⟩)))
  (case aS => exact (below_size Gv.bw))
  (case aL => have := LMc17.out; omega)
  intro v29 w32 ho hb hg hat; rw [← Ny8.out] at ho; replace BK0 := Gv.a0 (blk_grown (g := gb0) (o := .cells #[.int .i64 a0_0, .int .i64 a0_1, .int .i64 a0_2, .int .i64 a0_3, .int .i64 a0_4] 29 (0, 0)) Gv.bk hg (Kd.R_ne HO11.out BK0.out (by decide))); replace HO1 := Gv.a0 (Kd.R_after (ok := (fun k_ => some k_ ≠ (.slice Ao30 t5.length co30 : Value).ownBlock ∧ some k_ ≠ (.slice Ao33 t4.length co33 : Value).ownBlock)) (by (with_reducible repeat (first | apply Kd.R_alloc | apply Kd.R_drewN | apply Kd.R_drew)); exact Kd.R_mono HO1.out (fun _ hk => ⟨⟨hk.1.1, hk.2⟩, hk.1.2⟩)) hg hat); replace HO6 := Gv.a0 (Kd.R_after (ok := (fun k_ => some k_ ≠ (.slice Ao26 t7.length co26 : Value).ownBlock ∧ some k_ ≠ (.slice Ao33 t4.length co33 : Value).ownBlock)) (by (with_reducible repeat (first | apply Kd.R_alloc | apply Kd.R_drewN | apply Kd.R_drew)); exact Kd.R_mono HO6.out (fun _ hk => ⟨⟨hk.1.1, hk.2⟩, hk.1.2⟩)) hg hat); replace HO12 := Gv.a0 (Kd.R_after (ok := (fun k_ => some k_ ≠ (.slice Ao26 t7.length co26 : Value).ownBlock ∧ some k_ ≠ (.slice Ao30 t5.length co30 : Value).ownBlock)) (by (with_reducible repeat (first | apply Kd.R_alloc | apply Kd.R_drewN | apply Kd.R_drew)); exact Kd.R_mono HO12.out (fun _ hk => ⟨⟨hk.1.1.2, hk.1.2⟩, hk.2⟩)) hg hat); replace HB := Gv.a0 (hb); have HO24 := Gv.a0 (ho); clear HO11 ho hb hg hat; refine hK.out _ _ Gv.qs (fun hHeld => ?_); clear hK K; refine norm_ (a' := ?_) ?_ ?_; rotate_left
  ·show Act.put _ (some 28) _ = _
   simp only [Act.put, List.setIfInBounds_toArray, List.set_cons_zero, List.set_cons_succ, i64_w, i32_w]
   rfl
  refine Gv.pu 9 (some 2) HT_ ?_; refine done_ (done_of HT_.out (by kernel_rfl)) ?_
  try go_wp2
  go_ret
  exact ⟨_, Gv.rt, by (with_reducible repeat (first | apply Kd.R_alloc | apply Kd.R_drewN | apply Kd.R_drew)); exact Kd.R_mono HO24.out (fun _ hk => trivial), Gv.bw⟩
/-! ### spec_l11Bytes: function 46 -/
def spec_l11Bytes.f (a0_0 : Int) (a0_1 : Int) (a0_2 : Int) (a0_3 : Int) (a0_4 : Int) (a0_5 : Int) (a0_6 : Int) (a0_7 : Int) (a0_8 : Int) (a0_9 : Int) (a0_10 : Int) (a0_11 : Int) (a0_12 : Int) (a0_13 : Int) : Option (List Int) := (some (([(a0_0) % 256, (a0_1) % 256] : List Int) : List Int)).bind fun y267 => ((spec_AddrBytes.f a0_1 a0_2 a0_3 a0_4 a0_5).bind fun t270 => (if y267.length + t270.length < 140737488355328 then ((some (y267 ++ t270 : List Int)).bind fun y273 => ((spec_AddrBytes.f a0_6 a0_7 a0_8 a0_9 a0_10).bind fun t276 => (if y273.length + t276.length < 140737488355328 then ((some (y273 ++ t276 : List Int)).bind fun y279 => (if y279.length < 140737488355328 then ((some (y279 ++ [(a0_11) % 256] : List Int)).bind fun y282 => ((spec_Put16.f a0_12).bind fun t285 => (if y282.length + t285.length < 140737488355328 then ((some (y282 ++ t285 : List Int)).bind fun y288 => ((spec_Put16.f a0_13).bind fun t291 => (if y288.length + t291.length < 140737488355328 then (some (y288 ++ t291)) else (none)))) else (none)))) else (none))) else (none)))) else (none)))
def spec_l11Bytes.T2 : Bool × List (List Nat × List Nat) := (true, [([], []), ([], []), ([1], [1]), ([2], [2]), ([3], [3]), ([0, 4, 4], [0, 4]), ([], []), ([6], [6]), ([7], [7]), ([8, 5], [8]), ([5, 9, 9], [5, 9]), ([10, 10, 0, 1, 2, 3, 4, 5, 6, 7, 8, 9, 10], [0, 10])])
def spec_l11Bytes.B2 : List Nat := [0, 0, 2, 6, 14, 31, 0, 64, 192, 511, 1023, 2047]
theorem spec_l11Bytes.tab2 : rtab .any (opsOf Try.f46 2) = spec_l11Bytes.T2 := by kernel_rfl
theorem spec_l11Bytes.bits2 : waitsOk spec_l11Bytes.T2.2 spec_l11Bytes.B2 = true := by kernel_rfl
def spec_l11Bytes.T4 : Bool × List (List Nat × List Nat) := (true, [([], []), ([], []), ([1], [1]), ([2], [2]), ([3], [3]), ([0, 4, 4], [0, 4]), ([], []), ([6], [6]), ([7], [7]), ([8, 5], [8]), ([5, 9, 9], [5, 9]), ([10, 10, 0, 1, 2, 3, 4, 5, 6, 7, 8, 9, 10], [10])])
def spec_l11Bytes.B4 : List Nat := [0, 0, 2, 6, 14, 31, 0, 64, 192, 511, 1023, 2047]
theorem spec_l11Bytes.tab4 : rtab .any (opsOf Try.f46 4) = spec_l11Bytes.T4 := by kernel_rfl
theorem spec_l11Bytes.bits4 : waitsOk spec_l11Bytes.T4.2 spec_l11Bytes.B4 = true := by kernel_rfl
set_option maxHeartbeats 8000000 in
set_option maxRecDepth 100000 in
theorem spec_l11Bytes.calls (a0_0 : Int) (a0_1 : Int) (a0_2 : Int) (a0_3 : Int) (a0_4 : Int) (a0_5 : Int) (a0_6 : Int) (a0_7 : Int) (a0_8 : Int) (a0_9 : Int) (a0_10 : Int) (a0_11 : Int) (a0_12 : Int) (a0_13 : Int) (r : List Int) (w : World) (h : spec_l11Bytes.f a0_0 a0_1 a0_2 a0_3 a0_4 a0_5 a0_6 a0_7 a0_8 a0_9 a0_10 a0_11 a0_12 a0_13 = some r) :
  Calls Try.prog 46 #[.agg #[.int .i64 a0_0, .int .i64 a0_1, .int .i64 a0_2, .int .i64 a0_3, .int .i64 a0_4, .int .i64 a0_5, .int .i64 a0_6, .int .i64 a0_7, .int .i64 a0_8, .int .i64 a0_9, .int .i64 a0_10, .int .i64 a0_11, .int .i64 a0_12, .int .i64 a0_13]] w fun e w' => ∃ v0_ : Value, e = .returned (v0_) ∧ Kd.R (Kd.int .u8) 5 w' w.heap.size (fun _ => True) v0_ r ∧ Below w.heap.size w w' := by
 have hu33 := Try.underlying33; have hu29 := Try.underlying29; have HB := Gv.a0 (Below.refl w.heap.size w); unfold spec_l11Bytes.f at h; have H := h; clear h; obtain ⟨y11, hy11⟩ : ∃ y_ : List Int, y_ = (([(a0_0) % 256, (a0_1) % 256] : List Int)) := ⟨_, rfl⟩
 replace H : ((spec_AddrBytes.f a0_1 a0_2 a0_3 a0_4 a0_5).bind fun t8 => (if y11.length + t8.length < 140737488355328 then ((some (y11 ++ t8 : List Int)).bind fun y10 => ((spec_AddrBytes.f a0_6 a0_7 a0_8 a0_9 a0_10).bind fun t7 => (if y10.length + t7.length < 140737488355328 then ((some (y10 ++ t7 : List Int)).bind fun y9 => (if y9.length < 140737488355328 then ((some (y9 ++ [(a0_11) % 256] : List Int)).bind fun y6 => ((spec_Put16.f a0_12).bind fun t3 => (if y6.length + t3.length < 140737488355328 then ((some (y6 ++ t3 : List Int)).bind fun y2 => ((spec_Put16.f a0_13).bind fun t4 => (if y2.length + t4.length < 140737488355328 then (some (y2 ++ t4)) else (none)))) else (none)))) else (none))) else (none)))) else (none))) = some r := by first | (rw [hy11]; with_reducible exact H) | (have H2_ := (Option.bind_some _ _).symm.trans H; rw [hy11]; with_reducible exact H2_) | (have H2_ := (Option.bind_some _ _).symm.trans H; with_reducible exact H2_) | with_reducible exact H | (rw [hy11]; exact H) | exact H
 have Ny11 := Gv.a0 hy11; clear hy11; replace H := Option.bind_eq_some_iff.mp H; obtain ⟨t8, A20, H⟩ := H
 (try dsimp only at H); have A2 := Gv.a0 A20; clear A20
 by_cases c3 : y11.length + t8.length < 140737488355328
 rotate_left
 ·rw [if_neg c3] at H; cases H

 rw [if_pos c3] at H; have LMc3 := Gv.a0 c3; clear c3; obtain ⟨y10, hy10⟩ : ∃ y_ : List Int, y_ = (y11 ++ t8) := ⟨_, rfl⟩
 replace H : ((spec_AddrBytes.f a0_6 a0_7 a0_8 a0_9 a0_10).bind fun t7 => (if y10.length + t7.length < 140737488355328 then ((some (y10 ++ t7 : List Int)).bind fun y9 => (if y9.length < 140737488355328 then ((some (y9 ++ [(a0_11) % 256] : List Int)).bind fun y6 => ((spec_Put16.f a0_12).bind fun t3 => (if y6.length + t3.length < 140737488355328 then ((some (y6 ++ t3 : List Int)).bind fun y2 => ((spec_Put16.f a0_13).bind fun t4 => (if y2.length + t4.length < 140737488355328 then (some (y2 ++ t4)) else (none)))) else (none)))) else (none))) else (none))) = some r := by first | (rw [hy10]; with_reducible exact H) | (have H2_ := (Option.bind_some _ _).symm.trans H; rw [hy10]; with_reducible exact H2_) | (have H2_ := (Option.bind_some _ _).symm.trans H; with_reducible exact H2_) | with_reducible exact H | (rw [hy10]; exact H) | exact H
 have Ny10 := Gv.a0 hy10; clear hy10; replace H := Option.bind_eq_some_iff.mp H; obtain ⟨t7, A40, H⟩ := H
 (try dsimp only at H); have A4 := Gv.a0 A40; clear A40
 by_cases c5 : y10.length + t7.length < 140737488355328
 rotate_left
 ·rw [if_neg c5] at H; cases H
 rw [if_pos c5] at H; have LMc5 := Gv.a0 c5; clear c5; obtain ⟨y9, hy9⟩ : ∃ y_ : List Int, y_ = (y10 ++ t7) := ⟨_, rfl⟩
 replace H : (if y9.length < 140737488355328 then ((some (y9 ++ [(a0_11) % 256] : List Int)).bind fun y6 => ((spec_Put16.f a0_12).bind fun t3 => (if y6.length + t3.length < 140737488355328 then ((some (y6 ++ t3 : List Int)).bind fun y2 => ((spec_Put16.f a0_13).bind fun t4 => (if y2.length + t4.length < 140737488355328 then (some (y2 ++ t4)) else (none)))) else (none)))) else (none)) = some r := by first | (rw [hy9]; with_reducible exact H) | (have H2_ := (Option.bind_some _ _).symm.trans H; rw [hy9]; with_reducible exact H2_) | (have H2_ := (Option.bind_some _ _).symm.trans H; with_reducible exact H2_) | with_reducible exact H | (rw [hy9]; exact H) | exact H
 have Ny9 := Gv.a0 hy9; clear hy9
 by_cases c6 : y9.length < 140737488355328
 rotate_left
 ·rw [if_neg c6] at H; cases H
 rw [if_pos c6] at H; have LMc6 := Gv.a0 c6; clear c6; obtain ⟨y6, hy6⟩ : ∃ y_ : List Int, y_ = (y9 ++ [(a0_11) % 256]) := ⟨_, rfl⟩
 replace H : ((spec_Put16.f a0_12).bind fun t3 => (if y6.length + t3.length < 140737488355328 then ((some (y6 ++ t3 : List Int)).bind fun y2 => ((spec_Put16.f a0_13).bind fun t4 => (if y2.length + t4.length < 140737488355328 then (some (y2 ++ t4)) else (none)))) else (none))) = some r := by first | (rw [hy6]; with_reducible exact H) | (have H2_ := (Option.bind_some _ _).symm.trans H; rw [hy6]; with_reducible exact H2_) | (have H2_ := (Option.bind_some _ _).symm.trans H; with_reducible exact H2_) | with_reducible exact H | (rw [hy6]; exact H) | exact H
 have Ny6 := Gv.a0 hy6; clear hy6; replace H := Option.bind_eq_some_iff.mp H; obtain ⟨t3, A70, H⟩ := H
 (try dsimp only at H); have A7 := Gv.a0 A70; clear A70
 by_cases c8 : y6.length + t3.length < 140737488355328
 rotate_left
 ·rw [if_neg c8] at H; cases H
 rw [if_pos c8] at H; have LMc8 := Gv.a0 c8; clear c8; obtain ⟨y2, hy2⟩ : ∃ y_ : List Int, y_ = (y6 ++ t3) := ⟨_, rfl⟩
 replace H : ((spec_Put16.f a0_13).bind fun t4 => (if y2.length + t4.length < 140737488355328 then (some (y2 ++ t4)) else (none))) = some r := by first | (rw [hy2]; with_reducible exact H) | (have H2_ := (Option.bind_some _ _).symm.trans H; rw [hy2]; with_reducible exact H2_) | (have H2_ := (Option.bind_some _ _).symm.trans H; with_reducible exact H2_) | with_reducible exact H | (rw [hy2]; exact H) | exact H
 have Ny2 := Gv.a0 hy2; clear hy2; replace H := Option.bind_eq_some_iff.mp H; obtain ⟨t4, A90, H⟩ := H
 (try dsimp only at H); have A9 := Gv.a0 A90; clear A90
 by_cases c10 : y2.length + t4.length < 140737488355328
 rotate_left
 ·rw [if_neg c10] at H; cases H
 rw [if_pos c10] at H; have LMc10 := Gv.a0 c10; clear c10; obtain ⟨y13, hy13⟩ : ∃ y_ : List Int, y_ = (y2 ++ t4) := ⟨_, rfl⟩
 replace H : (some y13) = some r := by first | (rw [hy13]; with_reducible exact H) | (have H2_ := (Option.bind_some _ _).symm.trans H; rw [hy13]; with_reducible exact H2_) | (have H2_ := (Option.bind_some _ _).symm.trans H; with_reducible exact H2_) | with_reducible exact H | (rw [hy13]; exact H) | exact H
 have Ny13 := Gv.a0 hy13; clear hy13; obtain rfl := Option.some.inj H
 go_enter Try.func46, Try.ntmps46
 try go_wp2_with (first | ((with_reducible refine gate_dst (N := 1) rfl ?_); refine Gv.bev 1 33 #[.int .i64 a0_0, .int .i64 a0_1, .int .i64 a0_2, .int .i64 a0_3, .int .i64 a0_4, .int .i64 a0_5, .int .i64 a0_6, .int .i64 a0_7, .int .i64 a0_8, .int .i64 a0_9, .int .i64 a0_10, .int .i64 a0_11, .int .i64 a0_12, .int .i64 a0_13] ?_; intro gb0 hg w11 hbox hb; have BK0 := Gv.a0 (hbox); have GW0 := Gv.a0 ((Gv.ble hg Gv.bw : w.heap.size ≤ gb0)); have GE0 := GW0; replace HB := Gv.hb hb; clear hb hbox hg; obtain ⟨z12_0, z12_1, z12_2, z12_3, z12_4, z12_5, z12_6, z12_7, z12_8, z12_9, z12_10, z12_11, z12_12, z12_13⟩ := Gv.c14 BK0.out; obtain ⟨o12_0, o12_1, o12_2, o12_3, o12_4, o12_5, o12_6, o12_7, o12_8, o12_9, o12_10, o12_11, o12_12, o12_13⟩ := Gv.f14 BK0.out) | ((with_reducible refine gate_dst (N := 12) rfl ?_); refine Kd.R_lit (Kd.int .u8) _ 5 ?hg (N := 12) ?hd (xs := ([(a0_0) % 256, (a0_1) % 256] : List Int)) (inner := [.int .u8 ((a0_0) % 256), .int .u8 ((a0_1) % 256)]) (ok := fun _ => True) (okp := fun _ => True) ?hr ?hp (fun _ hk => hk) trivial (Below.refl _ _) (Nat.le_refl _) (by simp) ?_; (case hd => rfl); (case hg => rfl); (case hr => first | (go_simp; done) | (go_simp; rfl)); (case hp => exact (Reps.one (show Kd.M (Kd.int .u8) _ _ _ ((a0_0) % 256) [.int .u8 ((a0_0) % 256)] from rfl) (Reps.one (show Kd.M (Kd.int .u8) _ _ _ ((a0_1) % 256) [.int .u8 ((a0_1) % 256)] from rfl) (Reps.none _ _)))); intro v20 w13 ho14 hb hg_ hnew_; clear hg_ hnew_; (first | rw [← Ny11.out] at ho14 | (simp only [Int.reduceToNat] at ho14; rw [← Ny11.out] at ho14)); have HO14 := Gv.a0 (Kd.R_lower ho14 (below_size Gv.bw)); replace BK0 := Gv.b1 BK0 hb; replace HB := Gv.hb hb; clear hb ho14))
 replace HO14 := Gv.a0 (Kd.R_drew HO14.out); replace BK0 := Gv.a0 (blk_drew BK0.out); replace HB := Gv.a0 (below_drew1 HB.out); refine start_ (n := 12) (S := fun w' => w'.cell? ⟨gb0, 0, none⟩ = some (.int .i64 a0_0) ∧ w'.cell? ⟨gb0, 1, none⟩ = some (.int .i64 a0_1) ∧ w'.cell? ⟨gb0, 2, none⟩ = some (.int .i64 a0_2) ∧ w'.cell? ⟨gb0, 3, none⟩ = some (.int .i64 a0_3) ∧ w'.cell? ⟨gb0, 4, none⟩ = some (.int .i64 a0_4) ∧ w'.cell? ⟨gb0, 5, none⟩ = some (.int .i64 a0_5) ∧ w'.cell? ⟨gb0, 6, none⟩ = some (.int .i64 a0_6) ∧ w'.cell? ⟨gb0, 7, none⟩ = some (.int .i64 a0_7) ∧ w'.cell? ⟨gb0, 8, none⟩ = some (.int .i64 a0_8) ∧ w'.cell? ⟨gb0, 9, none⟩ = some (.int .i64 a0_9) ∧ w'.cell? ⟨gb0, 10, none⟩ = some (.int .i64 a0_10) ∧ w'.cell? ⟨gb0, 11, none⟩ = some (.int .i64 a0_11) ∧ w'.cell? ⟨gb0, 12, none⟩ = some (.int .i64 a0_12) ∧ w'.cell? ⟨gb0, 13, none⟩ = some (.int .i64 a0_13)) (ds := []) #[false, false, false, false, false, false, false, false, false, false, false, false] (by kernel_rfl) rfl rfl Gv.qs (fun hHeld => ?_); refine with_tabW spec_l11Bytes.tab2 spec_l11Bytes.bits2 (fun HT_ HW_ => ?_); generalize w13.drew = w15 at HO14 BK0 HB hHeld ⊢; refine Gv.pu 0 (some 13) HT_ ?_; refine Gv.pu 1 (some 14) HT_ ?_; refine Gv.pu 2 (some 15) HT_ ?_; refine Gv.pu 6 (some 19) HT_ ?_; refine Gv.pu 7 (some 20) HT_ ?_; refine take_ (i := 3) (N := some 16) (v := ?_) (a' := ?_) #[true, true, true, true, false, false, true, true, false, false, false, false] rfl rfl (take_ofW HT_.out HW_.out (by kernel_rfl)) (fun _ _ _ h => h) (Or.inl ⟨by rfl, ?_⟩) hHeld ?_ ?_; rotate_left
 ·rintro w' ⟨s0, s1, s2, s3, s4, s5, s6, s7, s8, s9, s10, s11, s12, s13⟩
  first | ((refine Gv.load_run (t := 33) (A := ⟨gb0, 0, none⟩) (cs := [_, _, _, _, _, _, _, _, _, _, _, _, _, _]) (x := ?xx7_) ?ho7_ ?hx7_ ⟨s0, s1, s2, s3, s4, s5, s6, s7, s8, s9, s10, s11, s12, s13, trivial⟩ Try.underlying33 rfl (by kernel_rfl)); (case ho7_ => rfl); (case hx7_ => rfl)) | (go_simp; with_reducible rfl)
 rotate_left
 ·simp only [Act.put, List.setIfInBounds_toArray, List.set_cons_zero, List.set_cons_succ, i64_w, i32_w]
  rfl
 refine take_ (i := 8) (N := some 21) (v := ?_) (a' := ?_) #[true, true, true, true, false, false, true, true, true, false, false, false] rfl rfl (take_ofW HT_.out HW_.out (by kernel_rfl)) (fun _ _ _ h => h) (Or.inl ⟨by rfl, ?_⟩) hHeld ?_ ?_; rotate_left
 ·rintro w' ⟨s0, s1, s2, s3, s4, s5, s6, s7, s8, s9, s10, s11, s12, s13⟩
  first | ((refine Gv.load_run (t := 33) (A := ⟨gb0, 0, none⟩) (cs := [_, _, _, _, _, _, _, _, _, _, _, _, _, _]) (x := ?xx9_) ?ho9_ ?hx9_ ⟨s0, s1, s2, s3, s4, s5, s6, s7, s8, s9, s10, s11, s12, s13, trivial⟩ Try.underlying33 rfl (by kernel_rfl)); (case ho9_ => rfl); (case hx9_ => rfl)) | (go_simp; with_reducible rfl)
 rotate_left
 ·simp only [Act.put, List.setIfInBounds_toArray, List.set_cons_zero, List.set_cons_succ, i64_w, i32_w]
  rfl
 refine one_ (i := 4) (N := some 17) #[true, true, true, true, true, false, true, true, true, false, false, false] rfl rfl (one_of HT_.out (by kernel_rfl)) (by decide) (fun K hK => ?_); refine goes_ Try.func71 (by kernel_rfl) rfl #[.agg #[.int .i64 a0_1, .int .i64 a0_2, .int .i64 a0_3, .int .i64 a0_4, .int .i64 a0_5]] (by rfl) rfl rfl Gv.lm ?_
 with_reducible refine (spec_AddrBytes.calls a0_1 a0_2 a0_3 a0_4 a0_5 t8 _ A2.out).mono ?_
 rintro e w16 ⟨v26, rfl, ho0, hb⟩; refine ⟨_, rfl, ?_⟩; have HO1 := Gv.a0 (Kd.R_lower (Kd.R_new' ho0 (Kd.R_lt (Gv.kr HO14.out))) (below_size Gv.bw)); replace HO14 := Gv.a0 (Kd.R_elder' (Gv.kr HO14.out) (Kd.R_base ho0) hb); replace BK0 := Gv.b1 BK0 hb; replace HB := Gv.hb hb
 (try clear hb)
 (try clear hb2)
 (try clear hk)
 (try clear hi)
 (try clear ho0); obtain ⟨Ao18, co18, eo18⟩ := Kd.R_slice HO1.out
 (first | subst eo18 | (injection eo18 with f1_ f2_ f3_; have f4_ := f1_.symm; have f5_ := f3_.symm; clear f1_ f2_ f3_; subst f4_; subst f5_)); refine hK.out _ _ Gv.qs (fun hHeld => ?_); clear hK K; refine norm_ (a' := ?_) ?_ ?_; rotate_left
 ·show Act.put _ (some 17) _ = _
  simp only [Act.put, List.setIfInBounds_toArray, List.set_cons_zero, List.set_cons_succ, i64_w, i32_w]
  rfl
 refine one_ (i := 5) (N := some 18) #[true, true, true, true, true, true, true, true, true, false, false, false] rfl rfl (one_of HT_.out (by kernel_rfl)) (by decide) (fun K hK => ?_); refine Kd.R_append_rows_step (Kd.int .u8) (w0 := w) w.heap.size (by rfl) (.tmp 13) (.tmp 17) 68 5 (.int .u8 0) 1 rfl Try.underlying68 info5 rfl (by decide) (by omega) v20 y11 t8 _ _ _ (fun k_ => some k_ ≠ (.slice Ao18 t8.length co18 : Value).ownBlock) (fun _ => False) rfl rfl ?aO ?aR (fun _ _ h => h) (fun _ h => h.elim) ?aF ?aB ?aS ?aL ?_
 (case aR => repeat (first | exact (Kd.R_reads' HO1.out).2.2 | (with_reducible refine Kd.C_alloc ?_ _) | (with_reducible refine Kd.C_drewN ?_ _) | (with_reducible refine Kd.C_drew ?_)))
 (case aB => exact Gv.bw)
 (case aF => exact (fun k_ hk => Kd.fresh' (Kd.R_lt (Gv.kr HO1.out)) k_ hk))
 (case aO => exact (by (with_reducible repeat (first | apply Kd.R_alloc | apply Kd.R_drewN | apply Kd.R_drew)); exact Kd.R_mono HO14.out (fun _ hk => hk.2)))
 (case aS => exact (below_size Gv.bw))
 (case aL => have := LMc3.out; omega)
 intro v21 w17 ho hb hg hat; rw [← Ny10.out] at ho; replace BK0 := Gv.a0 (blk_grown (g := gb0) (o := .cells #[.int .i64 a0_0, .int .i64 a0_1, .int .i64 a0_2, .int .i64 a0_3, .int .i64 a0_4, .int .i64 a0_5, .int .i64 a0_6, .int .i64 a0_7, .int .i64 a0_8, .int .i64 a0_9, .int .i64 a0_10, .int .i64 a0_11, .int .i64 a0_12, .int .i64 a0_13] 33 (0, 0)) Gv.bk hg (Kd.R_ne HO14.out BK0.out (by decide))); replace HO1 := Gv.a0 (Kd.R_after (ok := (fun _ => True)) (Gv.kr HO1.out) hg hat); replace HB := Gv.a0 (hb); have HO16 := Gv.a0 (ho); clear HO14 ho hb hg hat; refine hK.out _ _ Gv.qs (fun hHeld => ?_); clear hK K; refine norm_ (a' := ?_) ?_ ?_; rotate_left
 ·show Act.put _ (some 18) _ = _
  simp only [Act.put, List.setIfInBounds_toArray, List.set_cons_zero, List.set_cons_succ, i64_w, i32_w]
  rfl
 refine one_ (i := 9) (N := some 22) #[true, true, true, true, true, true, true, true, true, true, false, false] rfl rfl (one_of HT_.out (by kernel_rfl)) (by decide) (fun K hK => ?_); refine goes_ Try.func71 (by kernel_rfl) rfl #[.agg #[.int .i64 a0_6, .int .i64 a0_7, .int .i64 a0_8, .int .i64 a0_9, .int .i64 a0_10]] (by rfl) rfl rfl Gv.lm ?_
 with_reducible refine (spec_AddrBytes.calls a0_6 a0_7 a0_8 a0_9 a0_10 t7 _ A4.out).mono ?_
 rintro e w19 ⟨v27, rfl, ho0, hb⟩; refine ⟨_, rfl, ?_⟩; have HO5 := Gv.a0 (Kd.R_lower (Kd.R_new' (Kd.R_new' ho0 (Kd.R_lt (Gv.kr HO1.out))) (Kd.R_lt (Gv.kr HO16.out))) (below_size Gv.bw)); replace HO1 := Gv.a0 (Kd.R_elder' (Gv.kr HO1.out) (Kd.R_base ho0) hb); replace HO16 := Gv.a0 (Kd.R_elder' (Gv.kr HO16.out) (Kd.R_base ho0) hb); replace BK0 := Gv.b1 BK0 hb; replace HB := Gv.hb hb
 (try clear hb)
 (try clear hb2)
 (try clear hk)
 (try clear hi)
 (try clear ho0); obtain ⟨Ao21, co21, eo21⟩ := Kd.R_slice HO5.out
 (first | subst eo21 | (injection eo21 with f1_ f2_ f3_; have f4_ := f1_.symm; have f5_ := f3_.symm; clear f1_ f2_ f3_; subst f4_; subst f5_)); refine hK.out _ _ Gv.qs (fun hHeld => ?_); clear hK K; refine norm_ (a' := ?_) ?_ ?_; rotate_left
 ·show Act.put _ (some 22) _ = _
  simp only [Act.put, List.setIfInBounds_toArray, List.set_cons_zero, List.set_cons_succ, i64_w, i32_w]
  rfl
 refine one_ (i := 10) (N := some 23) #[true, true, true, true, true, true, true, true, true, true, true, false] rfl rfl (one_of HT_.out (by kernel_rfl)) (by decide) (fun K hK => ?_); refine Kd.R_append_rows_step (Kd.int .u8) (w0 := w) w.heap.size (by rfl) (.tmp 18) (.tmp 22) 68 5 (.int .u8 0) 1 rfl Try.underlying68 info5 rfl (by decide) (by omega) v21 y10 t7 _ _ _ (fun k_ => some k_ ≠ (.slice Ao18 t8.length co18 : Value).ownBlock ∧ some k_ ≠ (.slice Ao21 t7.length co21 : Value).ownBlock) (fun _ => False) rfl rfl ?aO ?aR (fun _ _ h => h) (fun _ h => h.elim) ?aF ?aB ?aS ?aL ?_
 (case aR => repeat (first | exact (Kd.R_reads' HO5.out).2.2 | (with_reducible refine Kd.C_alloc ?_ _) | (with_reducible refine Kd.C_drewN ?_ _) | (with_reducible refine Kd.C_drew ?_)))
 (case aB => exact Gv.bw)
 (case aF => exact (fun k_ hk => ⟨Kd.fresh' (Kd.R_lt (Gv.kr HO1.out)) k_ hk, Kd.fresh' (Kd.R_lt (Gv.kr HO5.out)) k_ hk⟩))
 (case aO => exact (Gv.kr HO16.out))
 (case aS => exact (below_size Gv.bw))
 (case aL => have := LMc5.out; omega)
 intro v22 w20 ho hb hg hat; rw [← Ny9.out] at ho; replace BK0 := Gv.a0 (blk_grown (g := gb0) (o := .cells #[.int .i64 a0_0, .int .i64 a0_1, .int .i64 a0_2, .int .i64 a0_3, .int .i64 a0_4, .int .i64 a0_5, .int .i64 a0_6, .int .i64 a0_7, .int .i64 a0_8, .int .i64 a0_9, .int .i64 a0_10, .int .i64 a0_11, .int .i64 a0_12, .int .i64 a0_13] 33 (0, 0)) Gv.bk hg (Kd.R_ne HO16.out BK0.out (by decide))); replace HO1 := Gv.a0 (Kd.R_after (ok := (fun k_ => some k_ ≠ (.slice Ao21 t7.length co21 : Value).ownBlock)) (by (with_reducible repeat (first | apply Kd.R_alloc | apply Kd.R_drewN | apply Kd.R_drew)); exact Kd.R_mono HO1.out (fun _ hk => ⟨hk.2, hk.1.2⟩)) hg hat); replace HO5 := Gv.a0 (Kd.R_after (ok := (fun k_ => some k_ ≠ (.slice Ao18 t8.length co18 : Value).ownBlock)) (by (with_reducible repeat (first | apply Kd.R_alloc | apply Kd.R_drewN | apply Kd.R_drew)); exact Kd.R_mono HO5.out (fun _ hk => ⟨hk.1.2, hk.2⟩)) hg hat); replace HB := Gv.a0 (hb); have HO19 := Gv.a0 (ho); clear HO16 ho hb hg hat; refine hK.out _ _ Gv.qs (fun hHeld => ?_); clear hK K; refine norm_ (a' := ?_) ?_ ?_; rotate_left
 ·show Act.put _ (some 23) _ = _
  simp only [Act.put, List.setIfInBounds_toArray, List.set_cons_zero, List.set_cons_succ, i64_w, i32_w]
  rfl
 refine Gv.pu 11 (some 3) HT_ ?_; refine done_ (done_of HT_.out (by kernel_rfl)) ?_; obtain ⟨z22_0, z22_1, z22_2, z22_3, z22_4, z22_5, z22_6, z22_7, z22_8, z22_9, z22_10, z22_11, z22_12, z22_13⟩ := Gv.c14 BK0.out; obtain ⟨o22_0, o22_1, o22_2, o22_3, o22_4, o22_5, o22_6, o22_7, o22_8, o22_9, o22_10, o22_11, o22_12, o22_13⟩ := Gv.f14 BK0.out
 try go_wp2_with (first | ((with_reducible refine gate_builtin (b := .append) (xs := #[.tmp 24, .tmp 29]) rfl ?_); at_builtin; refine Kd.R_append (Kd.int .u8) (w0 := w) w.heap.size rfl (.tmp 24) (.tmp 29) 68 5 (.int .u8 0) 1 rfl Try.underlying68 info5 rfl (by decide) (by omega) v22 y9 ((a0_11) % 256) [.int .u8 ((a0_11) % 256)] (fun k_ => some k_ ≠ (.slice Ao18 t8.length co18 : Value).ownBlock ∧ some k_ ≠ (.slice Ao21 t7.length co21 : Value).ownBlock) (fun _ => False) rfl rfl ?aP (fun _ hk => hk.elim) ?aF ?aO ?aB ?aS ?aL ?_; (case aP => exact rfl); (case aB => exact Gv.bw); (case aF => exact (fun k_ hk => ⟨Kd.fresh' (Kd.R_lt (Gv.kr HO1.out)) k_ hk, Kd.fresh' (Kd.R_lt (Gv.kr HO5.out)) k_ hk⟩)); (case aO => exact (Gv.kr HO19.out)); (case aS => exact (below_size Gv.bw)); (case aL => have := LMc6.out; omega); intro v23 w23 ho hb hg hat; rw [← Ny6.out] at ho; replace BK0 := Gv.a0 (blk_grown (g := gb0) (o := .cells #[.int .i64 a0_0, .int .i64 a0_1, .int .i64 a0_2, .int .i64 a0_3, .int .i64 a0_4, .int .i64 a0_5, .int .i64 a0_6, .int .i64 a0_7, .int .i64 a0_8, .int .i64 a0_9, .int .i64 a0_10, .int .i64 a0_11, .int .i64 a0_12, .int .i64 a0_13] 33 (0, 0)) Gv.bk hg (Kd.R_ne HO19.out BK0.out (by decide))); replace HO1 := Gv.a0 (Kd.R_after (ok := (fun k_ => some k_ ≠ (.slice Ao21 t7.length co21 : Value).ownBlock)) (Gv.kr HO1.out) hg hat); replace HO5 := Gv.a0 (Kd.R_after (ok := (fun k_ => some k_ ≠ (.slice Ao18 t8.length co18 : Value).ownBlock)) (Gv.kr HO5.out) hg hat); replace HB := Gv.a0 (hb); have HO15 := Gv.a0 (ho); clear HO19 ho hb hg hat))
 replace HO1 := Gv.a0 (Kd.R_drew HO1.out); replace HO5 := Gv.a0 (Kd.R_drew HO5.out); replace HO15 := Gv.a0 (Kd.R_drew HO15.out); replace BK0 := Gv.a0 (blk_drew BK0.out); replace HB := Gv.a0 (below_drew1 HB.out); refine start_ (n := 12) (S := fun w' => w'.cell? ⟨gb0, 0, none⟩ = some (.int .i64 a0_0) ∧ w'.cell? ⟨gb0, 1, none⟩ = some (.int .i64 a0_1) ∧ w'.cell? ⟨gb0, 2, none⟩ = some (.int .i64 a0_2) ∧ w'.cell? ⟨gb0, 3, none⟩ = some (.int .i64 a0_3) ∧ w'.cell? ⟨gb0, 4, none⟩ = some (.int .i64 a0_4) ∧ w'.cell? ⟨gb0, 5, none⟩ = some (.int .i64 a0_5) ∧ w'.cell? ⟨gb0, 6, none⟩ = some (.int .i64 a0_6) ∧ w'.cell? ⟨gb0, 7, none⟩ = some (.int .i64 a0_7) ∧ w'.cell? ⟨gb0, 8, none⟩ = some (.int .i64 a0_8) ∧ w'.cell? ⟨gb0, 9, none⟩ = some (.int .i64 a0_9) ∧ w'.cell? ⟨gb0, 10, none⟩ = some (.int .i64 a0_10) ∧ w'.cell? ⟨gb0, 11, none⟩ = some (.int .i64 a0_11) ∧ w'.cell? ⟨gb0, 12, none⟩ = some (.int .i64 a0_12) ∧ w'.cell? ⟨gb0, 13, none⟩ = some (.int .i64 a0_13)) (ds := []) #[false, false, false, false, false, false, false, false, false, false, false, false] (by kernel_rfl) rfl rfl Gv.qs (fun hHeld => ?_); refine with_tabW spec_l11Bytes.tab4 spec_l11Bytes.bits4 (fun HT_ HW_ => ?_); generalize w23.drew = w24 at HO1 HO5 HO15 BK0 HB hHeld ⊢; refine Gv.pu 0 (some 31) HT_ ?_; refine Gv.pu 1 (some 32) HT_ ?_; refine Gv.pu 2 (some 33) HT_ ?_; refine Gv.pu 6 (some 37) HT_ ?_; refine Gv.pu 7 (some 38) HT_ ?_; refine take_ (i := 3) (N := some 34) (v := ?_) (a' := ?_) #[true, true, true, true, false, false, true, true, false, false, false, false] rfl rfl (take_ofW HT_.out HW_.out (by kernel_rfl)) (fun _ _ _ h => h) (Or.inl ⟨by rfl, ?_⟩) hHeld ?_ ?_; rotate_left
 ·rintro w' ⟨s0, s1, s2, s3, s4, s5, s6, s7, s8, s9, s10, s11, s12, s13⟩
  first | ((refine Gv.load_run (t := 33) (A := ⟨gb0, 0, none⟩) (cs := [_, _, _, _, _, _, _, _, _, _, _, _, _, _]) (x := ?xx11_) ?ho11_ ?hx11_ ⟨s0, s1, s2, s3, s4, s5, s6, s7, s8, s9, s10, s11, s12, s13, trivial⟩ Try.underlying33 rfl (by kernel_rfl)); (case ho11_ => rfl); (case hx11_ => rfl)) | (go_simp; with_reducible rfl)
 rotate_left
 ·simp only [Act.put, List.setIfInBounds_toArray, List.set_cons_zero, List.set_cons_succ, i64_w, i32_w]
  rfl
 refine take_ (i := 8) (N := some 39) (v := ?_) (a' := ?_) #[true, true, true, true, false, false, true, true, true, false, false, false] rfl rfl (take_ofW HT_.out HW_.out (by kernel_rfl)) (fun _ _ _ h => h) (Or.inl ⟨by rfl, ?_⟩) hHeld ?_ ?_; rotate_left
 ·rintro w' ⟨s0, s1, s2, s3, s4, s5, s6, s7, s8, s9, s10, s11, s12, s13⟩
  first | ((refine Gv.load_run (t := 33) (A := ⟨gb0, 0, none⟩) (cs := [_, _, _, _, _, _, _, _, _, _, _, _, _, _]) (x := ?xx13_) ?ho13_ ?hx13_ ⟨s0, s1, s2, s3, s4, s5, s6, s7, s8, s9, s10, s11, s12, s13, trivial⟩ Try.underlying33 rfl (by kernel_rfl)); (case ho13_ => rfl); (case hx13_ => rfl)) | (go_simp; with_reducible rfl)
 rotate_left
 ·simp only [Act.put, List.setIfInBounds_toArray, List.set_cons_zero, List.set_cons_succ, i64_w, i32_w]
  rfl
 refine one_ (i := 4) (N := some 35) #[true, true, true, true, true, false, true, true, true, false, false, false] rfl rfl (one_of HT_.out (by kernel_rfl)) (by decide) (fun K hK => ?_); refine goes_ Try.func72 (by kernel_rfl) rfl #[.int .i64 a0_12] (by rfl) rfl rfl Gv.lm ?_
 with_reducible refine (spec_Put16.calls a0_12 t3 _ A7.out).mono ?_
 rintro e w25 ⟨v28, rfl, ho0, hb⟩; refine ⟨_, rfl, ?_⟩; have HO12 := Gv.a0 (Kd.R_lower (Kd.R_new' (Kd.R_new' (Kd.R_new' ho0 (Kd.R_lt (Gv.kr HO1.out))) (Kd.R_lt (Gv.kr HO5.out))) (Kd.R_lt (Gv.kr HO15.out))) (below_size Gv.bw)); replace HO1 := Gv.a0 (Kd.R_elder' (Gv.kr HO1.out) (Kd.R_base ho0) hb); replace HO5 := Gv.a0 (Kd.R_elder' (Gv.kr HO5.out) (Kd.R_base ho0) hb); replace HO15 := Gv.a0 (Kd.R_elder' (Gv.kr HO15.out) (Kd.R_base ho0) hb); replace BK0 := Gv.b1 BK0 hb; replace HB := Gv.hb hb
 (try clear hb)
 (try clear hb2)
 (try clear hk)
 (try clear hi)
 (try clear ho0); obtain ⟨Ao27, co27, eo27⟩ := Kd.R_slice HO12.out
 (first | subst eo27 | (injection eo27 with f1_ f2_ f3_; have f4_ := f1_.symm; have f5_ := f3_.symm; clear f1_ f2_ f3_; subst f4_; subst f5_)); refine hK.out _ _ Gv.qs (fun hHeld => ?_); clear hK K; refine norm_ (a' := ?_) ?_ ?_; rotate_left
 ·show Act.put _ (some 35) _ = _
  simp only [Act.put, List.setIfInBounds_toArray, List.set_cons_zero, List.set_cons_succ, i64_w, i32_w]
  rfl
 refine one_ (i := 5) (N := some 36) #[true, true, true, true, true, true, true, true, true, false, false, false] rfl rfl (one_of HT_.out (by kernel_rfl)) (by decide) (fun K hK => ?_); refine Kd.R_append_rows_step (Kd.int .u8) (w0 := w) w.heap.size (by rfl) (.tmp 31) (.tmp 35) 68 5 (.int .u8 0) 1 rfl Try.underlying68 info5 rfl (by decide) (by omega) v23 y6 t3 _ _ _ (fun k_ => some k_ ≠ (.slice Ao18 t8.length co18 : Value).ownBlock ∧ some k_ ≠ (.slice Ao21 t7.length co21 : Value).ownBlock ∧ some k_ ≠ (.slice Ao27 t3.length co27 : Value).ownBlock) (fun _ => False) rfl rfl ?aO ?aR (fun _ _ h => h) (fun _ h => h.elim) ?aF ?aB ?aS ?aL ?_
 (case aR => repeat (first | exact (Kd.R_reads' HO12.out).2.2 | (with_reducible refine Kd.C_alloc ?_ _) | (with_reducible refine Kd.C_drewN ?_ _) | (with_reducible refine Kd.C_drew ?_)))
 (case aB => exact Gv.bw)
 (case aF => exact (fun k_ hk => ⟨Kd.fresh' (Kd.R_lt (Gv.kr HO1.out)) k_ hk, Kd.fresh' (Kd.R_lt (Gv.kr HO5.out)) k_ hk, Kd.fresh' (Kd.R_lt (Gv.kr HO12.out)) k_ hk⟩))
 (case aO => exact (by (with_reducible repeat (first | apply Kd.R_alloc | apply Kd.R_drewN | apply Kd.R_drew)); exact Kd.R_mono HO15.out (fun _ hk => ⟨hk.1.1, ⟨hk.1.2, hk.2⟩⟩)))
 (case aS => exact (below_size Gv.bw))
 (case aL => have := LMc8.out; omega)
 intro v24 w26 ho hb hg hat; rw [← Ny2.out] at ho; replace BK0 := Gv.a0 (blk_grown (g := gb0) (o := .cells #[.int .i64 a0_0, .int .i64 a0_1, .int .i64 a0_2, .int .i64 a0_3, .int .i64 a0_4, .int .i64 a0_5, .int .i64 a0_6, .int .i64 a0_7, .int .i64 a0_8, .int .i64 a0_9, .int .i64 a0_10, .int .i64 a0_11, .int .i64 a0_12, .int .i64 a0_13] 33 (0, 0)) Gv.bk hg (Kd.R_ne HO15.out BK0.out (by decide))); replace HO1 := Gv.a0 (Kd.R_after (ok := (fun k_ => some k_ ≠ (.slice Ao21 t7.length co21 : Value).ownBlock ∧ some k_ ≠ (.slice Ao27 t3.length co27 : Value).ownBlock)) (by (with_reducible repeat (first | apply Kd.R_alloc | apply Kd.R_drewN | apply Kd.R_drew)); exact Kd.R_mono HO1.out (fun _ hk => ⟨⟨hk.1.1, hk.2⟩, hk.1.2⟩)) hg hat); replace HO5 := Gv.a0 (Kd.R_after (ok := (fun k_ => some k_ ≠ (.slice Ao18 t8.length co18 : Value).ownBlock ∧ some k_ ≠ (.slice Ao27 t3.length co27 : Value).ownBlock)) (by (with_reducible repeat (first | apply Kd.R_alloc | apply Kd.R_drewN | apply Kd.R_drew)); exact Kd.R_mono HO5.out (fun _ hk => ⟨⟨hk.1.1, hk.2⟩, hk.1.2⟩)) hg hat); replace HO12 := Gv.a0 (Kd.R_after (ok := (fun k_ => some k_ ≠ (.slice Ao18 t8.length co18 : Value).ownBlock ∧ some k_ ≠ (.slice Ao21 t7.length co21 : Value).ownBlock)) (by (with_reducible repeat (first | apply Kd.R_alloc | apply Kd.R_drewN | apply Kd.R_drew)); exact Kd.R_mono HO12.out (fun _ hk => ⟨⟨hk.1.1.2, hk.1.2⟩, hk.2⟩)) hg hat); replace HB := Gv.a0 (hb); have HO17 := Gv.a0 (ho); clear HO15 ho hb hg hat; refine hK.out _ _ Gv.qs (fun hHeld => ?_); clear hK K; refine norm_ (a' := ?_) ?_ ?_; rotate_left
 ·show Act.put _ (some 36) _ = _
  simp only [Act.put, List.setIfInBounds_toArray, List.set_cons_zero, List.set_cons_succ, i64_w, i32_w]
  rfl
 refine one_ (i := 9) (N := some 40) #[true, true, true, true, true, true, true, true, true, true, false, false] rfl rfl (one_of HT_.out (by kernel_rfl)) (by decide) (fun K hK => ?_); refine goes_ Try.func72 (by kernel_rfl) rfl #[.int .i64 a0_13] (by rfl) rfl rfl Gv.lm ?_
 with_reducible refine (spec_Put16.calls a0_13 t4 _ A9.out).mono ?_
 rintro e w28 ⟨v29, rfl, ho0, hb⟩; refine ⟨_, rfl, ?_⟩; have HO18 := Gv.a0 (Kd.R_lower (Kd.R_new' (Kd.R_new' (Kd.R_new' (Kd.R_new' ho0 (Kd.R_lt (Gv.kr HO1.out))) (Kd.R_lt (Gv.kr HO5.out))) (Kd.R_lt (Gv.kr HO12.out))) (Kd.R_lt (Gv.kr HO17.out))) (below_size Gv.bw)); replace HO1 := Gv.a0 (Kd.R_elder' (Gv.kr HO1.out) (Kd.R_base ho0) hb); replace HO5 := Gv.a0 (Kd.R_elder' (Gv.kr HO5.out) (Kd.R_base ho0) hb); replace HO12 := Gv.a0 (Kd.R_elder' (Gv.kr HO12.out) (Kd.R_base ho0) hb); replace HO17 := Gv.a0 (Kd.R_elder' (Gv.kr HO17.out) (Kd.R_base ho0) hb); replace BK0 := Gv.b1 BK0 hb; replace HB := Gv.hb hb
 (try clear hb)
 (try clear hb2)
 (try clear hk)
 (try clear hi)
 (try clear ho0); obtain ⟨Ao30, co30, eo30⟩ := Kd.R_slice HO18.out
 (first | subst eo30 | (injection eo30 with f1_ f2_ f3_; have f4_ := f1_.symm; have f5_ := f3_.symm; clear f1_ f2_ f3_; subst f4_; subst f5_)); refine hK.out _ _ Gv.qs (fun hHeld => ?_); clear hK K; refine norm_ (a' := ?_) ?_ ?_; rotate_left
 ·show Act.put _ (some 40) _ = _
  simp only [Act.put, List.setIfInBounds_toArray, List.set_cons_zero, List.set_cons_succ, i64_w, i32_w]
  rfl
 refine one_ (i := 10) (N := some 41) #[true, true, true, true, true, true, true, true, true, true, true, false] rfl rfl (one_of HT_.out (by kernel_rfl)) (by decide) (fun K hK => ?_); refine Kd.R_append_rows_step (Kd.int .u8) (w0 := w) w.heap.size (by rfl) (.tmp 36) (.tmp 40) 68 5 (.int .u8 0) 1 rfl Try.underlying68 info5 rfl (by decide) (by omega) v24 y2 t4 _ _ _ (fun k_ => some k_ ≠ (.slice Ao18 t8.length co18 : Value).ownBlock ∧ some k_ ≠ (.slice Ao21 t7.length co21 : Value).ownBlock ∧ some k_ ≠ (.slice Ao27 t3.length co27 : Value).ownBlock ∧ some k_ ≠ (.slice Ao30 t4.length co30 : Value).ownBlock) (fun _ => False) rfl rfl ?aO ?aR (fun _ _ h => h) (fun _ h => h.elim) ?aF ?aB ?aS ?aL ?_
 (case aR => repeat (first | exact (Kd.R_reads' HO18.out).2.2 | (with_reducible refine Kd.C_alloc ?_ _) | (with_reducible refine Kd.C_drewN ?_ _) | (with_reducible refine Kd.C_drew ?_)))
 (case aB => exact Gv.bw)
 (case aF => exact (fun k_ hk => ⟨Kd.fresh' (Kd.R_lt (Gv.kr HO1.out)) k_ hk, Kd.fresh' (Kd.R_lt (Gv.kr HO5.out)) k_ hk, Kd.fresh' (Kd.R_lt (Gv.kr HO12.out)) k_ hk, Kd.fresh' (Kd.R_lt (Gv.kr HO18.out)) k_ hk⟩))
 (case aO => exact (by (with_reducible repeat (first | apply Kd.R_alloc | apply Kd.R_drewN | apply Kd.R_drew)); exact Kd.R_mono HO17.out (fun _ hk => ⟨hk.1.1, ⟨hk.1.2.1, ⟨hk.1.2.2, hk.2⟩⟩⟩)))
 (case aS => exact (below_size Gv.bw))
 (case aL => have := LMc10.out; omega)
 intro v30 w29 ho hb hg hat; rw [← Ny13.out] at ho; replace BK0 := Gv.a0 (blk_grown (g := gb0) (o := .cells #[.int .i64 a0_0, .int .i64 a0_1, .int .i64 a0_2, .int .i64 a0_3, .int .i64 a0_4, .int .i64 a0_5, .int .i64 a0_6, .int .i64 a0_7, .int .i64 a0_8, .int .i64 a0_9, .int .i64 a0_10, .int .i64 a0_11, .int .i64 a0_12, .int .i64 a0_13] 33 (0, 0)) Gv.bk hg (Kd.R_ne HO17.out BK0.out (by decide))); replace HO1 := Gv.a0 (Kd.R_after (ok := (fun k_ => some k_ ≠ (.slice Ao21 t7.length co21 : Value).ownBlock ∧ some k_ ≠ (.slice Ao27 t3.length co27 : Value).ownBlock ∧ some k_ ≠ (.slice Ao30 t4.length co30 : Value).ownBlock)) (by (with_reducible repeat (first | apply Kd.R_alloc | apply Kd.R_drewN | apply Kd.R_drew)); exact Kd.R_mono HO1.out (fun _ hk => ⟨⟨hk.1.1.1, ⟨hk.1.1.2, hk.2⟩⟩, hk.1.2⟩)) hg hat); replace HO5 := Gv.a0 (Kd.R_after (ok := (fun k_ => some k_ ≠ (.slice Ao18 t8.length co18 : Value).ownBlock ∧ some k_ ≠ (.slice Ao27 t3.length co27 : Value).ownBlock ∧ some k_ ≠ (.slice Ao30 t4.length co30 : Value).ownBlock)) (by (with_reducible repeat (first | apply Kd.R_alloc | apply Kd.R_drewN | apply Kd.R_drew)); exact Kd.R_mono HO5.out (fun _ hk => ⟨⟨hk.1.1.1, ⟨hk.1.1.2, hk.2⟩⟩, hk.1.2⟩)) hg hat); replace HO12 := Gv.a0 (Kd.R_after (ok := (fun k_ => some k_ ≠ (.slice Ao18 t8.length co18 : Value).ownBlock ∧ some k_ ≠ (.slice Ao21 t7.length co21 : Value).ownBlock ∧ some k_ ≠ (.slice Ao30 t4.length co30 : Value).ownBlock)) (by (with_reducible repeat (first | apply Kd.R_alloc | apply Kd.R_drewN | apply Kd.R_drew)); exact Kd.R_mono HO12.out (fun _ hk => ⟨⟨hk.1.1.1, ⟨hk.1.1.2, hk.2⟩⟩, hk.1.2⟩)) hg hat); replace HO18 := Gv.a0 (Kd.R_after (ok := (fun k_ => some k_ ≠ (.slice Ao18 t8.length co18 : Value).ownBlock ∧ some k_ ≠ (.slice Ao21 t7.length co21 : Value).ownBlock ∧ some k_ ≠ (.slice Ao27 t3.length co27 : Value).ownBlock)) (by (with_reducible repeat (first | apply Kd.R_alloc | apply Kd.R_drewN | apply Kd.R_drew)); exact Kd.R_mono HO18.out (fun _ hk => ⟨⟨hk.1.1.1.2, ⟨hk.1.1.2, hk.1.2⟩⟩, hk.2⟩)) hg hat); replace HB := Gv.a0 (hb); have HO25 := Gv.a0 (ho); clear HO17 ho hb hg hat; refine hK.out _ _ Gv.qs (fun hHeld => ?_); clear hK K; refine norm_ (a' := ?_) ?_ ?_; rotate_left
 ·show Act.put _ (some 41) _ = _
  simp only [Act.put, List.setIfInBounds_toArray, List.set_cons_zero, List.set_cons_succ, i64_w, i32_w]
  rfl
 refine Gv.pu 11 (some 2) HT_ ?_; refine done_ (done_of HT_.out (by kernel_rfl)) ?_
 try go_wp2
 go_ret
 exact ⟨_, Gv.rt, by (with_reducible repeat (first | apply Kd.R_alloc | apply Kd.R_drewN | apply Kd.R_drew)); exact Kd.R_mono HO25.out (fun _ hk => trivial), Gv.bw⟩
/-! ### spec_HashOf: function 16 -/
mutual
def spec_HashOf.j0 : Nat → Int → Bool → Int → Int → Int → Int → Int → Int → Int → Int → Int → Int → Int → Int → Int → Int → Option (Int)
 | 0, _, _, _, _, _, _, _, _, _, _, _, _, _, _, _, _ => none
 | k + 1, x0, x18, x298000, x298001, x298002, x298003, x298004, x298005, x298006, x298007, x298008, x298009, x298010, x298011, x298012, x298013 => if x18 = true then (some (-1)) else ((spec_l11Bytes.f x298000 x298001 x298002 x298003 x298004 x298005 x298006 x298007 x298008 x298009 x298010 x298011 x298012 x298013).bind fun t299 => (spec_HashOf.l0 k x0 t299 0))
def spec_HashOf.l0 : Nat → Int → List Int → Int → Option (Int)
 | 0, _, _, _ => none
 | k + 1, x5, x6, x7 => if x7 < (x6.length : Int) then (if 0 ≤ x7 then (spec_HashOf.l0 k (Int.tmod (wrap64 ((Go.bits .xor .i64 x5 (wrap64 (rd x6 x7))) * 16777619)) 4294967296) x6 (wrap64 (x7 + 1))) else (none)) else (some (Go.bits .xor .i64 x5 (wrap64 (Int.tdiv x5 65536))))
end
def spec_HashOf.f (k : Nat) (a0 : Int) (a1_0 : Int) (a1_1 : Int) (a1_2 : Int) (a1_3 : Int) (a1_4 : Int) (a1_5 : Int) (a1_6 : Int) (a1_7 : Int) (a1_8 : Int) (a1_9 : Int) (a1_10 : Int) (a1_11 : Int) (a1_12 : Int) (a1_13 : Int) : Option (Int) := if a0 < 0 then (spec_HashOf.j0 k a0 true a1_0 a1_1 a1_2 a1_3 a1_4 a1_5 a1_6 a1_7 a1_8 a1_9 a1_10 a1_11 a1_12 a1_13) else (if a0 > 4294967295 then (spec_HashOf.j0 k a0 true a1_0 a1_1 a1_2 a1_3 a1_4 a1_5 a1_6 a1_7 a1_8 a1_9 a1_10 a1_11 a1_12 a1_13) else ((spec_FlowKeyOk.f a1_0 a1_1 a1_2 a1_3 a1_4 a1_5 a1_6 a1_7 a1_8 a1_9 a1_10 a1_11 a1_12 a1_13).bind fun t298 => (spec_HashOf.j0 k a0 (!t298) a1_0 a1_1 a1_2 a1_3 a1_4 a1_5 a1_6 a1_7 a1_8 a1_9 a1_10 a1_11 a1_12 a1_13)))
set_option maxHeartbeats 8000000 in
set_option maxRecDepth 100000 in
theorem spec_HashOf.calls (k : Nat) (a0 : Int) (a1_0 : Int) (a1_1 : Int) (a1_2 : Int) (a1_3 : Int) (a1_4 : Int) (a1_5 : Int) (a1_6 : Int) (a1_7 : Int) (a1_8 : Int) (a1_9 : Int) (a1_10 : Int) (a1_11 : Int) (a1_12 : Int) (a1_13 : Int) (r : Int) (w : World) (h : spec_HashOf.f k a0 a1_0 a1_1 a1_2 a1_3 a1_4 a1_5 a1_6 a1_7 a1_8 a1_9 a1_10 a1_11 a1_12 a1_13 = some r) :
  Calls Try.prog 16 #[.int .i64 a0, .agg #[.int .i64 a1_0, .int .i64 a1_1, .int .i64 a1_2, .int .i64 a1_3, .int .i64 a1_4, .int .i64 a1_5, .int .i64 a1_6, .int .i64 a1_7, .int .i64 a1_8, .int .i64 a1_9, .int .i64 a1_10, .int .i64 a1_11, .int .i64 a1_12, .int .i64 a1_13]] w fun e w' => e = .returned (.int .i64 r) ∧ Below w.heap.size w w' := by
 have hu33 := Try.underlying33; have HB := Gv.a0 (Below.refl w.heap.size w); unfold spec_HashOf.f at h; have H := h; clear h; have HC3 := Gv.a0 H; clear H
 go_enter Try.func16, Try.ntmps16
 go_upto_region 1 with (first | ((with_reducible refine gate_dst (N := 3) rfl ?_); refine Gv.bev 3 33 #[.int .i64 a1_0, .int .i64 a1_1, .int .i64 a1_2, .int .i64 a1_3, .int .i64 a1_4, .int .i64 a1_5, .int .i64 a1_6, .int .i64 a1_7, .int .i64 a1_8, .int .i64 a1_9, .int .i64 a1_10, .int .i64 a1_11, .int .i64 a1_12, .int .i64 a1_13] ?_; intro gb0 hg w4 hbox hb; have BK0 := Gv.a0 (hbox); have GW0 := Gv.a0 ((Gv.ble hg Gv.bw : w.heap.size ≤ gb0)); have GE0 := GW0; replace HB := Gv.hb hb; clear hb hbox hg))
 (try simp only [Act.put, List.setIfInBounds_toArray, List.set_cons_zero, List.set_cons_succ])
 go_cut [18] (fun v18 wc => ∃ (kq : Nat) (x18_2 : Bool), v18 = .bool x18_2 ∧ Aside0 (spec_HashOf.j0 kq a0 x18_2 a1_0 a1_1 a1_2 a1_3 a1_4 a1_5 a1_6 a1_7 a1_8 a1_9 a1_10 a1_11 a1_12 a1_13 = some r) ∧ Aside0 (kq ≤ k) ∧ Aside0 (wc.heap[gb0]? = some (.cells #[.int .i64 a1_0, .int .i64 a1_1, .int .i64 a1_2, .int .i64 a1_3, .int .i64 a1_4, .int .i64 a1_5, .int .i64 a1_6, .int .i64 a1_7, .int .i64 a1_8, .int .i64 a1_9, .int .i64 a1_10, .int .i64 a1_11, .int .i64 a1_12, .int .i64 a1_13] 33 (0, 0))) ∧ Aside0 (Below w.heap.size w wc))
 case first =>
  have H := HC3.out; clear HC3
  by_cases c5 : a0 < 0
  ·rw [if_pos c5] at H; have c5b0 := decide_eq_true c5; clear c5
   (first | rw [c5b0] | (simp only [i64_w, i32_w]; rw [c5b0]) | skip); have H' := Gv.a0 H; clear H
   go_wp2
   go_meet
   case rel => exact ⟨_, (true), Gv.rq, H', ⟨by first | omega | exact Nat.le_refl _⟩, ⟨by (with_reducible repeat (first | refine blk_drewN ?_ _ | refine blk_drew ?_ | refine blk_alloc ?_ _)); exact BK0.out⟩, ⟨Gv.bw⟩⟩
  ·rw [if_neg c5] at H; have c5b0 := decide_eq_false c5; clear c5
   (first | rw [c5b0] | (simp only [i64_w, i32_w]; rw [c5b0]) | skip)
   by_cases c6 : a0 > 4294967295
   ·rw [if_pos c6] at H; have c6b0 : decide (4294967295 < a0) = true := decide_eq_true c6; clear c6; have H' := Gv.a0 H; clear H
    go_wp2
    go_meet
    case rel => exact ⟨_, (true), Gv.rq, H', ⟨by first | omega | exact Nat.le_refl _⟩, ⟨by (with_reducible repeat (first | refine blk_drewN ?_ _ | refine blk_drew ?_ | refine blk_alloc ?_ _)); exact BK0.out⟩, ⟨Gv.bw⟩⟩
   ·rw [if_neg c6] at H; have c6b0 : decide (4294967295 < a0) = false := decide_eq_false c6; clear c6; replace H := Option.bind_eq_some_iff.mp H; obtain ⟨t3, A70, H⟩ := H
    (try dsimp only at H); have A7 := Gv.a0 A70; clear A70; have H' := Gv.a0 H; clear H; obtain ⟨z8_0, z8_1, z8_2, z8_3, z8_4, z8_5, z8_6, z8_7, z8_8, z8_9, z8_10, z8_11, z8_12, z8_13⟩ := Gv.c14 BK0.out; obtain ⟨o8_0, o8_1, o8_2, o8_3, o8_4, o8_5, o8_6, o8_7, o8_8, o8_9, o8_10, o8_11, o8_12, o8_13⟩ := Gv.f14 BK0.out
    go_wp2_with (first | (go_at_call 13; (with_reducible refine (spec_FlowKeyOk.calls a1_0 a1_1 a1_2 a1_3 a1_4 a1_5 a1_6 a1_7 a1_8 a1_9 a1_10 a1_11 a1_12 a1_13 t3 _ A7.out).mono ?_); rintro e w9 ⟨rfl, hb⟩; replace BK0 := Gv.b1 BK0 hb; replace HB := Gv.hb hb; clear hb))
    go_meet
    case rel => exact ⟨_, (!t3), Gv.rq, H', ⟨by first | omega | exact Nat.le_refl _⟩, ⟨by (with_reducible repeat (first | refine blk_drewN ?_ _ | refine blk_drew ?_ | refine blk_alloc ?_ _)); exact BK0.out⟩, ⟨Gv.bw⟩⟩
 case rest =>
  clear HC3
  try clear c1
  try clear p2
  try clear c5
  try clear c5b0
  try clear c6
  try clear c6b0
  try clear z8_0 z8_1
  try clear z8_10 z8_11 z8_12 z8_13
  try clear z8_2 z8_3 z8_4 z8_5 z8_6 z8_7 z8_8 z8_9
  try clear o8_0 o8_1
  try clear o8_10 o8_11 o8_12 o8_13
  try clear o8_2 o8_3 o8_4 o8_5 o8_6 o8_7 o8_8 o8_9
  obtain ⟨kq, x18_2, rfl, HA, HJ2, BK0, HB⟩ := hcut; cases kq with
  | zero => exact absurd HA.out (by simp [spec_HashOf.j0])
  | succ kj2 =>
   have H := HA.out; clear HA; simp only [spec_HashOf.j0] at H
   by_cases c10 : x18_2 = true
   ·subst c10; rw [if_pos rfl] at H
    (try dsimp only at H); obtain rfl := Option.some.inj H
    go_wp2
    go_ret
    exact ⟨Gv.rt, Gv.bw⟩
   ·replace c10 := Bool.eq_false_iff.mpr c10; subst c10; rw [if_neg (show ¬ (false = true) by decide)] at H
    (try dsimp only at H); replace H := Option.bind_eq_some_iff.mp H; obtain ⟨t2, A4, H⟩ := H
    (try dsimp only at H); have A11 := Gv.a0 A4; clear A4; have H' := Gv.a0 H; clear H; obtain ⟨z12_0, z12_1, z12_2, z12_3, z12_4, z12_5, z12_6, z12_7, z12_8, z12_9, z12_10, z12_11, z12_12, z12_13⟩ := Gv.c14 BK0.out; obtain ⟨o12_0, o12_1, o12_2, o12_3, o12_4, o12_5, o12_6, o12_7, o12_8, o12_9, o12_10, o12_11, o12_12, o12_13⟩ := Gv.f14 BK0.out
    go_wp2_with (first | ((with_reducible refine gate_callee (f := 46) rfl ?_); refine goesL_ (some 21) rfl rfl Try.func46 (by kernel_rfl) rfl #[.agg #[.int .i64 a1_0, .int .i64 a1_1, .int .i64 a1_2, .int .i64 a1_3, .int .i64 a1_4, .int .i64 a1_5, .int .i64 a1_6, .int .i64 a1_7, .int .i64 a1_8, .int .i64 a1_9, .int .i64 a1_10, .int .i64 a1_11, .int .i64 a1_12, .int .i64 a1_13]] rfl Gv.lm ?_; (with_reducible refine (spec_l11Bytes.calls a1_0 a1_1 a1_2 a1_3 a1_4 a1_5 a1_6 a1_7 a1_8 a1_9 a1_10 a1_11 a1_12 a1_13 t2 _ A11.out).mono ?_); rintro e w13 ⟨v6, rfl, ho0, hb⟩; refine ⟨_, rfl, ?_⟩; have HO5 := Gv.a0 (Kd.R_lower ho0 (below_size Gv.bw)); replace BK0 := Gv.b1 BK0 hb; replace HB := Gv.hb hb; clear hb ho0))
    go_loopg [5, 7] kj2 (fun kq v5 v7 w' => ∃ (x5_2 : Int) (x7_2 : Int), v5 = .int .i64 x5_2 ∧ v7 = .int .i64 x7_2 ∧ Aside0 (spec_HashOf.l0 kq x5_2 t2 x7_2 = some r) ∧ Aside0 (kq ≤ kj2) ∧ Aside0 (Kd.R (Kd.int .u8) 5 w' w.heap.size (fun _ => True) v6 t2) ∧ Aside0 (w'.heap[gb0]? = some (.cells #[.int .i64 a1_0, .int .i64 a1_1, .int .i64 a1_2, .int .i64 a1_3, .int .i64 a1_4, .int .i64 a1_5, .int .i64 a1_6, .int .i64 a1_7, .int .i64 a1_8, .int .i64 a1_9, .int .i64 a1_10, .int .i64 a1_11, .int .i64 a1_12, .int .i64 a1_13] 33 (0, 0))) ∧ Aside0 (Below w.heap.size w w'))
    case atStart => exact ⟨(a0), (0), Gv.rq, Gv.rq, H', ⟨Nat.le_refl _⟩, ⟨Gv.kr HO5.out⟩, ⟨by (with_reducible repeat (first | refine blk_drewN ?_ _ | refine blk_drew ?_ | refine blk_alloc ?_ _)); exact BK0.out⟩, ⟨Gv.bw⟩⟩
    case round =>
     clear H'
     try clear c1
     try clear p2
     try clear c4
     try clear c5
     try clear c5b0
     try clear c6
     try clear c6b0
     try clear c10
     try clear z12_0 z12_1
     try clear z12_10 z12_11 z12_12 z12_13
     try clear z12_2 z12_3 z12_4 z12_5 z12_6 z12_7 z12_8 z12_9
     try clear z8_0 z8_1
     try clear z8_10 z8_11 z8_12 z8_13
     try clear z8_2 z8_3 z8_4 z8_5 z8_6 z8_7 z8_8 z8_9
     try clear o12_0 o12_1
     try clear o12_10 o12_11 o12_12 o12_13
     try clear o12_2 o12_3 o12_4 o12_5 o12_6 o12_7 o12_8 o12_9
     try clear o8_0 o8_1
     try clear o8_10 o8_11 o8_12 o8_13
     try clear o8_2 o8_3 o8_4 o8_5 o8_6 o8_7 o8_8 o8_9
     try clear p2
     obtain ⟨x5_2, x7_2, rfl, rfl, HA, HK2, HO_6, BK0, HB⟩ := hrel; cases gk with
     | zero => exact absurd HA.out (by simp [spec_HashOf.l0])
     | succ k2 =>
      have H := HA.out; clear HA; simp only [spec_HashOf.l0] at H
      by_cases c14 : x7_2 < (t2.length : Int)
      rotate_left
      ·rw [if_neg c14] at H; have c14b0 := decide_eq_false c14; clear c14; obtain rfl := Option.some.inj H; obtain ⟨Ao17, co17, eo17⟩ := Kd.R_slice HO_6.out; subst eo17
       go_wp2
       go_ret
       exact ⟨Gv.rt, Gv.bw⟩

      rw [if_pos c14] at H; have c14b0 := decide_eq_true c14; clear c14
      by_cases c15 : 0 ≤ x7_2
      ·rw [if_pos c15] at H; have c15b0 := decide_eq_true c15; clear c15; have H' := Gv.a0 H; clear H; obtain ⟨Ao16, co16, eo16⟩ := Kd.R_slice HO_6.out; subst eo16; have p1 : 0 ≤ (x7_2 : Int) := Gv.od; have q1 : x7_2 < (t2.length : Int) := Gv.od; obtain ⟨ad1, e1, u1_0⟩ := Kd.at_int (Kd.R_reads' HO_6.out).2.2 x7_2 p1 q1; cases e1; replace p1 := eq_true p1; replace q1 := eq_true q1
       go_wp2
       go_roundg k2
       case measure => have := HJ2.out; have := HK2.out; omega
       case rel => exact ⟨(Int.tmod (wrap64 ((Go.bits .xor .i64 x5_2 (wrap64 (rd t2 x7_2))) * 16777619)) 4294967296), (wrap64 (x7_2 + 1)), Gv.rq, Gv.rq, H', ⟨by have := HJ2.out; have := HK2.out; omega⟩, ⟨Gv.kr HO_6.out⟩, ⟨by (with_reducible repeat (first | refine blk_drewN ?_ _ | refine blk_drew ?_ | refine blk_alloc ?_ _)); exact BK0.out⟩, ⟨Gv.bw⟩⟩
      ·rw [if_neg c15] at H; cases H
/-! ### spec_l11Home: function 55 -/
def spec_l11Home.f (k : Nat) (a0_0 : Int) (l0_1 : List (S75)) (a1_0 : Int) (a1_1 : Int) (a1_2 : Int) (a1_3 : Int) (a1_4 : Int) (a1_5 : Int) (a1_6 : Int) (a1_7 : Int) (a1_8 : Int) (a1_9 : Int) (a1_10 : Int) (a1_11 : Int) (a1_12 : Int) (a1_13 : Int) : Option (Int) := (spec_HashOf.f k a0_0 a1_0 a1_1 a1_2 a1_3 a1_4 a1_5 a1_6 a1_7 a1_8 a1_9 a1_10 a1_11 a1_12 a1_13).bind fun t305 => (if (l0_1.length : Int) = 0 then (none) else (some (Int.tmod t305 (l0_1.length : Int))))
def spec_l11Home.T1 : Bool × List (List Nat × List Nat) := (true, [([], []), ([0], [0]), ([], []), ([1, 2], [1, 2]), ([], []), ([4], [4]), ([5], [5]), ([3, 6], [3, 6]), ([7, 3, 0, 1, 2, 3, 4, 5, 6, 7], [7])])
def spec_l11Home.B1 : List Nat := [0, 1, 0, 7, 0, 16, 48, 127, 255]
theorem spec_l11Home.tab1 : rtab .any (opsOf Try.f55 1) = spec_l11Home.T1 := by kernel_rfl
theorem spec_l11Home.bits1 : waitsOk spec_l11Home.T1.2 spec_l11Home.B1 = true := by kernel_rfl
set_option maxHeartbeats 8000000 in
set_option maxRecDepth 100000 in
theorem spec_l11Home.calls (k : Nat) (a0_0 : Int) (A0_1 : Option Addr) (c0_1 : Nat) (l0_1 : List (S75)) (a1_0 : Int) (a1_1 : Int) (a1_2 : Int) (a1_3 : Int) (a1_4 : Int) (a1_5 : Int) (a1_6 : Int) (a1_7 : Int) (a1_8 : Int) (a1_9 : Int) (a1_10 : Int) (a1_11 : Int) (a1_12 : Int) (a1_13 : Int) (r : Int) (w : World) (hr0_1 : Kd.C k75 w A0_1 l0_1.length l0_1) (hc0_1 : l0_1.length ≤ c0_1) (h : spec_l11Home.f k a0_0 l0_1 a1_0 a1_1 a1_2 a1_3 a1_4 a1_5 a1_6 a1_7 a1_8 a1_9 a1_10 a1_11 a1_12 a1_13 = some r) :
  Calls Try.prog 55 #[.agg #[.int .i64 a0_0, .slice A0_1 l0_1.length c0_1], .agg #[.int .i64 a1_0, .int .i64 a1_1, .int .i64 a1_2, .int .i64 a1_3, .int .i64 a1_4, .int .i64 a1_5, .int .i64 a1_6, .int .i64 a1_7, .int .i64 a1_8, .int .i64 a1_9, .int .i64 a1_10, .int .i64 a1_11, .int .i64 a1_12, .int .i64 a1_13]] w fun e w' => e = .returned (.int .i64 r) ∧ Below w.heap.size w w' := by
 have hu40 := Try.underlying40; have hu33 := Try.underlying33; have HR0_1 := Gv.a0 hr0_1; have HC0_1 := Gv.a0 hc0_1; clear hr0_1 hc0_1; have HB := Gv.a0 (Below.refl w.heap.size w); unfold spec_l11Home.f at h; have H := h; clear h; replace H := Option.bind_eq_some_iff.mp H; obtain ⟨t2, A30, H⟩ := H
 (try dsimp only at H); have A3 := Gv.a0 A30; clear A30
 by_cases c4 : (l0_1.length : Int) = 0
 ·rw [if_pos c4] at H; cases H
 ·rw [if_neg c4] at H; have c4b0 : ((l0_1.length : Int) == 0) = false := beq_eq_false_iff_ne.mpr c4; have c4b1 : ((l0_1.length : Int) != 0) = true := bne_iff_ne.mpr c4; have c4b2 : ¬ (l0_1 = []) := fun h_ => c4 (by rw [h_]; rfl)
  obtain rfl := Option.some.inj H
  go_enter Try.func55, Try.ntmps55
  try go_wp2_with (first | ((with_reducible refine gate_dst (N := 2) rfl ?_); refine Gv.bev 2 40 #[.int .i64 a0_0, .slice A0_1 l0_1.length c0_1] ?_; intro gb1 hg w5 hbox hb; have BK1 := Gv.a0 (hbox); have GW1 := Gv.a0 ((Gv.ble hg Gv.bw : w.heap.size ≤ gb1)); have GE1 := GW1; replace HB := Gv.hb hb; clear hb hbox hg) | ((with_reducible refine gate_dst (N := 3) rfl ?_); refine Gv.bev 3 33 #[.int .i64 a1_0, .int .i64 a1_1, .int .i64 a1_2, .int .i64 a1_3, .int .i64 a1_4, .int .i64 a1_5, .int .i64 a1_6, .int .i64 a1_7, .int .i64 a1_8, .int .i64 a1_9, .int .i64 a1_10, .int .i64 a1_11, .int .i64 a1_12, .int .i64 a1_13] ?_; intro gb0 hg w6 hbox hb; have BK0 := Gv.a0 (hbox); have GW0 := Gv.a0 ((Gv.ble hg Gv.bw : w.heap.size ≤ gb0)); have GE0 := GW0; replace HB := Gv.hb hb; have NB1_0 := Gv.a0 ((Gv.nlt hg (Gv.kb BK1.out) : gb1 ≠ gb0)); have NB0_1 := Gv.a0 ((Gv.ngt hg (Gv.kb BK1.out) : gb0 ≠ gb1)); replace BK1 := Gv.b1 BK1 hb; clear hb hbox hg))
  replace BK1 := Gv.a0 (blk_drew BK1.out); replace BK0 := Gv.a0 (blk_drew BK0.out); replace HB := Gv.a0 (below_drew1 HB.out); refine start_ (n := 9) (S := fun w' => w'.cell? ⟨gb1, 0, none⟩ = some (.int .i64 a0_0) ∧ w'.cell? ⟨gb1, 1, none⟩ = some (.slice A0_1 l0_1.length c0_1) ∧ w'.cell? ⟨gb0, 0, none⟩ = some (.int .i64 a1_0) ∧ w'.cell? ⟨gb0, 1, none⟩ = some (.int .i64 a1_1) ∧ w'.cell? ⟨gb0, 2, none⟩ = some (.int .i64 a1_2) ∧ w'.cell? ⟨gb0, 3, none⟩ = some (.int .i64 a1_3) ∧ w'.cell? ⟨gb0, 4, none⟩ = some (.int .i64 a1_4) ∧ w'.cell? ⟨gb0, 5, none⟩ = some (.int .i64 a1_5) ∧ w'.cell? ⟨gb0, 6, none⟩ = some (.int .i64 a1_6) ∧ w'.cell? ⟨gb0, 7, none⟩ = some (.int .i64 a1_7) ∧ w'.cell? ⟨gb0, 8, none⟩ = some (.int .i64 a1_8) ∧ w'.cell? ⟨gb0, 9, none⟩ = some (.int .i64 a1_9) ∧ w'.cell? ⟨gb0, 10, none⟩ = some (.int .i64 a1_10) ∧ w'.cell? ⟨gb0, 11, none⟩ = some (.int .i64 a1_11) ∧ w'.cell? ⟨gb0, 12, none⟩ = some (.int .i64 a1_12) ∧ w'.cell? ⟨gb0, 13, none⟩ = some (.int .i64 a1_13)) (ds := []) #[false, false, false, false, false, false, false, false, false] (by kernel_rfl) rfl rfl Gv.qs (fun hHeld => ?_); refine with_tabW spec_l11Home.tab1 spec_l11Home.bits1 (fun HT_ HW_ => ?_); generalize w6.drew = w7 at BK1 BK0 HB hHeld ⊢; refine Gv.pu 0 (some 5) HT_ ?_; refine Gv.pu 4 (some 9) HT_ ?_; refine take_ (i := 1) (N := some 6) (v := ?_) (a' := ?_) #[true, true, false, false, true, false, false, false, false] rfl rfl (take_ofW HT_.out HW_.out (by kernel_rfl)) (fun _ _ _ h => h) (Or.inl ⟨by rfl, ?_⟩) hHeld ?_ ?_; rotate_left
  ·rintro w' ⟨s0, s1, s2, s3, s4, s5, s6, s7, s8, s9, s10, s11, s12, s13, s14, s15⟩
   first | ((refine Gv.load_run (t := 33) (A := ⟨gb0, 0, none⟩) (cs := [_, _, _, _, _, _, _, _, _, _, _, _, _, _]) (x := ?xx15_) ?ho15_ ?hx15_ ⟨s2, s3, s4, s5, s6, s7, s8, s9, s10, s11, s12, s13, s14, s15, trivial⟩ Try.underlying33 rfl (by kernel_rfl)); (case ho15_ => rfl); (case hx15_ => rfl)) | (go_simp; with_reducible rfl)
  rotate_left
  ·simp only [Act.put, List.setIfInBounds_toArray, List.set_cons_zero, List.set_cons_succ, i64_w, i32_w]
   rfl
  refine take_ (i := 2) (N := some 7) (v := ?_) (a' := ?_) #[true, true, true, false, true, false, false, false, false] rfl rfl (take_ofW HT_.out HW_.out (by kernel_rfl)) (fun _ _ _ h => h) (Or.inl ⟨by rfl, ?_⟩) hHeld ?_ ?_; rotate_left
  ·rintro w' ⟨s0, s1, s2, s3, s4, s5, s6, s7, s8, s9, s10, s11, s12, s13, s14, s15⟩
   first | ((refine Gv.load_run (t := 33) (A := ⟨gb0, 0, none⟩) (cs := [_, _, _, _, _, _, _, _, _, _, _, _, _, _]) (x := ?xx17_) ?ho17_ ?hx17_ ⟨s2, s3, s4, s5, s6, s7, s8, s9, s10, s11, s12, s13, s14, s15, trivial⟩ Try.underlying33 rfl (by kernel_rfl)); (case ho17_ => rfl); (case hx17_ => rfl)) | (go_simp; with_reducible rfl)
  rotate_left
  ·simp only [Act.put, List.setIfInBounds_toArray, List.set_cons_zero, List.set_cons_succ, i64_w, i32_w]
   rfl
  refine take_ (i := 5) (N := some 10) (v := ?_) (a' := ?_) #[true, true, true, false, true, true, false, false, false] rfl rfl (take_ofW HT_.out HW_.out (by kernel_rfl)) (fun _ _ _ h => h) (Or.inl ⟨by rfl, ?_⟩) hHeld ?_ ?_; rotate_left
  ·rintro w' ⟨s0, s1, s2, s3, s4, s5, s6, s7, s8, s9, s10, s11, s12, s13, s14, s15⟩
   first | ((refine Gv.load_run (t := 33) (A := ⟨gb0, 0, none⟩) (cs := [_, _, _, _, _, _, _, _, _, _, _, _, _, _]) (x := ?xx19_) ?ho19_ ?hx19_ ⟨s2, s3, s4, s5, s6, s7, s8, s9, s10, s11, s12, s13, s14, s15, trivial⟩ Try.underlying33 rfl (by kernel_rfl)); (case ho19_ => rfl); (case hx19_ => rfl)) | (go_simp; with_reducible rfl)
  rotate_left
  ·simp only [Act.put, List.setIfInBounds_toArray, List.set_cons_zero, List.set_cons_succ, i64_w, i32_w]
   rfl
  refine Gv.pu 6 (some 11) HT_ ?_; refine one_ (i := 3) (N := some 8) #[true, true, true, true, true, true, true, false, false] rfl rfl (one_of HT_.out (by kernel_rfl)) (by decide) (fun K hK => ?_); refine goes_ Try.func16 (by kernel_rfl) rfl #[.int .i64 a0_0, .agg #[.int .i64 a1_0, .int .i64 a1_1, .int .i64 a1_2, .int .i64 a1_3, .int .i64 a1_4, .int .i64 a1_5, .int .i64 a1_6, .int .i64 a1_7, .int .i64 a1_8, .int .i64 a1_9, .int .i64 a1_10, .int .i64 a1_11, .int .i64 a1_12, .int .i64 a1_13]] (by rfl) rfl rfl Gv.lm ?_
  with_reducible refine (spec_HashOf.calls k a0_0 a1_0 a1_1 a1_2 a1_3 a1_4 a1_5 a1_6 a1_7 a1_8 a1_9 a1_10 a1_11 a1_12 a1_13 t2 _ A3.out).mono ?_
  rintro e w8 ⟨rfl, hb⟩; refine ⟨_, rfl, ?_⟩; replace BK1 := Gv.b1 BK1 hb; replace BK0 := Gv.b1 BK0 hb; replace HB := Gv.hb hb
  (try clear hb)
  (try clear hb2)
  (try clear hk)
  (try clear hi); refine hK.out _ _ Gv.qs (fun hHeld => ?_); clear hK K; refine norm_ (a' := ?_) ?_ ?_; rotate_left
  ·show Act.put _ (some 8) _ = _
   simp only [Act.put, List.setIfInBounds_toArray, List.set_cons_zero, List.set_cons_succ, i64_w, i32_w]
   rfl
  refine Gv.pu 7 (some 12) HT_ ?_; refine Gv.pu 8 (some 4) HT_ ?_; refine done_ (done_of HT_.out (by kernel_rfl)) ?_
  try go_wp2
  go_ret
  exact ⟨Gv.rt, Gv.bw⟩

end Go.Proofs.Ytfnpodebjejhpaa.PTd
