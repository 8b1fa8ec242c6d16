/- Plain Lean functions of a law's Go functions, their contracts, by a program of this session (wip/pr.py over the kit's print). -/
import Derived.Test.YtfnpodebjejhpaaPTpx0
import Derived.Test.YtfnpodebjejhpaaPTpx1
import Derived.Test.YtfnpodebjejhpaaPTpx6
namespace Go.Proofs.Ytfnpodebjejhpaa.PTp
open Go.RowKit Go.Proofs.YtfnpodebjejhpaaW.PrintWords Go.Proofs.YtfnpodebjejhpaaW.PrintLast Go.Proofs.YtfnpodebjejhpaaW.PrintMore
attribute [local go_sem] max2_int min2_int max_two min_two max_three min_three max_four min_four   -- for this text's walks alone
set_option linter.unusedVariables false
set_option linter.unusedSimpArgs false

attribute [local go_sem high] eqA33
/-! ### impl_AddrBytes: function 74 -/
def impl_AddrBytes.f (k : Nat) (a0_0 : Int) (a0_1 : Int) (a0_2 : Int) (a0_3 : Int) (a0_4 : Int) : Option (List Int) := (impl_AddrOk.f a0_0 a0_1 a0_2 a0_3 a0_4).bind fun t389 => (if t389 = true then (if a0_0 = 4 then ((impl_Put32.f k a0_4).bind fun t390 => (some t390)) else ((impl_Put32.f k a0_1).bind fun t393 => ((impl_Put32.f k a0_2).bind fun t396 => ((impl_Put32.f k a0_3).bind fun t399 => ((impl_Put32.f k a0_4).bind fun t402 => ((slices_Concat_byte_byte.f k (([t393, t396, t399, t402] : List (List Int)))).bind fun t408 => (some t408))))))) else (some ([] : List Int)))
def impl_AddrBytes.T5 : Bool × List (List Nat × List Nat) := (true, [([], []), ([0], [0]), ([1], [1]), ([], []), ([3], [3]), ([4, 2], [4]), ([], []), ([6], [6]), ([7, 5], [7]), ([], []), ([9], [9]), ([10, 8], [10]), ([2, 5, 8, 11], [2, 5, 8, 11]), ([12, 11], [12]), ([13, 13, 0, 1, 2, 3, 4, 5, 6, 7, 8, 9, 10, 11, 12, 13], [13])])
def impl_AddrBytes.B5 : List Nat := [0, 1, 3, 0, 8, 31, 0, 64, 255, 0, 512, 2047, 4095, 8191, 16383]
theorem impl_AddrBytes.tab5 : rtab .any (opsOf Try.f74 5) = impl_AddrBytes.T5 := by kernel_rfl
theorem impl_AddrBytes.bits5 : waitsOk impl_AddrBytes.T5.2 impl_AddrBytes.B5 = true := by kernel_rfl
set_option maxHeartbeats 8000000 in
set_option maxRecDepth 100000 in
theorem impl_AddrBytes.calls (k : Nat) (a0_0 : Int) (a0_1 : Int) (a0_2 : Int) (a0_3 : Int) (a0_4 : Int) (r : List Int) (w : World) (h : impl_AddrBytes.f k a0_0 a0_1 a0_2 a0_3 a0_4 = some r) :
  Calls Try.prog 74 #[.agg #[.int .i64 a0_0, .int .i64 a0_1, .int .i64 a0_2, .int .i64 a0_3, .int .i64 a0_4]] w fun e w' => ∃ v0_ : Value, e = .returned (v0_) ∧ Kd.R (Kd.int .u8) 5 w' w.heap.size (fun _ => True) v0_ r ∧ Below w.heap.size w w' := by
 have hu29 := Try.underlying29
 have HB := Gv.a0 (Below.refl w.heap.size w)
 have H : ((impl_AddrOk.f a0_0 a0_1 a0_2 a0_3 a0_4).bind fun t389 => (if t389 = true then (if a0_0 = 4 then ((impl_Put32.f k a0_4).bind fun t390 => (some t390)) else ((impl_Put32.f k a0_1).bind fun t393 => ((impl_Put32.f k a0_2).bind fun t396 => ((impl_Put32.f k a0_3).bind fun t399 => ((impl_Put32.f k a0_4).bind fun t402 => ((slices_Concat_byte_byte.f k (([t393, t396, t399, t402] : List (List Int)))).bind fun t408 => (some t408))))))) else (some ([] : List Int)))) = some r := h
 clear h
 replace H := Option.bind_eq_some_iff.mp H
 obtain ⟨t389, A20, H⟩ := H
 (try dsimp only at H)
 have A2 := Gv.a0 A20
 clear A20
 by_cases c3 : t389 = true
 rotate_left
 ·replace c3 := Bool.eq_false_iff.mpr c3
  subst c3
  rw [if_neg (show ¬ (false = true) by decide)] at H
  (try dsimp only at H)
  obtain rfl := Option.some.inj H
  go_enter Try.func74, Try.ntmps74
  go_wp2_with (first | ((with_reducible refine gate_dst (N := 1) rfl ?_); refine Gv.bev 1 29 #[.int .i64 a0_0, .int .i64 a0_1, .int .i64 a0_2, .int .i64 a0_3, .int .i64 a0_4] ?_; intro gb388 hg w33 hbox hb; have BK388 := Gv.a0 (hbox); have GW388 := Gv.a0 ((Gv.ble hg Gv.bw : w.heap.size ≤ gb388)); have GE388 := Gv.a0 ((Gv.ble hg Gv.bw : w.heap.size ≤ gb388)); replace HB := Gv.a0 (below_step Gv.bw hb); clear hb hbox hg; obtain ⟨hcz34_0, hcz34_1, hcz34_2, hcz34_3, hcz34_4⟩ := Gv.c5 BK388.out; obtain ⟨hfz34_0, hfz34_1, hfz34_2, hfz34_3, hfz34_4⟩ := Gv.f5 BK388.out) | ((with_reducible refine gate_callee (f := 81) rfl ?_); refine goesL_ (some 5) rfl rfl Try.func81 (by kernel_rfl) rfl #[.agg #[.int .i64 a0_0, .int .i64 a0_1, .int .i64 a0_2, .int .i64 a0_3, .int .i64 a0_4]] rfl Gv.lm ?_; (with_reducible refine (impl_AddrOk.calls a0_0 a0_1 a0_2 a0_3 a0_4 false _ A2.out).mono ?_); rintro e w35 ⟨rfl, hb⟩; refine ⟨_, rfl, ?_⟩; replace BK388 := Gv.b1 BK388 hb; replace HB := Gv.a0 (below_step Gv.bw hb); clear hb))
  go_ret
  exact ⟨_, Gv.rt, by first | exact Kd.R_nil _ _ _ _ _ | exact Kd.N_nil _ _ _ _ _ | exact Kd.V_nil _ _ _ _ _ | exact Kd.Q_nil _ _ _ _ _ | exact Kd.S_nil _ _ _ _ _, Gv.bw⟩

 subst c3
 rw [if_pos rfl] at H
 (try dsimp only at H)
 by_cases c4 : a0_0 = 4
 ·rw [if_pos c4] at H
  have c4b0 : (a0_0 == 4) = true := beq_iff_eq.mpr c4
  have c4b1 : (a0_0 != 4) = false := bne_eq_false_iff_eq.mpr c4
  clear c4
  replace H := Option.bind_eq_some_iff.mp H
  obtain ⟨t390, A50, H⟩ := H
  (try dsimp only at H)
  have A5 := Gv.a0 A50
  clear A50
  obtain rfl := Option.some.inj H
  go_enter Try.func74, Try.ntmps74
  go_wp2_with (first | ((with_reducible refine gate_dst (N := 1) rfl ?_); refine Gv.bev 1 29 #[.int .i64 a0_0, .int .i64 a0_1, .int .i64 a0_2, .int .i64 a0_3, .int .i64 a0_4] ?_; intro gb388 hg w6 hbox hb; have BK388 := Gv.a0 (hbox); have GW388 := Gv.a0 ((Gv.ble hg Gv.bw : w.heap.size ≤ gb388)); have GE388 := Gv.a0 ((Gv.ble hg Gv.bw : w.heap.size ≤ gb388)); replace HB := Gv.a0 (below_step Gv.bw hb); clear hb hbox hg; obtain ⟨hcz7_0, hcz7_1, hcz7_2, hcz7_3, hcz7_4⟩ := Gv.c5 BK388.out; obtain ⟨hfz7_0, hfz7_1, hfz7_2, hfz7_3, hfz7_4⟩ := Gv.f5 BK388.out) | ((with_reducible refine gate_callee (f := 81) rfl ?_); refine goesL_ (some 5) rfl rfl Try.func81 (by kernel_rfl) rfl #[.agg #[.int .i64 a0_0, .int .i64 a0_1, .int .i64 a0_2, .int .i64 a0_3, .int .i64 a0_4]] rfl Gv.lm ?_; (with_reducible refine (impl_AddrOk.calls a0_0 a0_1 a0_2 a0_3 a0_4 true _ A2.out).mono ?_); rintro e w8 ⟨rfl, hb⟩; refine ⟨_, rfl, ?_⟩; replace BK388 := Gv.b1 BK388 hb; replace HB := Gv.a0 (below_step Gv.bw hb); clear hb; obtain ⟨hcz9_0, hcz9_1, hcz9_2, hcz9_3, hcz9_4⟩ := Gv.c5 BK388.out; obtain ⟨hfz9_0, hfz9_1, hfz9_2, hfz9_3, hfz9_4⟩ := Gv.f5 BK388.out) | ((with_reducible refine gate_callee (f := 86) rfl ?_); refine goesL_ (some 13) rfl rfl Try.func86 (by kernel_rfl) rfl #[.int .i64 a0_4] rfl Gv.lm ?_; (with_reducible refine (impl_Put32.calls k a0_4 t390 _ A5.out).mono ?_); rintro e w10 ⟨v391, rfl, ho0, hb⟩; refine ⟨_, rfl, ?_⟩; have HO392 := Gv.a0 (Kd.R_lower ho0 (below_size Gv.bw)); replace BK388 := Gv.b1 BK388 hb; replace HB := Gv.a0 (below_step Gv.bw hb); clear hb ho0))
  go_ret
  exact ⟨_, Gv.rt, Gv.kr HO392.out, Gv.bw⟩
 ·rw [if_neg c4] at H
  have c4b0 : (a0_0 == 4) = false := beq_eq_false_iff_ne.mpr c4
  have c4b1 : (a0_0 != 4) = true := bne_iff_ne.mpr c4
  replace H := Option.bind_eq_some_iff.mp H
  obtain ⟨t393, A110, H⟩ := H
  (try dsimp only at H)
  have A11 := Gv.a0 A110
  clear A110
  replace H := Option.bind_eq_some_iff.mp H
  obtain ⟨t396, A120, H⟩ := H
  (try dsimp only at H)
  have A12 := Gv.a0 A120
  clear A120
  replace H := Option.bind_eq_some_iff.mp H
  obtain ⟨t399, A130, H⟩ := H
  (try dsimp only at H)
  have A13 := Gv.a0 A130
  clear A130
  replace H := Option.bind_eq_some_iff.mp H
  obtain ⟨t402, A140, H⟩ := H
  (try dsimp only at H)
  have A14 := Gv.a0 A140
  clear A140
  obtain ⟨y405, hy405⟩ : ∃ y_ : List (List Int), y_ = (([t393, t396, t399, t402] : List (List Int))) := ⟨_, rfl⟩
  replace H : ((slices_Concat_byte_byte.f k y405).bind fun t408 => (some t408)) = some r := by first | (rw [hy405]; with_reducible exact H) | (have H2_ := (Option.bind_some _ _).symm.trans H; rw [hy405]; with_reducible exact H2_) | (have H2_ := (Option.bind_some _ _).symm.trans H; with_reducible exact H2_) | with_reducible exact H | (rw [hy405]; exact H) | exact H
  have Ny405 := Gv.a0 hy405
  clear hy405
  replace H := Option.bind_eq_some_iff.mp H
  obtain ⟨t408, A150, H⟩ := H
  (try dsimp only at H)
  have A15 := Gv.a0 A150
  clear A150
  obtain rfl := Option.some.inj H
  go_enter Try.func74, Try.ntmps74
  try go_wp2_with (first | ((with_reducible refine gate_dst (N := 1) rfl ?_); refine Gv.bev 1 29 #[.int .i64 a0_0, .int .i64 a0_1, .int .i64 a0_2, .int .i64 a0_3, .int .i64 a0_4] ?_; intro gb388 hg w16 hbox hb; have BK388 := Gv.a0 (hbox); have GW388 := Gv.a0 ((Gv.ble hg Gv.bw : w.heap.size ≤ gb388)); have GE388 := Gv.a0 ((Gv.ble hg Gv.bw : w.heap.size ≤ gb388)); replace HB := Gv.a0 (below_step Gv.bw hb); clear hb hbox hg; obtain ⟨hcz17_0, hcz17_1, hcz17_2, hcz17_3, hcz17_4⟩ := Gv.c5 BK388.out; obtain ⟨hfz17_0, hfz17_1, hfz17_2, hfz17_3, hfz17_4⟩ := Gv.f5 BK388.out) | ((with_reducible refine gate_callee (f := 81) rfl ?_); refine goesL_ (some 5) rfl rfl Try.func81 (by kernel_rfl) rfl #[.agg #[.int .i64 a0_0, .int .i64 a0_1, .int .i64 a0_2, .int .i64 a0_3, .int .i64 a0_4]] rfl Gv.lm ?_; (with_reducible refine (impl_AddrOk.calls a0_0 a0_1 a0_2 a0_3 a0_4 true _ A2.out).mono ?_); rintro e w18 ⟨rfl, hb⟩; refine ⟨_, rfl, ?_⟩; replace BK388 := Gv.b1 BK388 hb; replace HB := Gv.a0 (below_step Gv.bw hb); clear hb; obtain ⟨hcz19_0, hcz19_1, hcz19_2, hcz19_3, hcz19_4⟩ := Gv.c5 BK388.out; obtain ⟨hfz19_0, hfz19_1, hfz19_2, hfz19_3, hfz19_4⟩ := Gv.f5 BK388.out))
  replace BK388 := Gv.a0 (blk_drew BK388.out)
  replace HB := Gv.a0 (below_drew1 HB.out)
  refine start_ (n := 15) (S := fun w' => w'.cell? ⟨gb388, 0, none⟩ = some (.int .i64 a0_0) ∧ w'.cell? ⟨gb388, 1, none⟩ = some (.int .i64 a0_1) ∧ w'.cell? ⟨gb388, 2, none⟩ = some (.int .i64 a0_2) ∧ w'.cell? ⟨gb388, 3, none⟩ = some (.int .i64 a0_3) ∧ w'.cell? ⟨gb388, 4, none⟩ = some (.int .i64 a0_4)) (ds := []) #[false, false, false, false, false, false, false, false, false, false, false, false, false, false, false] (by kernel_rfl) rfl rfl ⟨Gv.q BK388.out, Gv.q BK388.out, Gv.q BK388.out, Gv.q BK388.out, Gv.q BK388.out⟩ (fun hHeld => ?_); refine with_tabW impl_AddrBytes.tab5 impl_AddrBytes.bits5 (fun HT_ HW_ => ?_)
  generalize w18.drew = w20 at BK388 HB hHeld ⊢
  refine Gv.pu 0 (some 14) HT_ ?_
  refine Gv.pu 3 (some 17) HT_ ?_
  refine Gv.pu 6 (some 20) HT_ ?_
  refine Gv.pu 9 (some 23) HT_ ?_
  refine take_ (i := 1) (N := some 15) (v := ?_) (a' := ?_) #[true, true, false, true, false, false, true, false, false, true, false, false, false, false, false] rfl rfl (take_ofW HT_.out HW_.out (by kernel_rfl)) (fun _ _ _ h => h) (Or.inl ⟨by rfl, ?_⟩) hHeld ?_ ?_
  rotate_left
  ·rintro w' ⟨s0, s1, s2, s3, s4⟩
   go_simp
   with_reducible rfl
  rotate_left
  ·simp only [Act.put, List.setIfInBounds_toArray, List.set_cons_zero, List.set_cons_succ, i64_w, i32_w]
   rfl
  refine take_ (i := 4) (N := some 18) (v := ?_) (a' := ?_) #[true, true, false, true, true, false, true, false, false, true, false, false, false, false, false] rfl rfl (take_ofW HT_.out HW_.out (by kernel_rfl)) (fun _ _ _ h => h) (Or.inl ⟨by rfl, ?_⟩) hHeld ?_ ?_
  rotate_left
  ·rintro w' ⟨s0, s1, s2, s3, s4⟩
   go_simp
   with_reducible rfl
  rotate_left
  ·simp only [Act.put, List.setIfInBounds_toArray, List.set_cons_zero, List.set_cons_succ, i64_w, i32_w]
   rfl
  refine take_ (i := 7) (N := some 21) (v := ?_) (a' := ?_) #[true, true, false, true, true, false, true, true, false, true, false, false, false, false, false] rfl rfl (take_ofW HT_.out HW_.out (by kernel_rfl)) (fun _ _ _ h => h) (Or.inl ⟨by rfl, ?_⟩) hHeld ?_ ?_
  rotate_left
  ·rintro w' ⟨s0, s1, s2, s3, s4⟩
   go_simp
   with_reducible rfl
  rotate_left
  ·simp only [Act.put, List.setIfInBounds_toArray, List.set_cons_zero, List.set_cons_succ, i64_w, i32_w]
   rfl
  refine take_ (i := 10) (N := some 24) (v := ?_) (a' := ?_) #[true, true, false, true, true, false, true, true, false, true, true, false, false, false, false] rfl rfl (take_ofW HT_.out HW_.out (by kernel_rfl)) (fun _ _ _ h => h) (Or.inl ⟨by rfl, ?_⟩) hHeld ?_ ?_
  rotate_left
  ·rintro w' ⟨s0, s1, s2, s3, s4⟩
   go_simp
   with_reducible rfl
  rotate_left
  ·simp only [Act.put, List.setIfInBounds_toArray, List.set_cons_zero, List.set_cons_succ, i64_w, i32_w]
   rfl
  refine one_ (i := 2) (N := some 16) #[true, true, true, true, true, false, true, true, false, true, true, false, false, false, false] rfl rfl (one_of HT_.out (by kernel_rfl)) (by decide) (fun K hK => ?_)
  refine goes_ Try.func86 (by kernel_rfl) rfl #[.int .i64 a0_1] (by rfl) rfl rfl Gv.lm ?_
  with_reducible refine (impl_Put32.calls k a0_1 t393 _ A11.out).mono ?_
  rintro e w21 ⟨v394, rfl, ho0, hb⟩
  refine ⟨_, rfl, ?_⟩
  have HO395 := Gv.a0 (Kd.R_lower ho0 (below_size Gv.bw))
  replace BK388 := Gv.b1 BK388 hb
  replace HB := Gv.a0 (below_step Gv.bw hb)
  (try clear hb)
  (try clear hb2)
  (try clear hk)
  (try clear hi)
  (try clear ho0)
  refine hK.out _ _ ⟨Gv.q BK388.out, Gv.q BK388.out, Gv.q BK388.out, Gv.q BK388.out, Gv.q BK388.out⟩ (fun hHeld => ?_)
  clear hK K
  refine norm_ (a' := ?_) ?_ ?_
  rotate_left
  ·show Act.put _ (some 16) _ = _
   simp only [Act.put, List.setIfInBounds_toArray, List.set_cons_zero, List.set_cons_succ, i64_w, i32_w]
   rfl
  refine one_ (i := 5) (N := some 19) #[true, true, true, true, true, true, true, true, false, true, true, false, false, false, false] rfl rfl (one_of HT_.out (by kernel_rfl)) (by decide) (fun K hK => ?_)
  refine goes_ Try.func86 (by kernel_rfl) rfl #[.int .i64 a0_2] (by rfl) rfl rfl Gv.lm ?_
  with_reducible refine (impl_Put32.calls k a0_2 t396 _ A12.out).mono ?_
  rintro e w22 ⟨v397, rfl, ho0, hb⟩
  refine ⟨_, rfl, ?_⟩
  have HO398 := Gv.a0 (Kd.R_lower (Kd.R_new' ho0 (Kd.R_lt (Gv.kr HO395.out))) (below_size Gv.bw))
  replace HO395 := Gv.a0 (Kd.R_elder' (Gv.kr HO395.out) (Kd.R_base ho0) hb)
  replace BK388 := Gv.b1 BK388 hb
  replace HB := Gv.a0 (below_step Gv.bw hb)
  (try clear hb)
  (try clear hb2)
  (try clear hk)
  (try clear hi)
  (try clear ho0)
  refine hK.out _ _ ⟨Gv.q BK388.out, Gv.q BK388.out, Gv.q BK388.out, Gv.q BK388.out, Gv.q BK388.out⟩ (fun hHeld => ?_)
  clear hK K
  refine norm_ (a' := ?_) ?_ ?_
  rotate_left
  ·show Act.put _ (some 19) _ = _
   simp only [Act.put, List.setIfInBounds_toArray, List.set_cons_zero, List.set_cons_succ, i64_w, i32_w]
   rfl
  refine one_ (i := 8) (N := some 22) #[true, true, true, true, true, true, true, true, true, true, true, false, false, false, false] rfl rfl (one_of HT_.out (by kernel_rfl)) (by decide) (fun K hK => ?_)
  refine goes_ Try.func86 (by kernel_rfl) rfl #[.int .i64 a0_3] (by rfl) rfl rfl Gv.lm ?_
  with_reducible refine (impl_Put32.calls k a0_3 t399 _ A13.out).mono ?_
  rintro e w23 ⟨v400, rfl, ho0, hb⟩
  refine ⟨_, rfl, ?_⟩
  have HO401 := Gv.a0 (Kd.R_lower (Kd.R_new' (Kd.R_new' ho0 (Kd.R_lt (Gv.kr HO395.out))) (Kd.R_lt (Gv.kr HO398.out))) (below_size Gv.bw))
  replace HO395 := Gv.a0 (Kd.R_elder' (Gv.kr HO395.out) (Kd.R_base ho0) hb)
  replace HO398 := Gv.a0 (Kd.R_elder' (Gv.kr HO398.out) (Kd.R_base ho0) hb)
  replace BK388 := Gv.b1 BK388 hb
  replace HB := Gv.a0 (below_step Gv.bw hb)
  (try clear hb)
  (try clear hb2)
  (try clear hk)
  (try clear hi)
  (try clear ho0)
  refine hK.out _ _ ⟨Gv.q BK388.out, Gv.q BK388.out, Gv.q BK388.out, Gv.q BK388.out, Gv.q BK388.out⟩ (fun hHeld => ?_)
  clear hK K
  refine norm_ (a' := ?_) ?_ ?_
  rotate_left
  ·show Act.put _ (some 22) _ = _
   simp only [Act.put, List.setIfInBounds_toArray, List.set_cons_zero, List.set_cons_succ, i64_w, i32_w]
   rfl
  refine one_ (i := 11) (N := some 25) #[true, true, true, true, true, true, true, true, true, true, true, true, false, false, false] rfl rfl (one_of HT_.out (by kernel_rfl)) (by decide) (fun K hK => ?_)
  refine goes_ Try.func86 (by kernel_rfl) rfl #[.int .i64 a0_4] (by rfl) rfl rfl Gv.lm ?_
  with_reducible refine (impl_Put32.calls k a0_4 t402 _ A14.out).mono ?_
  rintro e w24 ⟨v403, rfl, ho0, hb⟩
  refine ⟨_, rfl, ?_⟩
  have HO404 := Gv.a0 (Kd.R_lower (Kd.R_new' (Kd.R_new' (Kd.R_new' ho0 (Kd.R_lt (Gv.kr HO395.out))) (Kd.R_lt (Gv.kr HO398.out))) (Kd.R_lt (Gv.kr HO401.out))) (below_size Gv.bw))
  replace HO395 := Gv.a0 (Kd.R_elder' (Gv.kr HO395.out) (Kd.R_base ho0) hb)
  replace HO398 := Gv.a0 (Kd.R_elder' (Gv.kr HO398.out) (Kd.R_base ho0) hb)
  replace HO401 := Gv.a0 (Kd.R_elder' (Gv.kr HO401.out) (Kd.R_base ho0) hb)
  replace BK388 := Gv.b1 BK388 hb
  replace HB := Gv.a0 (below_step Gv.bw hb)
  (try clear hb)
  (try clear hb2)
  (try clear hk)
  (try clear hi)
  (try clear ho0)
  obtain ⟨Ao25, co25, eo25⟩ := Kd.R_slice HO395.out
  (first | subst eo25 | (injection eo25 with f1_ f2_ f3_; have f4_ := f1_.symm; have f5_ := f3_.symm; clear f1_ f2_ f3_; subst f4_; subst f5_))
  obtain ⟨Ao26, co26, eo26⟩ := Kd.R_slice HO398.out
  (first | subst eo26 | (injection eo26 with f1_ f2_ f3_; have f4_ := f1_.symm; have f5_ := f3_.symm; clear f1_ f2_ f3_; subst f4_; subst f5_))
  obtain ⟨Ao27, co27, eo27⟩ := Kd.R_slice HO401.out
  (first | subst eo27 | (injection eo27 with f1_ f2_ f3_; have f4_ := f1_.symm; have f5_ := f3_.symm; clear f1_ f2_ f3_; subst f4_; subst f5_))
  obtain ⟨Ao28, co28, eo28⟩ := Kd.R_slice HO404.out
  (first | subst eo28 | (injection eo28 with f1_ f2_ f3_; have f4_ := f1_.symm; have f5_ := f3_.symm; clear f1_ f2_ f3_; subst f4_; subst f5_))
  refine hK.out _ _ ⟨Gv.q BK388.out, Gv.q BK388.out, Gv.q BK388.out, Gv.q BK388.out, Gv.q BK388.out⟩ (fun hHeld => ?_)
  clear hK K
  refine norm_ (a' := ?_) ?_ ?_
  rotate_left
  ·show Act.put _ (some 25) _ = _
   simp only [Act.put, List.setIfInBounds_toArray, List.set_cons_zero, List.set_cons_succ, i64_w, i32_w]
   rfl
  refine one_ (i := 12) (N := some 26) #[true, true, true, true, true, true, true, true, true, true, true, true, true, false, false] rfl rfl (one_of HT_.out (by kernel_rfl)) (by decide) (fun K hK => ?_)
  refine Kd.N_lit_step (Kd.slice 5 (Kd.int .u8)) _ 68 ?hg (N' := 26) ?hd (xs := ([t393, t396, t399, t402] : List (List Int))) (inner := [.slice Ao25 t393.length co25, .slice Ao26 t396.length co26, .slice Ao27 t399.length co27, .slice Ao28 t402.length co28]) (ok := (fun k_ => k_ ≠ gb388)) (okp := (fun k_ => k_ ≠ gb388)) ?hr ?hp (fun _ hk => hk) ((show ∀ k_, w24.heap.size ≤ k_ → (fun k_ => k_ ≠ gb388) k_ from fun k_ hk => Kd.freshB (g := gb388) (o := .cells #[.int .i64 a0_0, .int .i64 a0_1, .int .i64 a0_2, .int .i64 a0_3, .int .i64 a0_4] 29 (0, 0)) Gv.bk k_ hk) _ (Nat.le_refl _)) (Below.refl _ _) (Nat.le_refl _) (by simp) ?_; (case hd => rfl); (case hg => rfl); (case hr => first | (go_simp; done) | (go_simp; rfl)); (case hp => exact (Reps.one (show Kd.FK (Kd.slice 5 (Kd.int .u8)) _ _ t393 [.slice Ao25 t393.length co25] from (Kd.FK_slice_mk (Kd.R_reads' (Kd.R_mono (ok' := (fun k_ => k_ ≠ gb388)) (Kd.R_types (HO395.out) BK388.out (by decide)) (fun k_ hk => hk.2))).2.1 (Kd.R_F (Kd.R_mono (ok' := (fun k_ => k_ ≠ gb388)) (Kd.R_types (HO395.out) BK388.out (by decide)) (fun k_ hk => hk.2))))) (Reps.one (show Kd.FK (Kd.slice 5 (Kd.int .u8)) _ _ t396 [.slice Ao26 t396.length co26] from (Kd.FK_slice_mk (Kd.R_reads' (Kd.R_mono (ok' := (fun k_ => k_ ≠ gb388)) (Kd.R_types (HO398.out) BK388.out (by decide)) (fun k_ hk => hk.2))).2.1 (Kd.R_F (Kd.R_mono (ok' := (fun k_ => k_ ≠ gb388)) (Kd.R_types (HO398.out) BK388.out (by decide)) (fun k_ hk => hk.2))))) (Reps.one (show Kd.FK (Kd.slice 5 (Kd.int .u8)) _ _ t399 [.slice Ao27 t399.length co27] from (Kd.FK_slice_mk (Kd.R_reads' (Kd.R_mono (ok' := (fun k_ => k_ ≠ gb388)) (Kd.R_types (HO401.out) BK388.out (by decide)) (fun k_ hk => hk.2))).2.1 (Kd.R_F (Kd.R_mono (ok' := (fun k_ => k_ ≠ gb388)) (Kd.R_types (HO401.out) BK388.out (by decide)) (fun k_ hk => hk.2))))) (Reps.one (show Kd.FK (Kd.slice 5 (Kd.int .u8)) _ _ t402 [.slice Ao28 t402.length co28] from (Kd.FK_slice_mk (Kd.R_reads' (Kd.R_mono (ok' := (fun k_ => k_ ≠ gb388)) (Kd.R_types (HO404.out) BK388.out (by decide)) (fun k_ hk => hk.2))).2.1 (Kd.R_F (Kd.R_mono (ok' := (fun k_ => k_ ≠ gb388)) (Kd.R_types (HO404.out) BK388.out (by decide)) (fun k_ hk => hk.2))))) (Reps.none _ _))))))
  intro v406 w29 ho30 hb hg_ hnew_
  clear hg_ hnew_
  (first | rw [← Ny405.out] at ho30 | (simp only [Int.reduceToNat] at ho30; rw [← Ny405.out] at ho30))
  have HO407 := Gv.a0 (Kd.N_lower ho30 (below_size Gv.bw))
  replace BK388 := Gv.b1 BK388 hb
  replace HB := Gv.a0 (below_step Gv.bw hb)
  clear HO395 HO398 HO401 HO404 hb ho30
  obtain ⟨Ao31, co31, eo31⟩ := Kd.N_slice HO407.out
  (first | subst eo31 | (injection eo31 with f1_ f2_ f3_; have f4_ := f1_.symm; have f5_ := f3_.symm; clear f1_ f2_ f3_; subst f4_; subst f5_))
  refine hK.out _ _ ⟨Gv.q BK388.out, Gv.q BK388.out, Gv.q BK388.out, Gv.q BK388.out, Gv.q BK388.out⟩ (fun hHeld => ?_)
  clear hK K
  refine norm_ (a' := ?_) ?_ ?_
  rotate_left
  ·show Act.put _ (some 26) _ = _
   simp only [Act.put, List.setIfInBounds_toArray, List.set_cons_zero, List.set_cons_succ, i64_w, i32_w]
   rfl
  refine one_ (i := 13) (N := some 27) #[true, true, true, true, true, true, true, true, true, true, true, true, true, true, false] rfl rfl (one_of HT_.out (by kernel_rfl)) (by decide) (fun K hK => ?_)
  refine goes_ Try.func73 (by kernel_rfl) rfl #[.slice Ao31 y405.length co31] (by rfl) rfl rfl Gv.lm ?_
  with_reducible refine (slices_Concat_byte_byte.calls k _ _ y405 t408 _ ?side1 ?side2 A15.out).mono ?_
  (case side1 => repeat (first | exact (Kd.N_reads' HO407.out).2.2 | (with_reducible refine Kd.C_alloc ?_ _) | (with_reducible refine Kd.C_drewN ?_ _) | (with_reducible refine Kd.C_drew ?_)))
  (case side2 => exact (Kd.N_reads' HO407.out).2.1)
  rintro e w32 ⟨v409, rfl, ho0, hb⟩
  refine ⟨_, rfl, ?_⟩
  replace HO407 := Gv.a0 (Kd.N_elder' (by (with_reducible repeat (first | apply Kd.N_alloc | apply Kd.N_drewN | apply Kd.N_drew)); exact HO407.out) (Kd.R_base ho0) hb)
  have HO410 := Gv.a0 (Kd.R_lower ho0 (below_size Gv.bw))
  replace BK388 := Gv.b1 BK388 hb
  replace HB := Gv.a0 (below_step Gv.bw hb)
  (try clear hb)
  (try clear hb2)
  (try clear hk)
  (try clear hi)
  (try clear ho0)
  refine hK.out _ _ ⟨Gv.q BK388.out, Gv.q BK388.out, Gv.q BK388.out, Gv.q BK388.out, Gv.q BK388.out⟩ (fun hHeld => ?_)
  clear hK K
  refine norm_ (a' := ?_) ?_ ?_
  rotate_left
  ·show Act.put _ (some 27) _ = _
   simp only [Act.put, List.setIfInBounds_toArray, List.set_cons_zero, List.set_cons_succ, i64_w, i32_w]
   rfl
  refine Gv.pu 14 (some 2) HT_ ?_
  refine done_ (done_of HT_.out (by kernel_rfl)) ?_
  try go_wp2
  go_ret
  exact ⟨_, Gv.rt, Gv.kr HO410.out, Gv.bw⟩
/-! ### impl_Put16: function 75 -/
def impl_Put16.f (k : Nat) (a0 : Int) : Option (List Int) := (impl_put.f k a0 2).bind fun t411 => (some t411)
set_option maxHeartbeats 8000000 in
set_option maxRecDepth 100000 in
theorem impl_Put16.calls (k : Nat) (a0 : Int) (r : List Int) (w : World) (h : impl_Put16.f k a0 = some r) :
  Calls Try.prog 75 #[.int .i64 a0] w fun e w' => ∃ v0_ : Value, e = .returned (v0_) ∧ Kd.R (Kd.int .u8) 5 w' w.heap.size (fun _ => True) v0_ r ∧ Below w.heap.size w w' := by
 have HB := Gv.a0 (Below.refl w.heap.size w)
 have H : ((impl_put.f k a0 2).bind fun t411 => (some t411)) = some r := h
 clear h
 replace H := Option.bind_eq_some_iff.mp H
 obtain ⟨t411, A20, H⟩ := H
 (try dsimp only at H)
 have A2 := Gv.a0 A20
 clear A20
 obtain rfl := Option.some.inj H
 go_enter Try.func75, Try.ntmps75
 go_wp2_with (first | ((with_reducible refine gate_callee (f := 87) rfl ?_); refine goesL_ (some 4) rfl rfl Try.func87 (by kernel_rfl) rfl #[.int .i64 a0, .int .i64 2] rfl Gv.lm ?_; (with_reducible refine (impl_put.calls k a0 2 t411 _ A2.out).mono ?_); rintro e w3 ⟨v412, rfl, ho0, hb⟩; refine ⟨_, rfl, ?_⟩; have HO413 := Gv.a0 (Kd.R_lower ho0 (below_size Gv.bw)); replace HB := Gv.a0 (below_step Gv.bw hb); clear hb ho0))
 go_ret
 exact ⟨_, Gv.rt, Gv.kr HO413.out, Gv.bw⟩

/-! ### impl_hashOf: function 47 -/
def impl_hashOf.l0 : Nat → Int → List Int → Int → Int → Option (Int)
 | 0, _, _, _, _ => none
 | k + 1, x6, x42, x43, x44 => if x44 < x43 then (if 0 ≤ x44 then (if x44 < (x42.length : Int) then (impl_hashOf.l0 k (Int.tmod (wrap64 ((Go.bits .xor .i64 x6 (wrap64 (rd x42 x44))) * 16777619)) 4294967296) x42 x43 (wrap64 (x44 + 1))) else (none)) else (none)) else (some (Go.bits .xor .i64 x6 (wrap64 (Int.tdiv x6 65536))))
def impl_hashOf.f (k : Nat) (a0 : Int) (a1_0 : Int) (a1_1 : Int) (a1_2 : Int) (a1_3 : Int) (a1_4 : Int) (a1_5 : Int) (a1_6 : Int) (a1_7 : Int) (a1_8 : Int) (a1_9 : Int) (a1_10 : Int) (a1_11 : Int) (a1_12 : Int) (a1_13 : Int) : Option (Int) := (impl_AddrBytes.f k a1_1 a1_2 a1_3 a1_4 a1_5).bind fun t418 => ((impl_AddrBytes.f k a1_6 a1_7 a1_8 a1_9 a1_10).bind fun t421 => ((impl_Put16.f k a1_12).bind fun t427 => ((impl_Put16.f k a1_13).bind fun t430 => ((slices_Concat_byte_byte.f k (([(([(a1_0) % 256, (a1_1) % 256] : List Int)), t418, t421, (([(a1_11) % 256] : List Int)), t427, t430] : List (List Int)))).bind fun t436 => (impl_hashOf.l0 k a0 t436 (t436.length : Int) 0)))))
def impl_hashOf.T1 : Bool × List (List Nat × List Nat) := (true, [([], []), ([0], [0]), ([1], [1]), ([], []), ([3], [3]), ([4], [4]), ([5], [5]), ([6], [6]), ([2, 7], [2, 7]), ([], []), ([9], [9]), ([10], [10]), ([11], [11]), ([], []), ([13], [13]), ([14], [14]), ([15, 12], [15]), ([], []), ([17], [17]), ([18], [18]), ([19], [19]), ([20], [20]), ([], []), ([22], [22]), ([23], [23]), ([24, 16], [24]), ([], []), ([26], [26]), ([27], [27]), ([28, 25], [28]), ([8, 12, 16, 21, 25, 29], [8, 12, 16, 21, 25, 29]), ([30, 29], [30]), ([31, 31, 0, 1, 2, 3, 4, 5, 6, 7, 8, 9, 10, 11, 12, 13, 14, 15, 16, 17, 18, 19, 20, 21, 22, 23, 24, 25, 26, 27, 28, 29, 30, 31], [31])])
def impl_hashOf.B1 : List Nat := [0, 1, 3, 0, 8, 24, 56, 120, 255, 0, 512, 1536, 3584, 0, 8192, 24576, 65024, 0, 131072, 393216, 917504, 1966080, 0, 4194304, 12582912, 29490688, 0, 67108864, 201326592, 532807168, 1073741823, 2147483647, 4294967295]
theorem impl_hashOf.tab1 : rtab .any (opsOf Try.f47 1) = impl_hashOf.T1 := by kernel_rfl
theorem impl_hashOf.bits1 : waitsOk impl_hashOf.T1.2 impl_hashOf.B1 = true := by kernel_rfl
set_option maxHeartbeats 8000000 in
set_option maxRecDepth 100000 in
theorem impl_hashOf.calls (k : Nat) (a0 : Int) (a1_0 : Int) (a1_1 : Int) (a1_2 : Int) (a1_3 : Int) (a1_4 : Int) (a1_5 : Int) (a1_6 : Int) (a1_7 : Int) (a1_8 : Int) (a1_9 : Int) (a1_10 : Int) (a1_11 : Int) (a1_12 : Int) (a1_13 : Int) (r : Int) (w : World) (h : impl_hashOf.f k a0 a1_0 a1_1 a1_2 a1_3 a1_4 a1_5 a1_6 a1_7 a1_8 a1_9 a1_10 a1_11 a1_12 a1_13 = some r) :
  Calls Try.prog 47 #[.int .i64 a0, .agg #[.int .i64 a1_0, .int .i64 a1_1, .int .i64 a1_2, .int .i64 a1_3, .int .i64 a1_4, .int .i64 a1_5, .int .i64 a1_6, .int .i64 a1_7, .int .i64 a1_8, .int .i64 a1_9, .int .i64 a1_10, .int .i64 a1_11, .int .i64 a1_12, .int .i64 a1_13]] w fun e w' => e = .returned (.int .i64 r) ∧ Below w.heap.size w w' := by
 have hu33 := Try.underlying33
 have hu29 := Try.underlying29
 have HB := Gv.a0 (Below.refl w.heap.size w)
 have H : ((impl_AddrBytes.f k a1_1 a1_2 a1_3 a1_4 a1_5).bind fun t418 => ((impl_AddrBytes.f k a1_6 a1_7 a1_8 a1_9 a1_10).bind fun t421 => ((impl_Put16.f k a1_12).bind fun t427 => ((impl_Put16.f k a1_13).bind fun t430 => ((slices_Concat_byte_byte.f k (([(([(a1_0) % 256, (a1_1) % 256] : List Int)), t418, t421, (([(a1_11) % 256] : List Int)), t427, t430] : List (List Int)))).bind fun t436 => (impl_hashOf.l0 k a0 t436 (t436.length : Int) 0)))))) = some r := h
 clear h
 obtain ⟨y415, hy415⟩ : ∃ y_ : List Int, y_ = (([(a1_0) % 256, (a1_1) % 256] : List Int)) := ⟨_, rfl⟩
 replace H : ((impl_AddrBytes.f k a1_1 a1_2 a1_3 a1_4 a1_5).bind fun t418 => ((impl_AddrBytes.f k a1_6 a1_7 a1_8 a1_9 a1_10).bind fun t421 => ((impl_Put16.f k a1_12).bind fun t427 => ((impl_Put16.f k a1_13).bind fun t430 => ((slices_Concat_byte_byte.f k (([y415, t418, t421, (([(a1_11) % 256] : List Int)), t427, t430] : List (List Int)))).bind fun t436 => (impl_hashOf.l0 k a0 t436 (t436.length : Int) 0)))))) = some r := by first | (rw [hy415]; with_reducible exact H) | (have H2_ := (Option.bind_some _ _).symm.trans H; rw [hy415]; with_reducible exact H2_) | (have H2_ := (Option.bind_some _ _).symm.trans H; with_reducible exact H2_) | with_reducible exact H | (rw [hy415]; exact H) | exact H
 have Ny415 := Gv.a0 hy415
 clear hy415
 replace H := Option.bind_eq_some_iff.mp H
 obtain ⟨t418, A30, H⟩ := H
 (try dsimp only at H)
 have A3 := Gv.a0 A30
 clear A30
 replace H := Option.bind_eq_some_iff.mp H
 obtain ⟨t421, A40, H⟩ := H
 (try dsimp only at H)
 have A4 := Gv.a0 A40
 clear A40
 obtain ⟨y424, hy424⟩ : ∃ y_ : List Int, y_ = (([(a1_11) % 256] : List Int)) := ⟨_, rfl⟩
 replace H : ((impl_Put16.f k a1_12).bind fun t427 => ((impl_Put16.f k a1_13).bind fun t430 => ((slices_Concat_byte_byte.f k (([y415, t418, t421, y424, t427, t430] : List (List Int)))).bind fun t436 => (impl_hashOf.l0 k a0 t436 (t436.length : Int) 0)))) = some r := by first | (rw [hy424]; with_reducible exact H) | (have H2_ := (Option.bind_some _ _).symm.trans H; rw [hy424]; with_reducible exact H2_) | (have H2_ := (Option.bind_some _ _).symm.trans H; with_reducible exact H2_) | with_reducible exact H | (rw [hy424]; exact H) | exact H
 have Ny424 := Gv.a0 hy424
 clear hy424
 replace H := Option.bind_eq_some_iff.mp H
 obtain ⟨t427, A50, H⟩ := H
 (try dsimp only at H)
 have A5 := Gv.a0 A50
 clear A50
 replace H := Option.bind_eq_some_iff.mp H
 obtain ⟨t430, A60, H⟩ := H
 (try dsimp only at H)
 have A6 := Gv.a0 A60
 clear A60
 obtain ⟨y433, hy433⟩ : ∃ y_ : List (List Int), y_ = (([y415, t418, t421, y424, t427, t430] : List (List Int))) := ⟨_, rfl⟩
 replace H : ((slices_Concat_byte_byte.f k y433).bind fun t436 => (impl_hashOf.l0 k a0 t436 (t436.length : Int) 0)) = some r := by first | (rw [hy433]; with_reducible exact H) | (have H2_ := (Option.bind_some _ _).symm.trans H; rw [hy433]; with_reducible exact H2_) | (have H2_ := (Option.bind_some _ _).symm.trans H; with_reducible exact H2_) | with_reducible exact H | (rw [hy433]; exact H) | exact H
 have Ny433 := Gv.a0 hy433
 clear hy433
 replace H := Option.bind_eq_some_iff.mp H
 obtain ⟨t436, A70, H⟩ := H
 (try dsimp only at H)
 have A7 := Gv.a0 A70
 clear A70
 have H' := Gv.a0 H
 clear H
 go_enter Try.func47, Try.ntmps47
 try go_wp2_with (first | ((with_reducible refine gate_dst (N := 3) rfl ?_); refine Gv.bev 3 33 #[.int .i64 a1_0, .int .i64 a1_1, .int .i64 a1_2, .int .i64 a1_3, .int .i64 a1_4, .int .i64 a1_5, .int .i64 a1_6, .int .i64 a1_7, .int .i64 a1_8, .int .i64 a1_9, .int .i64 a1_10, .int .i64 a1_11, .int .i64 a1_12, .int .i64 a1_13] ?_; intro gb414 hg w8 hbox hb; have BK414 := Gv.a0 (hbox); have GW414 := Gv.a0 ((Gv.ble hg Gv.bw : w.heap.size ≤ gb414)); have GE414 := Gv.a0 ((Gv.ble hg Gv.bw : w.heap.size ≤ gb414)); replace HB := Gv.a0 (below_step Gv.bw hb); clear hb hbox hg))
 replace BK414 := Gv.a0 (blk_drew BK414.out)
 replace HB := Gv.a0 (below_drew1 HB.out)
 refine start_ (n := 33) (S := fun w' => True) (ds := []) #[false, false, false, false, false, false, false, false, false, false, false, false, false, false, false, false, false, false, false, false, false, false, false, false, false, false, false, false, false, false, false, false, false] (by kernel_rfl) rfl rfl trivial (fun hHeld => ?_); refine with_tabW impl_hashOf.tab1 impl_hashOf.bits1 (fun HT_ HW_ => ?_)
 generalize w8.drew = w9 at BK414 HB hHeld ⊢
 refine Gv.pu 0 (some 9) HT_ ?_
 refine Gv.pu 3 (some 12) HT_ ?_
 refine Gv.pu 4 (some 13) HT_ ?_
 refine Gv.pu 5 (some 14) HT_ ?_
 refine Gv.pu 9 (some 18) HT_ ?_
 refine Gv.pu 10 (some 19) HT_ ?_
 refine Gv.pu 13 (some 22) HT_ ?_
 refine Gv.pu 14 (some 23) HT_ ?_
 refine Gv.pu 17 (some 26) HT_ ?_
 refine Gv.pu 18 (some 27) HT_ ?_
 refine Gv.pu 22 (some 31) HT_ ?_
 refine Gv.pu 23 (some 32) HT_ ?_
 refine Gv.pu 26 (some 35) HT_ ?_
 refine Gv.pu 27 (some 36) HT_ ?_
 refine inv_at [1, 2, 6, 7, 8, 11, 12, 15, 16, 19, 20, 21, 24, 25, 28, 29, 30, 31, 32] (fun a0_ b a w' => ∃ (v416 : Value) (v419 : Value) (v422 : Value) (v425 : Value) (v428 : Value) (v431 : Value) (v434 : Value) (v437 : Value) (m32_ : Value), a = putSel a0_ b [(1, 10, .int .i64 a1_0), (2, 11, .int .u8 ((a1_0) % 256)), (6, 15, .int .i64 a1_1), (7, 16, .int .u8 ((a1_1) % 256)), (8, 17, v416), (11, 20, .agg #[.int .i64 a1_1, .int .i64 a1_2, .int .i64 a1_3, .int .i64 a1_4, .int .i64 a1_5]), (12, 21, v419), (15, 24, .agg #[.int .i64 a1_6, .int .i64 a1_7, .int .i64 a1_8, .int .i64 a1_9, .int .i64 a1_10]), (16, 25, v422), (19, 28, .int .i64 a1_11), (20, 29, .int .u8 ((a1_11) % 256)), (21, 30, v425), (24, 33, .int .i64 a1_12), (25, 34, v428), (28, 37, .int .i64 a1_13), (29, 38, v431), (30, 39, v434), (31, 40, v437), (32, 5, m32_)] ∧ (w'.heap[gb414]? = some (.cells #[.int .i64 a1_0, .int .i64 a1_1, .int .i64 a1_2, .int .i64 a1_3, .int .i64 a1_4, .int .i64 a1_5, .int .i64 a1_6, .int .i64 a1_7, .int .i64 a1_8, .int .i64 a1_9, .int .i64 a1_10, .int .i64 a1_11, .int .i64 a1_12, .int .i64 a1_13] 33 (0, 0))) ∧ (Below w.heap.size w w') ∧ (b 8 = true → b 30 = false → Kd.R (Kd.int .u8) 5 w' w.heap.size (fun _ => True) v416 y415) ∧ (b 12 = true → b 30 = false → Kd.R (Kd.int .u8) 5 w' w.heap.size (fun _ => True) v419 t418) ∧ (b 16 = true → b 30 = false → Kd.R (Kd.int .u8) 5 w' w.heap.size (fun _ => True) v422 t421) ∧ (b 21 = true → b 30 = false → Kd.R (Kd.int .u8) 5 w' w.heap.size (fun _ => True) v425 y424) ∧ (b 25 = true → b 30 = false → Kd.R (Kd.int .u8) 5 w' w.heap.size (fun _ => True) v428 t427) ∧ (b 29 = true → b 30 = false → Kd.R (Kd.int .u8) 5 w' w.heap.size (fun _ => True) v431 t430) ∧ (b 30 = true → Kd.N (Kd.slice 5 (Kd.int .u8)) 68 w' w.heap.size (fun k_ => k_ ≠ gb414) v434 y433) ∧ (b 31 = true → Kd.R (Kd.int .u8) 5 w' w.heap.size (fun _ => True) v437 t436) ∧ (b 32 = true → (m32_ : Value) = v437)) HT_.out HW_.out (by kernel_rfl) (by kernel_rfl) ?_ ?_ ?_
 ·exact ⟨.bool false, .bool false, .bool false, .bool false, .bool false, .bool false, .bool false, .bool false, .bool false, by simp only [putSel, Bool.false_eq_true, if_false], BK414.out, HB.out, fun h_ => absurd h_ (by decide), fun h_ => absurd h_ (by decide), fun h_ => absurd h_ (by decide), fun h_ => absurd h_ (by decide), fun h_ => absurd h_ (by decide), fun h_ => absurd h_ (by decide), fun h_ => absurd h_ (by decide), fun h_ => absurd h_ (by decide), fun h_ => absurd h_ (by decide)⟩
 ·skip
  clear BK414 HB
  refine steps_cons ?_ ?_
  ·rintro b a w' ⟨v416, v419, v422, v425, v428, v431, v434, v437, m32_, ha, Q_BK414, Q_HB, Q_HO417, Q_HO420, Q_HO423, Q_HO426, Q_HO429, Q_HO432, Q_HO435, Q_HO438, Q_X32_⟩ hb_ hon hoff
   refine ⟨_, rfl, fun K hK => ?_⟩
   have e9 : a.tmps[9]? = some (.pointer (some ⟨gb414, 0, none⟩)) := by rw [ha]; exact (putSel_off rfl).trans rfl
   replace ha := Gv.a0 ha
   have BK414 := Gv.a0 Q_BK414
   have HB := Gv.a0 Q_HB
   have hc0_ : w'.cell? ⟨gb414, 0, none⟩ = some (.int .i64 a1_0) := (blk_cell BK414.out 0).trans rfl
   have hc1_ : w'.cell? ⟨gb414, 1, none⟩ = some (.int .i64 a1_1) := (blk_cell BK414.out 1).trans rfl
   have hc2_ : w'.cell? ⟨gb414, 2, none⟩ = some (.int .i64 a1_2) := (blk_cell BK414.out 2).trans rfl
   have hc3_ : w'.cell? ⟨gb414, 3, none⟩ = some (.int .i64 a1_3) := (blk_cell BK414.out 3).trans rfl
   have hc4_ : w'.cell? ⟨gb414, 4, none⟩ = some (.int .i64 a1_4) := (blk_cell BK414.out 4).trans rfl
   have hc5_ : w'.cell? ⟨gb414, 5, none⟩ = some (.int .i64 a1_5) := (blk_cell BK414.out 5).trans rfl
   have hc6_ : w'.cell? ⟨gb414, 6, none⟩ = some (.int .i64 a1_6) := (blk_cell BK414.out 6).trans rfl
   have hc7_ : w'.cell? ⟨gb414, 7, none⟩ = some (.int .i64 a1_7) := (blk_cell BK414.out 7).trans rfl
   have hc8_ : w'.cell? ⟨gb414, 8, none⟩ = some (.int .i64 a1_8) := (blk_cell BK414.out 8).trans rfl
   have hc9_ : w'.cell? ⟨gb414, 9, none⟩ = some (.int .i64 a1_9) := (blk_cell BK414.out 9).trans rfl
   have hc10_ : w'.cell? ⟨gb414, 10, none⟩ = some (.int .i64 a1_10) := (blk_cell BK414.out 10).trans rfl
   have hc11_ : w'.cell? ⟨gb414, 11, none⟩ = some (.int .i64 a1_11) := (blk_cell BK414.out 11).trans rfl
   have hc12_ : w'.cell? ⟨gb414, 12, none⟩ = some (.int .i64 a1_12) := (blk_cell BK414.out 12).trans rfl
   have hc13_ : w'.cell? ⟨gb414, 13, none⟩ = some (.int .i64 a1_13) := (blk_cell BK414.out 13).trans rfl
   refine value_ (w1 := w') (v := .int .i64 a1_0) (by rfl) rfl ?_ ?_
   ·go_simp
    (try simp only [i64_w])
    try rfl
   refine hK.out _ _ ⟨v416, v419, v422, v425, v428, v431, v434, v437, m32_, (by rw [ha.out]; exact putSel_upk 0 hb_ rfl rfl rfl), Q_BK414, Q_HB, fun h0_ _ => absurd ((hoff 8 (by kernel_rfl)).symm.trans h0_) (by decide), Q_HO420, Q_HO423, Q_HO426, Q_HO429, Q_HO432, fun h0_ => absurd ((hoff 30 (by kernel_rfl)).symm.trans h0_) (by decide), fun h0_ => absurd ((hoff 31 (by kernel_rfl)).symm.trans h0_) (by decide), fun h0_ => absurd ((hoff 32 (by kernel_rfl)).symm.trans h0_) (by decide)⟩
  refine steps_cons ?_ ?_
  ·rintro b a w' ⟨v416, v419, v422, v425, v428, v431, v434, v437, m32_, ha, Q_BK414, Q_HB, Q_HO417, Q_HO420, Q_HO423, Q_HO426, Q_HO429, Q_HO432, Q_HO435, Q_HO438, Q_X32_⟩ hb_ hon hoff
   refine ⟨_, rfl, fun K hK => ?_⟩
   have e10 : a.tmps[10]? = some (.int .i64 a1_0) := by rw [ha]; exact putSel_on (e := (1, 10, .int .i64 a1_0)) 0 rfl rfl (hon 1 (by kernel_rfl)) rfl
   replace ha := Gv.a0 ha
   have BK414 := Gv.a0 Q_BK414
   have HB := Gv.a0 Q_HB
   refine value_ (w1 := w') (v := .int .u8 ((a1_0) % 256)) (by rfl) rfl ?_ ?_
   ·go_simp
    (try simp only [i64_w])
    try rfl
   refine hK.out _ _ ⟨v416, v419, v422, v425, v428, v431, v434, v437, m32_, (by rw [ha.out]; exact putSel_upk 1 hb_ rfl rfl rfl), Q_BK414, Q_HB, fun h0_ _ => absurd ((hoff 8 (by kernel_rfl)).symm.trans h0_) (by decide), Q_HO420, Q_HO423, Q_HO426, Q_HO429, Q_HO432, fun h0_ => absurd ((hoff 30 (by kernel_rfl)).symm.trans h0_) (by decide), fun h0_ => absurd ((hoff 31 (by kernel_rfl)).symm.trans h0_) (by decide), fun h0_ => absurd ((hoff 32 (by kernel_rfl)).symm.trans h0_) (by decide)⟩
  refine steps_cons ?_ ?_
  ·rintro b a w' ⟨v416, v419, v422, v425, v428, v431, v434, v437, m32_, ha, Q_BK414, Q_HB, Q_HO417, Q_HO420, Q_HO423, Q_HO426, Q_HO429, Q_HO432, Q_HO435, Q_HO438, Q_X32_⟩ hb_ hon hoff
   refine ⟨_, rfl, fun K hK => ?_⟩
   have e14 : a.tmps[14]? = some (.pointer (some ⟨gb414, 1, none⟩)) := by rw [ha]; exact (putSel_off rfl).trans rfl
   replace ha := Gv.a0 ha
   have BK414 := Gv.a0 Q_BK414
   have HB := Gv.a0 Q_HB
   have hc0_ : w'.cell? ⟨gb414, 0, none⟩ = some (.int .i64 a1_0) := (blk_cell BK414.out 0).trans rfl
   have hc1_ : w'.cell? ⟨gb414, 1, none⟩ = some (.int .i64 a1_1) := (blk_cell BK414.out 1).trans rfl
   have hc2_ : w'.cell? ⟨gb414, 2, none⟩ = some (.int .i64 a1_2) := (blk_cell BK414.out 2).trans rfl
   have hc3_ : w'.cell? ⟨gb414, 3, none⟩ = some (.int .i64 a1_3) := (blk_cell BK414.out 3).trans rfl
   have hc4_ : w'.cell? ⟨gb414, 4, none⟩ = some (.int .i64 a1_4) := (blk_cell BK414.out 4).trans rfl
   have hc5_ : w'.cell? ⟨gb414, 5, none⟩ = some (.int .i64 a1_5) := (blk_cell BK414.out 5).trans rfl
   have hc6_ : w'.cell? ⟨gb414, 6, none⟩ = some (.int .i64 a1_6) := (blk_cell BK414.out 6).trans rfl
   have hc7_ : w'.cell? ⟨gb414, 7, none⟩ = some (.int .i64 a1_7) := (blk_cell BK414.out 7).trans rfl
   have hc8_ : w'.cell? ⟨gb414, 8, none⟩ = some (.int .i64 a1_8) := (blk_cell BK414.out 8).trans rfl
   have hc9_ : w'.cell? ⟨gb414, 9, none⟩ = some (.int .i64 a1_9) := (blk_cell BK414.out 9).trans rfl
   have hc10_ : w'.cell? ⟨gb414, 10, none⟩ = some (.int .i64 a1_10) := (blk_cell BK414.out 10).trans rfl
   have hc11_ : w'.cell? ⟨gb414, 11, none⟩ = some (.int .i64 a1_11) := (blk_cell BK414.out 11).trans rfl
   have hc12_ : w'.cell? ⟨gb414, 12, none⟩ = some (.int .i64 a1_12) := (blk_cell BK414.out 12).trans rfl
   have hc13_ : w'.cell? ⟨gb414, 13, none⟩ = some (.int .i64 a1_13) := (blk_cell BK414.out 13).trans rfl
   refine value_ (w1 := w') (v := .int .i64 a1_1) (by rfl) rfl ?_ ?_
   ·go_simp
    (try simp only [i64_w])
    try rfl
   refine hK.out _ _ ⟨v416, v419, v422, v425, v428, v431, v434, v437, m32_, (by rw [ha.out]; exact putSel_upk 2 hb_ rfl rfl rfl), Q_BK414, Q_HB, fun h0_ _ => absurd ((hoff 8 (by kernel_rfl)).symm.trans h0_) (by decide), Q_HO420, Q_HO423, Q_HO426, Q_HO429, Q_HO432, fun h0_ => absurd ((hoff 30 (by kernel_rfl)).symm.trans h0_) (by decide), fun h0_ => absurd ((hoff 31 (by kernel_rfl)).symm.trans h0_) (by decide), fun h0_ => absurd ((hoff 32 (by kernel_rfl)).symm.trans h0_) (by decide)⟩
  refine steps_cons ?_ ?_
  ·rintro b a w' ⟨v416, v419, v422, v425, v428, v431, v434, v437, m32_, ha, Q_BK414, Q_HB, Q_HO417, Q_HO420, Q_HO423, Q_HO426, Q_HO429, Q_HO432, Q_HO435, Q_HO438, Q_X32_⟩ hb_ hon hoff
   refine ⟨_, rfl, fun K hK => ?_⟩
   have e15 : a.tmps[15]? = some (.int .i64 a1_1) := by rw [ha]; exact putSel_on (e := (6, 15, .int .i64 a1_1)) 2 rfl rfl (hon 6 (by kernel_rfl)) rfl
   replace ha := Gv.a0 ha
   have BK414 := Gv.a0 Q_BK414
   have HB := Gv.a0 Q_HB
   refine value_ (w1 := w') (v := .int .u8 ((a1_1) % 256)) (by rfl) rfl ?_ ?_
   ·go_simp
    (try simp only [i64_w])
    try rfl
   refine hK.out _ _ ⟨v416, v419, v422, v425, v428, v431, v434, v437, m32_, (by rw [ha.out]; exact putSel_upk 3 hb_ rfl rfl rfl), Q_BK414, Q_HB, fun h0_ _ => absurd ((hoff 8 (by kernel_rfl)).symm.trans h0_) (by decide), Q_HO420, Q_HO423, Q_HO426, Q_HO429, Q_HO432, fun h0_ => absurd ((hoff 30 (by kernel_rfl)).symm.trans h0_) (by decide), fun h0_ => absurd ((hoff 31 (by kernel_rfl)).symm.trans h0_) (by decide), fun h0_ => absurd ((hoff 32 (by kernel_rfl)).symm.trans h0_) (by decide)⟩
  refine steps_cons ?_ ?_
  ·rintro b a w' ⟨v416, v419, v422, v425, v428, v431, v434, v437, m32_, ha, Q_BK414, Q_HB, Q_HO417, Q_HO420, Q_HO423, Q_HO426, Q_HO429, Q_HO432, Q_HO435, Q_HO438, Q_X32_⟩ hb_ hon hoff
   refine ⟨_, rfl, fun K hK => ?_⟩
   have e11 : a.tmps[11]? = some (.int .u8 ((a1_0) % 256)) := by rw [ha]; exact putSel_on (e := (2, 11, .int .u8 ((a1_0) % 256))) 1 rfl rfl (hon 2 (by kernel_rfl)) rfl
   have e16 : a.tmps[16]? = some (.int .u8 ((a1_1) % 256)) := by rw [ha]; exact putSel_on (e := (7, 16, .int .u8 ((a1_1) % 256))) 3 rfl rfl (hon 7 (by kernel_rfl)) rfl
   replace ha := Gv.a0 ha
   have BK414 := Gv.a0 Q_BK414
   have HB := Gv.a0 Q_HB
   refine Kd.R_lit_step (Kd.int .u8) _ 5 ?hg (N := 17) ?hd (xs := ([(a1_0) % 256, (a1_1) % 256] : List Int)) (inner := [.int .u8 ((a1_0) % 256), .int .u8 ((a1_1) % 256)]) (ok := fun _ => True) (okp := fun _ => True) ?hr ?hp (fun _ hk => hk) trivial (Below.refl _ _) (Nat.le_refl _) (by simp) ?_; (case hd => rfl); (case hg => rfl); (case hr => first | (go_simp; done) | (go_simp; rfl)); (case hp => exact (Reps.one (show Kd.M (Kd.int .u8) _ _ _ ((a1_0) % 256) [.int .u8 ((a1_0) % 256)] from rfl) (Reps.one (show Kd.M (Kd.int .u8) _ _ _ ((a1_1) % 256) [.int .u8 ((a1_1) % 256)] from rfl) (Reps.none _ _))))
   intro v416 w10 ho11 hb hg_ hnew_
   clear hg_ hnew_
   (first | rw [← Ny415.out] at ho11 | (simp only [Int.reduceToNat] at ho11; rw [← Ny415.out] at ho11))
   have n0_ := Gv.a0 (Kd.R_lower ho11 (below_size Gv.bw))
   have n1_ := Gv.b1 BK414 hb
   have n2_ := Gv.a0 (below_step Gv.bw hb)
   have z_HO420 := fun (h0_ : b 12 = true) (h1_ : b 30 = false) => (show Kd.R (Kd.int .u8) 5 w10 w.heap.size (fun _ => True) v419 t418 from by first | exact (Kd.R_elder' (by (with_reducible repeat (first | apply Kd.R_alloc | apply Kd.R_drewN | apply Kd.R_drew)); exact (Q_HO420 h0_ h1_)) (Kd.R_base ho11) hb) | exact Kd.R_mono (Kd.R_elder' (by (with_reducible repeat (first | apply Kd.R_alloc | apply Kd.R_drewN | apply Kd.R_drew)); exact (Q_HO420 h0_ h1_)) (Kd.R_base ho11) hb) (fun _ h_ => by first | trivial | exact h_ | exact h_.1))
   have z_HO423 := fun (h0_ : b 16 = true) (h1_ : b 30 = false) => (show Kd.R (Kd.int .u8) 5 w10 w.heap.size (fun _ => True) v422 t421 from by first | exact (Kd.R_elder' (by (with_reducible repeat (first | apply Kd.R_alloc | apply Kd.R_drewN | apply Kd.R_drew)); exact (Q_HO423 h0_ h1_)) (Kd.R_base ho11) hb) | exact Kd.R_mono (Kd.R_elder' (by (with_reducible repeat (first | apply Kd.R_alloc | apply Kd.R_drewN | apply Kd.R_drew)); exact (Q_HO423 h0_ h1_)) (Kd.R_base ho11) hb) (fun _ h_ => by first | trivial | exact h_ | exact h_.1))
   have z_HO426 := fun (h0_ : b 21 = true) (h1_ : b 30 = false) => (show Kd.R (Kd.int .u8) 5 w10 w.heap.size (fun _ => True) v425 y424 from by first | exact (Kd.R_elder' (by (with_reducible repeat (first | apply Kd.R_alloc | apply Kd.R_drewN | apply Kd.R_drew)); exact (Q_HO426 h0_ h1_)) (Kd.R_base ho11) hb) | exact Kd.R_mono (Kd.R_elder' (by (with_reducible repeat (first | apply Kd.R_alloc | apply Kd.R_drewN | apply Kd.R_drew)); exact (Q_HO426 h0_ h1_)) (Kd.R_base ho11) hb) (fun _ h_ => by first | trivial | exact h_ | exact h_.1))
   have z_HO429 := fun (h0_ : b 25 = true) (h1_ : b 30 = false) => (show Kd.R (Kd.int .u8) 5 w10 w.heap.size (fun _ => True) v428 t427 from by first | exact (Kd.R_elder' (by (with_reducible repeat (first | apply Kd.R_alloc | apply Kd.R_drewN | apply Kd.R_drew)); exact (Q_HO429 h0_ h1_)) (Kd.R_base ho11) hb) | exact Kd.R_mono (Kd.R_elder' (by (with_reducible repeat (first | apply Kd.R_alloc | apply Kd.R_drewN | apply Kd.R_drew)); exact (Q_HO429 h0_ h1_)) (Kd.R_base ho11) hb) (fun _ h_ => by first | trivial | exact h_ | exact h_.1))
   have z_HO432 := fun (h0_ : b 29 = true) (h1_ : b 30 = false) => (show Kd.R (Kd.int .u8) 5 w10 w.heap.size (fun _ => True) v431 t430 from by first | exact (Kd.R_elder' (by (with_reducible repeat (first | apply Kd.R_alloc | apply Kd.R_drewN | apply Kd.R_drew)); exact (Q_HO432 h0_ h1_)) (Kd.R_base ho11) hb) | exact Kd.R_mono (Kd.R_elder' (by (with_reducible repeat (first | apply Kd.R_alloc | apply Kd.R_drewN | apply Kd.R_drew)); exact (Q_HO432 h0_ h1_)) (Kd.R_base ho11) hb) (fun _ h_ => by first | trivial | exact h_ | exact h_.1))
   clear BK414 HB
   have HO417 := n0_
   have BK414 := n1_
   have HB := n2_
   clear n0_ n1_ n2_ hb ho11
   refine hK.out _ _ ⟨v416, v419, v422, v425, v428, v431, v434, v437, m32_, (by rw [ha.out]; exact putSel_upk 4 hb_ rfl rfl rfl), Gv.bk, Gv.bw, fun _ _ => (by (with_reducible repeat (first | apply Kd.R_alloc | apply Kd.R_drewN | apply Kd.R_drew)); first | exact HO417.out | exact Kd.R_mono HO417.out (fun _ hk => by first | exact hk.2 | trivial | exact ⟨hk.1.2, hk.2⟩ | exact ⟨trivial, hk.2⟩ | exact hk.1.2 | exact hk | exact ⟨trivial, hk⟩ | exact hk.1 | (simp only [true_and, and_true] at hk ⊢; first | exact hk | exact hk.2 | exact hk.1 | exact ⟨hk.2, hk.1⟩ | omega | (constructor <;> first | exact hk.1 | exact hk.2 | exact hk.1.1 | exact hk.1.2 | exact hk.2.1 | exact hk.2.2)))), z_HO420, z_HO423, z_HO426, z_HO429, z_HO432, fun h0_ => absurd ((hoff 30 (by kernel_rfl)).symm.trans h0_) (by decide), fun h0_ => absurd ((hoff 31 (by kernel_rfl)).symm.trans h0_) (by decide), fun h0_ => absurd ((hoff 32 (by kernel_rfl)).symm.trans h0_) (by decide)⟩
  refine steps_cons ?_ ?_
  ·rintro b a w' ⟨v416, v419, v422, v425, v428, v431, v434, v437, m32_, ha, Q_BK414, Q_HB, Q_HO417, Q_HO420, Q_HO423, Q_HO426, Q_HO429, Q_HO432, Q_HO435, Q_HO438, Q_X32_⟩ hb_ hon hoff
   refine ⟨_, rfl, fun K hK => ?_⟩
   have e19 : a.tmps[19]? = some (.pointer (some ⟨gb414, 1, none⟩)) := by rw [ha]; exact (putSel_off rfl).trans rfl
   replace ha := Gv.a0 ha
   have BK414 := Gv.a0 Q_BK414
   have HB := Gv.a0 Q_HB
   have hc0_ : w'.cell? ⟨gb414, 0, none⟩ = some (.int .i64 a1_0) := (blk_cell BK414.out 0).trans rfl
   have hc1_ : w'.cell? ⟨gb414, 1, none⟩ = some (.int .i64 a1_1) := (blk_cell BK414.out 1).trans rfl
   have hc2_ : w'.cell? ⟨gb414, 2, none⟩ = some (.int .i64 a1_2) := (blk_cell BK414.out 2).trans rfl
   have hc3_ : w'.cell? ⟨gb414, 3, none⟩ = some (.int .i64 a1_3) := (blk_cell BK414.out 3).trans rfl
   have hc4_ : w'.cell? ⟨gb414, 4, none⟩ = some (.int .i64 a1_4) := (blk_cell BK414.out 4).trans rfl
   have hc5_ : w'.cell? ⟨gb414, 5, none⟩ = some (.int .i64 a1_5) := (blk_cell BK414.out 5).trans rfl
   have hc6_ : w'.cell? ⟨gb414, 6, none⟩ = some (.int .i64 a1_6) := (blk_cell BK414.out 6).trans rfl
   have hc7_ : w'.cell? ⟨gb414, 7, none⟩ = some (.int .i64 a1_7) := (blk_cell BK414.out 7).trans rfl
   have hc8_ : w'.cell? ⟨gb414, 8, none⟩ = some (.int .i64 a1_8) := (blk_cell BK414.out 8).trans rfl
   have hc9_ : w'.cell? ⟨gb414, 9, none⟩ = some (.int .i64 a1_9) := (blk_cell BK414.out 9).trans rfl
   have hc10_ : w'.cell? ⟨gb414, 10, none⟩ = some (.int .i64 a1_10) := (blk_cell BK414.out 10).trans rfl
   have hc11_ : w'.cell? ⟨gb414, 11, none⟩ = some (.int .i64 a1_11) := (blk_cell BK414.out 11).trans rfl
   have hc12_ : w'.cell? ⟨gb414, 12, none⟩ = some (.int .i64 a1_12) := (blk_cell BK414.out 12).trans rfl
   have hc13_ : w'.cell? ⟨gb414, 13, none⟩ = some (.int .i64 a1_13) := (blk_cell BK414.out 13).trans rfl
   refine value_ (w1 := w') (v := .agg #[.int .i64 a1_1, .int .i64 a1_2, .int .i64 a1_3, .int .i64 a1_4, .int .i64 a1_5]) (by rfl) rfl ?_ ?_
   ·go_simp
    (try simp only [i64_w])
    try rfl
   refine hK.out _ _ ⟨v416, v419, v422, v425, v428, v431, v434, v437, m32_, (by rw [ha.out]; exact putSel_upk 5 hb_ rfl rfl rfl), Q_BK414, Q_HB, Q_HO417, fun h0_ _ => absurd ((hoff 12 (by kernel_rfl)).symm.trans h0_) (by decide), fun h0_ _ => absurd ((hoff 16 (by kernel_rfl)).symm.trans h0_) (by decide), Q_HO426, fun h0_ _ => absurd ((hoff 25 (by kernel_rfl)).symm.trans h0_) (by decide), fun h0_ _ => absurd ((hoff 29 (by kernel_rfl)).symm.trans h0_) (by decide), fun h0_ => absurd ((hoff 30 (by kernel_rfl)).symm.trans h0_) (by decide), fun h0_ => absurd ((hoff 31 (by kernel_rfl)).symm.trans h0_) (by decide), fun h0_ => absurd ((hoff 32 (by kernel_rfl)).symm.trans h0_) (by decide)⟩
  refine steps_cons ?_ ?_
  ·rintro b a w' ⟨v416, v419, v422, v425, v428, v431, v434, v437, m32_, ha, Q_BK414, Q_HB, Q_HO417, Q_HO420, Q_HO423, Q_HO426, Q_HO429, Q_HO432, Q_HO435, Q_HO438, Q_X32_⟩ hb_ hon hoff
   refine ⟨_, rfl, fun K hK => ?_⟩
   have e20 : a.tmps[20]? = some (.agg #[.int .i64 a1_1, .int .i64 a1_2, .int .i64 a1_3, .int .i64 a1_4, .int .i64 a1_5]) := by rw [ha]; exact putSel_on (e := (11, 20, .agg #[.int .i64 a1_1, .int .i64 a1_2, .int .i64 a1_3, .int .i64 a1_4, .int .i64 a1_5])) 5 rfl rfl (hon 11 (by kernel_rfl)) rfl
   replace ha := Gv.a0 ha
   have BK414 := Gv.a0 Q_BK414
   have HB := Gv.a0 Q_HB
   refine goes_ Try.func74 (by kernel_rfl) rfl #[.agg #[.int .i64 a1_1, .int .i64 a1_2, .int .i64 a1_3, .int .i64 a1_4, .int .i64 a1_5]] (by rfl) rfl rfl (by first | (simp only [List.map_toArray, List.map_cons, List.map_nil, Act.eval, Array.getD_eq_getD_getElem?, Option.getD_some, e20]; done) | (simp only [List.map_toArray, List.map_cons, List.map_nil, Act.eval, Array.getD_eq_getD_getElem?, Option.getD_some, e20]; rfl)) ?_
   with_reducible refine (impl_AddrBytes.calls k a1_1 a1_2 a1_3 a1_4 a1_5 t418 _ A3.out).mono ?_
   rintro e w10 ⟨v419, rfl, ho0, hb⟩
   refine ⟨_, rfl, ?_⟩
   have n0_ := Gv.a0 (Kd.R_lower ho0 (below_size Gv.bw))
   have n1_ := Gv.b1 BK414 hb
   have n2_ := Gv.a0 (below_step Gv.bw hb)
   have z_HO417 := fun (h0_ : b 8 = true) (h1_ : b 30 = false) => (show Kd.R (Kd.int .u8) 5 w10 w.heap.size (fun _ => True) v416 y415 from by first | exact (Kd.R_elder' (by (with_reducible repeat (first | apply Kd.R_alloc | apply Kd.R_drewN | apply Kd.R_drew)); exact (Q_HO417 h0_ h1_)) (Kd.R_base ho0) hb) | exact Kd.R_mono (Kd.R_elder' (by (with_reducible repeat (first | apply Kd.R_alloc | apply Kd.R_drewN | apply Kd.R_drew)); exact (Q_HO417 h0_ h1_)) (Kd.R_base ho0) hb) (fun _ h_ => by first | trivial | exact h_ | exact h_.1))
   have z_HO426 := fun (h0_ : b 21 = true) (h1_ : b 30 = false) => (show Kd.R (Kd.int .u8) 5 w10 w.heap.size (fun _ => True) v425 y424 from by first | exact (Kd.R_elder' (by (with_reducible repeat (first | apply Kd.R_alloc | apply Kd.R_drewN | apply Kd.R_drew)); exact (Q_HO426 h0_ h1_)) (Kd.R_base ho0) hb) | exact Kd.R_mono (Kd.R_elder' (by (with_reducible repeat (first | apply Kd.R_alloc | apply Kd.R_drewN | apply Kd.R_drew)); exact (Q_HO426 h0_ h1_)) (Kd.R_base ho0) hb) (fun _ h_ => by first | trivial | exact h_ | exact h_.1))
   clear BK414 HB
   have HO420 := n0_
   have BK414 := n1_
   have HB := n2_
   clear n0_ n1_ n2_
   (try clear hb)
   (try clear hb2)
   (try clear hk)
   (try clear hi)
   (try clear ho0)
   refine hK.out _ _ ⟨v416, v419, v422, v425, v428, v431, v434, v437, m32_, (by rw [ha.out]; exact putSel_upk 6 hb_ rfl rfl rfl), Gv.bk, Gv.bw, z_HO417, fun _ _ => (by (with_reducible repeat (first | apply Kd.R_alloc | apply Kd.R_drewN | apply Kd.R_drew)); first | exact HO420.out | exact Kd.R_mono HO420.out (fun _ hk => by first | exact hk.2 | trivial | exact ⟨hk.1.2, hk.2⟩ | exact ⟨trivial, hk.2⟩ | exact hk.1.2 | exact hk | exact ⟨trivial, hk⟩ | exact hk.1 | (simp only [true_and, and_true] at hk ⊢; first | exact hk | exact hk.2 | exact hk.1 | exact ⟨hk.2, hk.1⟩ | omega | (constructor <;> first | exact hk.1 | exact hk.2 | exact hk.1.1 | exact hk.1.2 | exact hk.2.1 | exact hk.2.2)))), fun h0_ _ => absurd ((hoff 16 (by kernel_rfl)).symm.trans h0_) (by decide), z_HO426, fun h0_ _ => absurd ((hoff 25 (by kernel_rfl)).symm.trans h0_) (by decide), fun h0_ _ => absurd ((hoff 29 (by kernel_rfl)).symm.trans h0_) (by decide), fun h0_ => absurd ((hoff 30 (by kernel_rfl)).symm.trans h0_) (by decide), fun h0_ => absurd ((hoff 31 (by kernel_rfl)).symm.trans h0_) (by decide), fun h0_ => absurd ((hoff 32 (by kernel_rfl)).symm.trans h0_) (by decide)⟩
  refine steps_cons ?_ ?_
  ·rintro b a w' ⟨v416, v419, v422, v425, v428, v431, v434, v437, m32_, ha, Q_BK414, Q_HB, Q_HO417, Q_HO420, Q_HO423, Q_HO426, Q_HO429, Q_HO432, Q_HO435, Q_HO438, Q_X32_⟩ hb_ hon hoff
   refine ⟨_, rfl, fun K hK => ?_⟩
   have e23 : a.tmps[23]? = some (.pointer (some ⟨gb414, 6, none⟩)) := by rw [ha]; exact (putSel_off rfl).trans rfl
   replace ha := Gv.a0 ha
   have BK414 := Gv.a0 Q_BK414
   have HB := Gv.a0 Q_HB
   have hc0_ : w'.cell? ⟨gb414, 0, none⟩ = some (.int .i64 a1_0) := (blk_cell BK414.out 0).trans rfl
   have hc1_ : w'.cell? ⟨gb414, 1, none⟩ = some (.int .i64 a1_1) := (blk_cell BK414.out 1).trans rfl
   have hc2_ : w'.cell? ⟨gb414, 2, none⟩ = some (.int .i64 a1_2) := (blk_cell BK414.out 2).trans rfl
   have hc3_ : w'.cell? ⟨gb414, 3, none⟩ = some (.int .i64 a1_3) := (blk_cell BK414.out 3).trans rfl
   have hc4_ : w'.cell? ⟨gb414, 4, none⟩ = some (.int .i64 a1_4) := (blk_cell BK414.out 4).trans rfl
   have hc5_ : w'.cell? ⟨gb414, 5, none⟩ = some (.int .i64 a1_5) := (blk_cell BK414.out 5).trans rfl
   have hc6_ : w'.cell? ⟨gb414, 6, none⟩ = some (.int .i64 a1_6) := (blk_cell BK414.out 6).trans rfl
   have hc7_ : w'.cell? ⟨gb414, 7, none⟩ = some (.int .i64 a1_7) := (blk_cell BK414.out 7).trans rfl
   have hc8_ : w'.cell? ⟨gb414, 8, none⟩ = some (.int .i64 a1_8) := (blk_cell BK414.out 8).trans rfl
   have hc9_ : w'.cell? ⟨gb414, 9, none⟩ = some (.int .i64 a1_9) := (blk_cell BK414.out 9).trans rfl
   have hc10_ : w'.cell? ⟨gb414, 10, none⟩ = some (.int .i64 a1_10) := (blk_cell BK414.out 10).trans rfl
   have hc11_ : w'.cell? ⟨gb414, 11, none⟩ = some (.int .i64 a1_11) := (blk_cell BK414.out 11).trans rfl
   have hc12_ : w'.cell? ⟨gb414, 12, none⟩ = some (.int .i64 a1_12) := (blk_cell BK414.out 12).trans rfl
   have hc13_ : w'.cell? ⟨gb414, 13, none⟩ = some (.int .i64 a1_13) := (blk_cell BK414.out 13).trans rfl
   refine value_ (w1 := w') (v := .agg #[.int .i64 a1_6, .int .i64 a1_7, .int .i64 a1_8, .int .i64 a1_9, .int .i64 a1_10]) (by rfl) rfl ?_ ?_
   ·go_simp
    (try simp only [i64_w])
    try rfl
   refine hK.out _ _ ⟨v416, v419, v422, v425, v428, v431, v434, v437, m32_, (by rw [ha.out]; exact putSel_upk 7 hb_ rfl rfl rfl), Q_BK414, Q_HB, Q_HO417, Q_HO420, fun h0_ _ => absurd ((hoff 16 (by kernel_rfl)).symm.trans h0_) (by decide), Q_HO426, fun h0_ _ => absurd ((hoff 25 (by kernel_rfl)).symm.trans h0_) (by decide), fun h0_ _ => absurd ((hoff 29 (by kernel_rfl)).symm.trans h0_) (by decide), fun h0_ => absurd ((hoff 30 (by kernel_rfl)).symm.trans h0_) (by decide), fun h0_ => absurd ((hoff 31 (by kernel_rfl)).symm.trans h0_) (by decide), fun h0_ => absurd ((hoff 32 (by kernel_rfl)).symm.trans h0_) (by decide)⟩
  refine steps_cons ?_ ?_
  ·rintro b a w' ⟨v416, v419, v422, v425, v428, v431, v434, v437, m32_, ha, Q_BK414, Q_HB, Q_HO417, Q_HO420, Q_HO423, Q_HO426, Q_HO429, Q_HO432, Q_HO435, Q_HO438, Q_X32_⟩ hb_ hon hoff
   refine ⟨_, rfl, fun K hK => ?_⟩
   have e24 : a.tmps[24]? = some (.agg #[.int .i64 a1_6, .int .i64 a1_7, .int .i64 a1_8, .int .i64 a1_9, .int .i64 a1_10]) := by rw [ha]; exact putSel_on (e := (15, 24, .agg #[.int .i64 a1_6, .int .i64 a1_7, .int .i64 a1_8, .int .i64 a1_9, .int .i64 a1_10])) 7 rfl rfl (hon 15 (by kernel_rfl)) rfl
   replace ha := Gv.a0 ha
   have BK414 := Gv.a0 Q_BK414
   have HB := Gv.a0 Q_HB
   have HO420 := Gv.a0 (Q_HO420 (hon 12 (by kernel_rfl)) (hoff 30 (by kernel_rfl)))
   refine goes_ Try.func74 (by kernel_rfl) rfl #[.agg #[.int .i64 a1_6, .int .i64 a1_7, .int .i64 a1_8, .int .i64 a1_9, .int .i64 a1_10]] (by rfl) rfl rfl (by first | (simp only [List.map_toArray, List.map_cons, List.map_nil, Act.eval, Array.getD_eq_getD_getElem?, Option.getD_some, e24]; done) | (simp only [List.map_toArray, List.map_cons, List.map_nil, Act.eval, Array.getD_eq_getD_getElem?, Option.getD_some, e24]; rfl)) ?_
   with_reducible refine (impl_AddrBytes.calls k a1_6 a1_7 a1_8 a1_9 a1_10 t421 _ A4.out).mono ?_
   rintro e w12 ⟨v422, rfl, ho0, hb⟩
   refine ⟨_, rfl, ?_⟩
   have n0_ := Gv.a0 (Kd.R_elder' (Gv.kr HO420.out) (Kd.R_base ho0) hb)
   have n1_ := Gv.a0 (Kd.R_lower (Kd.R_new' ho0 (Kd.R_lt (Gv.kr HO420.out))) (below_size Gv.bw))
   have n2_ := Gv.b1 BK414 hb
   have n3_ := Gv.a0 (below_step Gv.bw hb)
   have z_HO417 := fun (h0_ : b 8 = true) (h1_ : b 30 = false) => (show Kd.R (Kd.int .u8) 5 w12 w.heap.size (fun _ => True) v416 y415 from by first | exact (Kd.R_elder' (by (with_reducible repeat (first | apply Kd.R_alloc | apply Kd.R_drewN | apply Kd.R_drew)); exact (Q_HO417 h0_ h1_)) (Kd.R_base ho0) hb) | exact Kd.R_mono (Kd.R_elder' (by (with_reducible repeat (first | apply Kd.R_alloc | apply Kd.R_drewN | apply Kd.R_drew)); exact (Q_HO417 h0_ h1_)) (Kd.R_base ho0) hb) (fun _ h_ => by first | trivial | exact h_ | exact h_.1))
   have z_HO426 := fun (h0_ : b 21 = true) (h1_ : b 30 = false) => (show Kd.R (Kd.int .u8) 5 w12 w.heap.size (fun _ => True) v425 y424 from by first | exact (Kd.R_elder' (by (with_reducible repeat (first | apply Kd.R_alloc | apply Kd.R_drewN | apply Kd.R_drew)); exact (Q_HO426 h0_ h1_)) (Kd.R_base ho0) hb) | exact Kd.R_mono (Kd.R_elder' (by (with_reducible repeat (first | apply Kd.R_alloc | apply Kd.R_drewN | apply Kd.R_drew)); exact (Q_HO426 h0_ h1_)) (Kd.R_base ho0) hb) (fun _ h_ => by first | trivial | exact h_ | exact h_.1))
   clear HO420 BK414 HB
   have HO420 := n0_
   have HO423 := n1_
   have BK414 := n2_
   have HB := n3_
   clear n0_ n1_ n2_ n3_
   (try clear hb)
   (try clear hb2)
   (try clear hk)
   (try clear hi)
   (try clear ho0)
   refine hK.out _ _ ⟨v416, v419, v422, v425, v428, v431, v434, v437, m32_, (by rw [ha.out]; exact putSel_upk 8 hb_ rfl rfl rfl), Gv.bk, Gv.bw, z_HO417, fun _ _ => (by (with_reducible repeat (first | apply Kd.R_alloc | apply Kd.R_drewN | apply Kd.R_drew)); exact Kd.R_mono HO420.out (fun _ hk => by first | exact hk.2 | trivial | exact ⟨hk.1.2, hk.2⟩ | exact ⟨trivial, hk.2⟩ | exact hk.1.2 | exact hk | exact ⟨trivial, hk⟩ | exact hk.1 | (simp only [true_and, and_true] at hk ⊢; first | exact hk | exact hk.2 | exact hk.1 | exact ⟨hk.2, hk.1⟩ | omega | (constructor <;> first | exact hk.1 | exact hk.2 | exact hk.1.1 | exact hk.1.2 | exact hk.2.1 | exact hk.2.2)))), fun _ _ => (by (with_reducible repeat (first | apply Kd.R_alloc | apply Kd.R_drewN | apply Kd.R_drew)); exact Kd.R_mono HO423.out (fun _ hk => by first | exact hk.2 | trivial | exact ⟨hk.1.2, hk.2⟩ | exact ⟨trivial, hk.2⟩ | exact hk.1.2 | exact hk | exact ⟨trivial, hk⟩ | exact hk.1 | (simp only [true_and, and_true] at hk ⊢; first | exact hk | exact hk.2 | exact hk.1 | exact ⟨hk.2, hk.1⟩ | omega | (constructor <;> first | exact hk.1 | exact hk.2 | exact hk.1.1 | exact hk.1.2 | exact hk.2.1 | exact hk.2.2)))), z_HO426, fun h0_ _ => absurd ((hoff 25 (by kernel_rfl)).symm.trans h0_) (by decide), fun h0_ _ => absurd ((hoff 29 (by kernel_rfl)).symm.trans h0_) (by decide), fun h0_ => absurd ((hoff 30 (by kernel_rfl)).symm.trans h0_) (by decide), fun h0_ => absurd ((hoff 31 (by kernel_rfl)).symm.trans h0_) (by decide), fun h0_ => absurd ((hoff 32 (by kernel_rfl)).symm.trans h0_) (by decide)⟩
  refine steps_cons ?_ ?_
  ·rintro b a w' ⟨v416, v419, v422, v425, v428, v431, v434, v437, m32_, ha, Q_BK414, Q_HB, Q_HO417, Q_HO420, Q_HO423, Q_HO426, Q_HO429, Q_HO432, Q_HO435, Q_HO438, Q_X32_⟩ hb_ hon hoff
   refine ⟨_, rfl, fun K hK => ?_⟩
   have e27 : a.tmps[27]? = some (.pointer (some ⟨gb414, 11, none⟩)) := by rw [ha]; exact (putSel_off rfl).trans rfl
   replace ha := Gv.a0 ha
   have BK414 := Gv.a0 Q_BK414
   have HB := Gv.a0 Q_HB
   have hc0_ : w'.cell? ⟨gb414, 0, none⟩ = some (.int .i64 a1_0) := (blk_cell BK414.out 0).trans rfl
   have hc1_ : w'.cell? ⟨gb414, 1, none⟩ = some (.int .i64 a1_1) := (blk_cell BK414.out 1).trans rfl
   have hc2_ : w'.cell? ⟨gb414, 2, none⟩ = some (.int .i64 a1_2) := (blk_cell BK414.out 2).trans rfl
   have hc3_ : w'.cell? ⟨gb414, 3, none⟩ = some (.int .i64 a1_3) := (blk_cell BK414.out 3).trans rfl
   have hc4_ : w'.cell? ⟨gb414, 4, none⟩ = some (.int .i64 a1_4) := (blk_cell BK414.out 4).trans rfl
   have hc5_ : w'.cell? ⟨gb414, 5, none⟩ = some (.int .i64 a1_5) := (blk_cell BK414.out 5).trans rfl
   have hc6_ : w'.cell? ⟨gb414, 6, none⟩ = some (.int .i64 a1_6) := (blk_cell BK414.out 6).trans rfl
   have hc7_ : w'.cell? ⟨gb414, 7, none⟩ = some (.int .i64 a1_7) := (blk_cell BK414.out 7).trans rfl
   have hc8_ : w'.cell? ⟨gb414, 8, none⟩ = some (.int .i64 a1_8) := (blk_cell BK414.out 8).trans rfl
   have hc9_ : w'.cell? ⟨gb414, 9, none⟩ = some (.int .i64 a1_9) := (blk_cell BK414.out 9).trans rfl
   have hc10_ : w'.cell? ⟨gb414, 10, none⟩ = some (.int .i64 a1_10) := (blk_cell BK414.out 10).trans rfl
   have hc11_ : w'.cell? ⟨gb414, 11, none⟩ = some (.int .i64 a1_11) := (blk_cell BK414.out 11).trans rfl
   have hc12_ : w'.cell? ⟨gb414, 12, none⟩ = some (.int .i64 a1_12) := (blk_cell BK414.out 12).trans rfl
   have hc13_ : w'.cell? ⟨gb414, 13, none⟩ = some (.int .i64 a1_13) := (blk_cell BK414.out 13).trans rfl
   refine value_ (w1 := w') (v := .int .i64 a1_11) (by rfl) rfl ?_ ?_
   ·go_simp
    (try simp only [i64_w])
    try rfl
   refine hK.out _ _ ⟨v416, v419, v422, v425, v428, v431, v434, v437, m32_, (by rw [ha.out]; exact putSel_upk 9 hb_ rfl rfl rfl), Q_BK414, Q_HB, Q_HO417, Q_HO420, Q_HO423, fun h0_ _ => absurd ((hoff 21 (by kernel_rfl)).symm.trans h0_) (by decide), Q_HO429, Q_HO432, fun h0_ => absurd ((hoff 30 (by kernel_rfl)).symm.trans h0_) (by decide), fun h0_ => absurd ((hoff 31 (by kernel_rfl)).symm.trans h0_) (by decide), fun h0_ => absurd ((hoff 32 (by kernel_rfl)).symm.trans h0_) (by decide)⟩
  refine steps_cons ?_ ?_
  ·rintro b a w' ⟨v416, v419, v422, v425, v428, v431, v434, v437, m32_, ha, Q_BK414, Q_HB, Q_HO417, Q_HO420, Q_HO423, Q_HO426, Q_HO429, Q_HO432, Q_HO435, Q_HO438, Q_X32_⟩ hb_ hon hoff
   refine ⟨_, rfl, fun K hK => ?_⟩
   have e28 : a.tmps[28]? = some (.int .i64 a1_11) := by rw [ha]; exact putSel_on (e := (19, 28, .int .i64 a1_11)) 9 rfl rfl (hon 19 (by kernel_rfl)) rfl
   replace ha := Gv.a0 ha
   have BK414 := Gv.a0 Q_BK414
   have HB := Gv.a0 Q_HB
   refine value_ (w1 := w') (v := .int .u8 ((a1_11) % 256)) (by rfl) rfl ?_ ?_
   ·go_simp
    (try simp only [i64_w])
    try rfl
   refine hK.out _ _ ⟨v416, v419, v422, v425, v428, v431, v434, v437, m32_, (by rw [ha.out]; exact putSel_upk 10 hb_ rfl rfl rfl), Q_BK414, Q_HB, Q_HO417, Q_HO420, Q_HO423, fun h0_ _ => absurd ((hoff 21 (by kernel_rfl)).symm.trans h0_) (by decide), Q_HO429, Q_HO432, fun h0_ => absurd ((hoff 30 (by kernel_rfl)).symm.trans h0_) (by decide), fun h0_ => absurd ((hoff 31 (by kernel_rfl)).symm.trans h0_) (by decide), fun h0_ => absurd ((hoff 32 (by kernel_rfl)).symm.trans h0_) (by decide)⟩
  refine steps_cons ?_ ?_
  ·rintro b a w' ⟨v416, v419, v422, v425, v428, v431, v434, v437, m32_, ha, Q_BK414, Q_HB, Q_HO417, Q_HO420, Q_HO423, Q_HO426, Q_HO429, Q_HO432, Q_HO435, Q_HO438, Q_X32_⟩ hb_ hon hoff
   refine ⟨_, rfl, fun K hK => ?_⟩
   have e29 : a.tmps[29]? = some (.int .u8 ((a1_11) % 256)) := by rw [ha]; exact putSel_on (e := (20, 29, .int .u8 ((a1_11) % 256))) 10 rfl rfl (hon 20 (by kernel_rfl)) rfl
   replace ha := Gv.a0 ha
   have BK414 := Gv.a0 Q_BK414
   have HB := Gv.a0 Q_HB
   refine Kd.R_lit_step (Kd.int .u8) _ 5 ?hg (N := 30) ?hd (xs := ([(a1_11) % 256] : List Int)) (inner := [.int .u8 ((a1_11) % 256)]) (ok := fun _ => True) (okp := fun _ => True) ?hr ?hp (fun _ hk => hk) trivial (Below.refl _ _) (Nat.le_refl _) (by simp) ?_; (case hd => rfl); (case hg => rfl); (case hr => first | (go_simp; done) | (go_simp; rfl)); (case hp => exact (Reps.one (show Kd.M (Kd.int .u8) _ _ _ ((a1_11) % 256) [.int .u8 ((a1_11) % 256)] from rfl) (Reps.none _ _)))
   intro v425 w10 ho11 hb hg_ hnew_
   clear hg_ hnew_
   (first | rw [← Ny424.out] at ho11 | (simp only [Int.reduceToNat] at ho11; rw [← Ny424.out] at ho11))
   have n0_ := Gv.a0 (Kd.R_lower ho11 (below_size Gv.bw))
   have n1_ := Gv.b1 BK414 hb
   have n2_ := Gv.a0 (below_step Gv.bw hb)
   have z_HO417 := fun (h0_ : b 8 = true) (h1_ : b 30 = false) => (show Kd.R (Kd.int .u8) 5 w10 w.heap.size (fun _ => True) v416 y415 from by first | exact (Kd.R_elder' (by (with_reducible repeat (first | apply Kd.R_alloc | apply Kd.R_drewN | apply Kd.R_drew)); exact (Q_HO417 h0_ h1_)) (Kd.R_base ho11) hb) | exact Kd.R_mono (Kd.R_elder' (by (with_reducible repeat (first | apply Kd.R_alloc | apply Kd.R_drewN | apply Kd.R_drew)); exact (Q_HO417 h0_ h1_)) (Kd.R_base ho11) hb) (fun _ h_ => by first | trivial | exact h_ | exact h_.1))
   have z_HO420 := fun (h0_ : b 12 = true) (h1_ : b 30 = false) => (show Kd.R (Kd.int .u8) 5 w10 w.heap.size (fun _ => True) v419 t418 from by first | exact (Kd.R_elder' (by (with_reducible repeat (first | apply Kd.R_alloc | apply Kd.R_drewN | apply Kd.R_drew)); exact (Q_HO420 h0_ h1_)) (Kd.R_base ho11) hb) | exact Kd.R_mono (Kd.R_elder' (by (with_reducible repeat (first | apply Kd.R_alloc | apply Kd.R_drewN | apply Kd.R_drew)); exact (Q_HO420 h0_ h1_)) (Kd.R_base ho11) hb) (fun _ h_ => by first | trivial | exact h_ | exact h_.1))
   have z_HO423 := fun (h0_ : b 16 = true) (h1_ : b 30 = false) => (show Kd.R (Kd.int .u8) 5 w10 w.heap.size (fun _ => True) v422 t421 from by first | exact (Kd.R_elder' (by (with_reducible repeat (first | apply Kd.R_alloc | apply Kd.R_drewN | apply Kd.R_drew)); exact (Q_HO423 h0_ h1_)) (Kd.R_base ho11) hb) | exact Kd.R_mono (Kd.R_elder' (by (with_reducible repeat (first | apply Kd.R_alloc | apply Kd.R_drewN | apply Kd.R_drew)); exact (Q_HO423 h0_ h1_)) (Kd.R_base ho11) hb) (fun _ h_ => by first | trivial | exact h_ | exact h_.1))
   have z_HO429 := fun (h0_ : b 25 = true) (h1_ : b 30 = false) => (show Kd.R (Kd.int .u8) 5 w10 w.heap.size (fun _ => True) v428 t427 from by first | exact (Kd.R_elder' (by (with_reducible repeat (first | apply Kd.R_alloc | apply Kd.R_drewN | apply Kd.R_drew)); exact (Q_HO429 h0_ h1_)) (Kd.R_base ho11) hb) | exact Kd.R_mono (Kd.R_elder' (by (with_reducible repeat (first | apply Kd.R_alloc | apply Kd.R_drewN | apply Kd.R_drew)); exact (Q_HO429 h0_ h1_)) (Kd.R_base ho11) hb) (fun _ h_ => by first | trivial | exact h_ | exact h_.1))
   have z_HO432 := fun (h0_ : b 29 = true) (h1_ : b 30 = false) => (show Kd.R (Kd.int .u8) 5 w10 w.heap.size (fun _ => True) v431 t430 from by first | exact (Kd.R_elder' (by (with_reducible repeat (first | apply Kd.R_alloc | apply Kd.R_drewN | apply Kd.R_drew)); exact (Q_HO432 h0_ h1_)) (Kd.R_base ho11) hb) | exact Kd.R_mono (Kd.R_elder' (by (with_reducible repeat (first | apply Kd.R_alloc | apply Kd.R_drewN | apply Kd.R_drew)); exact (Q_HO432 h0_ h1_)) (Kd.R_base ho11) hb) (fun _ h_ => by first | trivial | exact h_ | exact h_.1))
   clear BK414 HB
   have HO426 := n0_
   have BK414 := n1_
   have HB := n2_
   clear n0_ n1_ n2_ hb ho11
   refine hK.out _ _ ⟨v416, v419, v422, v425, v428, v431, v434, v437, m32_, (by rw [ha.out]; exact putSel_upk 11 hb_ rfl rfl rfl), Gv.bk, Gv.bw, z_HO417, z_HO420, z_HO423, fun _ _ => (by (with_reducible repeat (first | apply Kd.R_alloc | apply Kd.R_drewN | apply Kd.R_drew)); first | exact HO426.out | exact Kd.R_mono HO426.out (fun _ hk => by first | exact hk.2 | trivial | exact ⟨hk.1.2, hk.2⟩ | exact ⟨trivial, hk.2⟩ | exact hk.1.2 | exact hk | exact ⟨trivial, hk⟩ | exact hk.1 | (simp only [true_and, and_true] at hk ⊢; first | exact hk | exact hk.2 | exact hk.1 | exact ⟨hk.2, hk.1⟩ | omega | (constructor <;> first | exact hk.1 | exact hk.2 | exact hk.1.1 | exact hk.1.2 | exact hk.2.1 | exact hk.2.2)))), z_HO429, z_HO432, fun h0_ => absurd ((hoff 30 (by kernel_rfl)).symm.trans h0_) (by decide), fun h0_ => absurd ((hoff 31 (by kernel_rfl)).symm.trans h0_) (by decide), fun h0_ => absurd ((hoff 32 (by kernel_rfl)).symm.trans h0_) (by decide)⟩
  refine steps_cons ?_ ?_
  ·rintro b a w' ⟨v416, v419, v422, v425, v428, v431, v434, v437, m32_, ha, Q_BK414, Q_HB, Q_HO417, Q_HO420, Q_HO423, Q_HO426, Q_HO429, Q_HO432, Q_HO435, Q_HO438, Q_X32_⟩ hb_ hon hoff
   refine ⟨_, rfl, fun K hK => ?_⟩
   have e32 : a.tmps[32]? = some (.pointer (some ⟨gb414, 12, none⟩)) := by rw [ha]; exact (putSel_off rfl).trans rfl
   replace ha := Gv.a0 ha
   have BK414 := Gv.a0 Q_BK414
   have HB := Gv.a0 Q_HB
   have hc0_ : w'.cell? ⟨gb414, 0, none⟩ = some (.int .i64 a1_0) := (blk_cell BK414.out 0).trans rfl
   have hc1_ : w'.cell? ⟨gb414, 1, none⟩ = some (.int .i64 a1_1) := (blk_cell BK414.out 1).trans rfl
   have hc2_ : w'.cell? ⟨gb414, 2, none⟩ = some (.int .i64 a1_2) := (blk_cell BK414.out 2).trans rfl
   have hc3_ : w'.cell? ⟨gb414, 3, none⟩ = some (.int .i64 a1_3) := (blk_cell BK414.out 3).trans rfl
   have hc4_ : w'.cell? ⟨gb414, 4, none⟩ = some (.int .i64 a1_4) := (blk_cell BK414.out 4).trans rfl
   have hc5_ : w'.cell? ⟨gb414, 5, none⟩ = some (.int .i64 a1_5) := (blk_cell BK414.out 5).trans rfl
   have hc6_ : w'.cell? ⟨gb414, 6, none⟩ = some (.int .i64 a1_6) := (blk_cell BK414.out 6).trans rfl
   have hc7_ : w'.cell? ⟨gb414, 7, none⟩ = some (.int .i64 a1_7) := (blk_cell BK414.out 7).trans rfl
   have hc8_ : w'.cell? ⟨gb414, 8, none⟩ = some (.int .i64 a1_8) := (blk_cell BK414.out 8).trans rfl
   have hc9_ : w'.cell? ⟨gb414, 9, none⟩ = some (.int .i64 a1_9) := (blk_cell BK414.out 9).trans rfl
   have hc10_ : w'.cell? ⟨gb414, 10, none⟩ = some (.int .i64 a1_10) := (blk_cell BK414.out 10).trans rfl
   have hc11_ : w'.cell? ⟨gb414, 11, none⟩ = some (.int .i64 a1_11) := (blk_cell BK414.out 11).trans rfl
   have hc12_ : w'.cell? ⟨gb414, 12, none⟩ = some (.int .i64 a1_12) := (blk_cell BK414.out 12).trans rfl
   have hc13_ : w'.cell? ⟨gb414, 13, none⟩ = some (.int .i64 a1_13) := (blk_cell BK414.out 13).trans rfl
   refine value_ (w1 := w') (v := .int .i64 a1_12) (by rfl) rfl ?_ ?_
   ·go_simp
    (try simp only [i64_w])
    try rfl
   refine hK.out _ _ ⟨v416, v419, v422, v425, v428, v431, v434, v437, m32_, (by rw [ha.out]; exact putSel_upk 12 hb_ rfl rfl rfl), Q_BK414, Q_HB, Q_HO417, Q_HO420, Q_HO423, Q_HO426, fun h0_ _ => absurd ((hoff 25 (by kernel_rfl)).symm.trans h0_) (by decide), fun h0_ _ => absurd ((hoff 29 (by kernel_rfl)).symm.trans h0_) (by decide), fun h0_ => absurd ((hoff 30 (by kernel_rfl)).symm.trans h0_) (by decide), fun h0_ => absurd ((hoff 31 (by kernel_rfl)).symm.trans h0_) (by decide), fun h0_ => absurd ((hoff 32 (by kernel_rfl)).symm.trans h0_) (by decide)⟩
  refine steps_cons ?_ ?_
  ·rintro b a w' ⟨v416, v419, v422, v425, v428, v431, v434, v437, m32_, ha, Q_BK414, Q_HB, Q_HO417, Q_HO420, Q_HO423, Q_HO426, Q_HO429, Q_HO432, Q_HO435, Q_HO438, Q_X32_⟩ hb_ hon hoff
   refine ⟨_, rfl, fun K hK => ?_⟩
   have e33 : a.tmps[33]? = some (.int .i64 a1_12) := by rw [ha]; exact putSel_on (e := (24, 33, .int .i64 a1_12)) 12 rfl rfl (hon 24 (by kernel_rfl)) rfl
   replace ha := Gv.a0 ha
   have BK414 := Gv.a0 Q_BK414
   have HB := Gv.a0 Q_HB
   have HO420 := Gv.a0 (Q_HO420 (hon 12 (by kernel_rfl)) (hoff 30 (by kernel_rfl)))
   have HO423 := Gv.a0 (Q_HO423 (hon 16 (by kernel_rfl)) (hoff 30 (by kernel_rfl)))
   refine goes_ Try.func75 (by kernel_rfl) rfl #[.int .i64 a1_12] (by rfl) rfl rfl (by first | (simp only [List.map_toArray, List.map_cons, List.map_nil, Act.eval, Array.getD_eq_getD_getElem?, Option.getD_some, e33]; done) | (simp only [List.map_toArray, List.map_cons, List.map_nil, Act.eval, Array.getD_eq_getD_getElem?, Option.getD_some, e33]; rfl)) ?_
   with_reducible refine (impl_Put16.calls k a1_12 t427 _ A5.out).mono ?_
   rintro e w13 ⟨v428, rfl, ho0, hb⟩
   refine ⟨_, rfl, ?_⟩
   have n0_ := Gv.a0 (Kd.R_elder' (Gv.kr HO420.out) (Kd.R_base ho0) hb)
   have n1_ := Gv.a0 (Kd.R_elder' (Gv.kr HO423.out) (Kd.R_base ho0) hb)
   have n2_ := Gv.a0 (Kd.R_lower (Kd.R_new' (Kd.R_new' ho0 (Kd.R_lt (Gv.kr HO420.out))) (Kd.R_lt (Gv.kr HO423.out))) (below_size Gv.bw))
   have n3_ := Gv.b1 BK414 hb
   have n4_ := Gv.a0 (below_step Gv.bw hb)
   have z_HO417 := fun (h0_ : b 8 = true) (h1_ : b 30 = false) => (show Kd.R (Kd.int .u8) 5 w13 w.heap.size (fun _ => True) v416 y415 from by first | exact (Kd.R_elder' (by (with_reducible repeat (first | apply Kd.R_alloc | apply Kd.R_drewN | apply Kd.R_drew)); exact (Q_HO417 h0_ h1_)) (Kd.R_base ho0) hb) | exact Kd.R_mono (Kd.R_elder' (by (with_reducible repeat (first | apply Kd.R_alloc | apply Kd.R_drewN | apply Kd.R_drew)); exact (Q_HO417 h0_ h1_)) (Kd.R_base ho0) hb) (fun _ h_ => by first | trivial | exact h_ | exact h_.1))
   have z_HO426 := fun (h0_ : b 21 = true) (h1_ : b 30 = false) => (show Kd.R (Kd.int .u8) 5 w13 w.heap.size (fun _ => True) v425 y424 from by first | exact (Kd.R_elder' (by (with_reducible repeat (first | apply Kd.R_alloc | apply Kd.R_drewN | apply Kd.R_drew)); exact (Q_HO426 h0_ h1_)) (Kd.R_base ho0) hb) | exact Kd.R_mono (Kd.R_elder' (by (with_reducible repeat (first | apply Kd.R_alloc | apply Kd.R_drewN | apply Kd.R_drew)); exact (Q_HO426 h0_ h1_)) (Kd.R_base ho0) hb) (fun _ h_ => by first | trivial | exact h_ | exact h_.1))
   clear HO420 HO423 BK414 HB
   have HO420 := n0_
   have HO423 := n1_
   have HO429 := n2_
   have BK414 := n3_
   have HB := n4_
   clear n0_ n1_ n2_ n3_ n4_
   (try clear hb)
   (try clear hb2)
   (try clear hk)
   (try clear hi)
   (try clear ho0)
   refine hK.out _ _ ⟨v416, v419, v422, v425, v428, v431, v434, v437, m32_, (by rw [ha.out]; exact putSel_upk 13 hb_ rfl rfl rfl), Gv.bk, Gv.bw, z_HO417, fun _ _ => (by (with_reducible repeat (first | apply Kd.R_alloc | apply Kd.R_drewN | apply Kd.R_drew)); first | exact HO420.out | exact Kd.R_mono HO420.out (fun _ hk => by first | exact hk.2 | trivial | exact ⟨hk.1.2, hk.2⟩ | exact ⟨trivial, hk.2⟩ | exact hk.1.2 | exact hk | exact ⟨trivial, hk⟩ | exact hk.1 | (simp only [true_and, and_true] at hk ⊢; first | exact hk | exact hk.2 | exact hk.1 | exact ⟨hk.2, hk.1⟩ | omega | (constructor <;> first | exact hk.1 | exact hk.2 | exact hk.1.1 | exact hk.1.2 | exact hk.2.1 | exact hk.2.2)))), fun _ _ => (by (with_reducible repeat (first | apply Kd.R_alloc | apply Kd.R_drewN | apply Kd.R_drew)); first | exact HO423.out | exact Kd.R_mono HO423.out (fun _ hk => by first | exact hk.2 | trivial | exact ⟨hk.1.2, hk.2⟩ | exact ⟨trivial, hk.2⟩ | exact hk.1.2 | exact hk | exact ⟨trivial, hk⟩ | exact hk.1 | (simp only [true_and, and_true] at hk ⊢; first | exact hk | exact hk.2 | exact hk.1 | exact ⟨hk.2, hk.1⟩ | omega | (constructor <;> first | exact hk.1 | exact hk.2 | exact hk.1.1 | exact hk.1.2 | exact hk.2.1 | exact hk.2.2)))), z_HO426, fun _ _ => (by (with_reducible repeat (first | apply Kd.R_alloc | apply Kd.R_drewN | apply Kd.R_drew)); exact Kd.R_mono HO429.out (fun _ hk => by first | exact hk.2 | trivial | exact ⟨hk.1.2, hk.2⟩ | exact ⟨trivial, hk.2⟩ | exact hk.1.2 | exact hk | exact ⟨trivial, hk⟩ | exact hk.1 | (simp only [true_and, and_true] at hk ⊢; first | exact hk | exact hk.2 | exact hk.1 | exact ⟨hk.2, hk.1⟩ | omega | (constructor <;> first | exact hk.1 | exact hk.2 | exact hk.1.1 | exact hk.1.2 | exact hk.2.1 | exact hk.2.2)))), fun h0_ _ => absurd ((hoff 29 (by kernel_rfl)).symm.trans h0_) (by decide), fun h0_ => absurd ((hoff 30 (by kernel_rfl)).symm.trans h0_) (by decide), fun h0_ => absurd ((hoff 31 (by kernel_rfl)).symm.trans h0_) (by decide), fun h0_ => absurd ((hoff 32 (by kernel_rfl)).symm.trans h0_) (by decide)⟩
  refine steps_cons ?_ ?_
  ·rintro b a w' ⟨v416, v419, v422, v425, v428, v431, v434, v437, m32_, ha, Q_BK414, Q_HB, Q_HO417, Q_HO420, Q_HO423, Q_HO426, Q_HO429, Q_HO432, Q_HO435, Q_HO438, Q_X32_⟩ hb_ hon hoff
   refine ⟨_, rfl, fun K hK => ?_⟩
   have e36 : a.tmps[36]? = some (.pointer (some ⟨gb414, 13, none⟩)) := by rw [ha]; exact (putSel_off rfl).trans rfl
   replace ha := Gv.a0 ha
   have BK414 := Gv.a0 Q_BK414
   have HB := Gv.a0 Q_HB
   have hc0_ : w'.cell? ⟨gb414, 0, none⟩ = some (.int .i64 a1_0) := (blk_cell BK414.out 0).trans rfl
   have hc1_ : w'.cell? ⟨gb414, 1, none⟩ = some (.int .i64 a1_1) := (blk_cell BK414.out 1).trans rfl
   have hc2_ : w'.cell? ⟨gb414, 2, none⟩ = some (.int .i64 a1_2) := (blk_cell BK414.out 2).trans rfl
   have hc3_ : w'.cell? ⟨gb414, 3, none⟩ = some (.int .i64 a1_3) := (blk_cell BK414.out 3).trans rfl
   have hc4_ : w'.cell? ⟨gb414, 4, none⟩ = some (.int .i64 a1_4) := (blk_cell BK414.out 4).trans rfl
   have hc5_ : w'.cell? ⟨gb414, 5, none⟩ = some (.int .i64 a1_5) := (blk_cell BK414.out 5).trans rfl
   have hc6_ : w'.cell? ⟨gb414, 6, none⟩ = some (.int .i64 a1_6) := (blk_cell BK414.out 6).trans rfl
   have hc7_ : w'.cell? ⟨gb414, 7, none⟩ = some (.int .i64 a1_7) := (blk_cell BK414.out 7).trans rfl
   have hc8_ : w'.cell? ⟨gb414, 8, none⟩ = some (.int .i64 a1_8) := (blk_cell BK414.out 8).trans rfl
   have hc9_ : w'.cell? ⟨gb414, 9, none⟩ = some (.int .i64 a1_9) := (blk_cell BK414.out 9).trans rfl
   have hc10_ : w'.cell? ⟨gb414, 10, none⟩ = some (.int .i64 a1_10) := (blk_cell BK414.out 10).trans rfl
   have hc11_ : w'.cell? ⟨gb414, 11, none⟩ = some (.int .i64 a1_11) := (blk_cell BK414.out 11).trans rfl
   have hc12_ : w'.cell? ⟨gb414, 12, none⟩ = some (.int .i64 a1_12) := (blk_cell BK414.out 12).trans rfl
   have hc13_ : w'.cell? ⟨gb414, 13, none⟩ = some (.int .i64 a1_13) := (blk_cell BK414.out 13).trans rfl
   refine value_ (w1 := w') (v := .int .i64 a1_13) (by rfl) rfl ?_ ?_
   ·go_simp
    (try simp only [i64_w])
    try rfl
   refine hK.out _ _ ⟨v416, v419, v422, v425, v428, v431, v434, v437, m32_, (by rw [ha.out]; exact putSel_upk 14 hb_ rfl rfl rfl), Q_BK414, Q_HB, Q_HO417, Q_HO420, Q_HO423, Q_HO426, Q_HO429, fun h0_ _ => absurd ((hoff 29 (by kernel_rfl)).symm.trans h0_) (by decide), fun h0_ => absurd ((hoff 30 (by kernel_rfl)).symm.trans h0_) (by decide), fun h0_ => absurd ((hoff 31 (by kernel_rfl)).symm.trans h0_) (by decide), fun h0_ => absurd ((hoff 32 (by kernel_rfl)).symm.trans h0_) (by decide)⟩
  refine steps_cons ?_ ?_
  ·rintro b a w' ⟨v416, v419, v422, v425, v428, v431, v434, v437, m32_, ha, Q_BK414, Q_HB, Q_HO417, Q_HO420, Q_HO423, Q_HO426, Q_HO429, Q_HO432, Q_HO435, Q_HO438, Q_X32_⟩ hb_ hon hoff
   refine ⟨_, rfl, fun K hK => ?_⟩
   have e37 : a.tmps[37]? = some (.int .i64 a1_13) := by rw [ha]; exact putSel_on (e := (28, 37, .int .i64 a1_13)) 14 rfl rfl (hon 28 (by kernel_rfl)) rfl
   replace ha := Gv.a0 ha
   have BK414 := Gv.a0 Q_BK414
   have HB := Gv.a0 Q_HB
   have HO420 := Gv.a0 (Q_HO420 (hon 12 (by kernel_rfl)) (hoff 30 (by kernel_rfl)))
   have HO423 := Gv.a0 (Q_HO423 (hon 16 (by kernel_rfl)) (hoff 30 (by kernel_rfl)))
   have HO429 := Gv.a0 (Q_HO429 (hon 25 (by kernel_rfl)) (hoff 30 (by kernel_rfl)))
   refine goes_ Try.func75 (by kernel_rfl) rfl #[.int .i64 a1_13] (by rfl) rfl rfl (by first | (simp only [List.map_toArray, List.map_cons, List.map_nil, Act.eval, Array.getD_eq_getD_getElem?, Option.getD_some, e37]; done) | (simp only [List.map_toArray, List.map_cons, List.map_nil, Act.eval, Array.getD_eq_getD_getElem?, Option.getD_some, e37]; rfl)) ?_
   with_reducible refine (impl_Put16.calls k a1_13 t430 _ A6.out).mono ?_
   rintro e w14 ⟨v431, rfl, ho0, hb⟩
   refine ⟨_, rfl, ?_⟩
   have n0_ := Gv.a0 (Kd.R_elder' (Gv.kr HO420.out) (Kd.R_base ho0) hb)
   have n1_ := Gv.a0 (Kd.R_elder' (Gv.kr HO423.out) (Kd.R_base ho0) hb)
   have n2_ := Gv.a0 (Kd.R_elder' (Gv.kr HO429.out) (Kd.R_base ho0) hb)
   have n3_ := Gv.a0 (Kd.R_lower (Kd.R_new' (Kd.R_new' (Kd.R_new' ho0 (Kd.R_lt (Gv.kr HO420.out))) (Kd.R_lt (Gv.kr HO423.out))) (Kd.R_lt (Gv.kr HO429.out))) (below_size Gv.bw))
   have n4_ := Gv.b1 BK414 hb
   have n5_ := Gv.a0 (below_step Gv.bw hb)
   have z_HO417 := fun (h0_ : b 8 = true) (h1_ : b 30 = false) => (show Kd.R (Kd.int .u8) 5 w14 w.heap.size (fun _ => True) v416 y415 from by first | exact (Kd.R_elder' (by (with_reducible repeat (first | apply Kd.R_alloc | apply Kd.R_drewN | apply Kd.R_drew)); exact (Q_HO417 h0_ h1_)) (Kd.R_base ho0) hb) | exact Kd.R_mono (Kd.R_elder' (by (with_reducible repeat (first | apply Kd.R_alloc | apply Kd.R_drewN | apply Kd.R_drew)); exact (Q_HO417 h0_ h1_)) (Kd.R_base ho0) hb) (fun _ h_ => by first | trivial | exact h_ | exact h_.1))
   have z_HO426 := fun (h0_ : b 21 = true) (h1_ : b 30 = false) => (show Kd.R (Kd.int .u8) 5 w14 w.heap.size (fun _ => True) v425 y424 from by first | exact (Kd.R_elder' (by (with_reducible repeat (first | apply Kd.R_alloc | apply Kd.R_drewN | apply Kd.R_drew)); exact (Q_HO426 h0_ h1_)) (Kd.R_base ho0) hb) | exact Kd.R_mono (Kd.R_elder' (by (with_reducible repeat (first | apply Kd.R_alloc | apply Kd.R_drewN | apply Kd.R_drew)); exact (Q_HO426 h0_ h1_)) (Kd.R_base ho0) hb) (fun _ h_ => by first | trivial | exact h_ | exact h_.1))
   clear HO420 HO423 HO429 BK414 HB
   have HO420 := n0_
   have HO423 := n1_
   have HO429 := n2_
   have HO432 := n3_
   have BK414 := n4_
   have HB := n5_
   clear n0_ n1_ n2_ n3_ n4_ n5_
   (try clear hb)
   (try clear hb2)
   (try clear hk)
   (try clear hi)
   (try clear ho0)
   refine hK.out _ _ ⟨v416, v419, v422, v425, v428, v431, v434, v437, m32_, (by rw [ha.out]; exact putSel_upk 15 hb_ rfl rfl rfl), Gv.bk, Gv.bw, z_HO417, fun _ _ => (by (with_reducible repeat (first | apply Kd.R_alloc | apply Kd.R_drewN | apply Kd.R_drew)); exact Kd.R_mono HO420.out (fun _ hk => by first | exact hk.2 | trivial | exact ⟨hk.1.2, hk.2⟩ | exact ⟨trivial, hk.2⟩ | exact hk.1.2 | exact hk | exact ⟨trivial, hk⟩ | exact hk.1 | (simp only [true_and, and_true] at hk ⊢; first | exact hk | exact hk.2 | exact hk.1 | exact ⟨hk.2, hk.1⟩ | omega | (constructor <;> first | exact hk.1 | exact hk.2 | exact hk.1.1 | exact hk.1.2 | exact hk.2.1 | exact hk.2.2)))), fun _ _ => (by (with_reducible repeat (first | apply Kd.R_alloc | apply Kd.R_drewN | apply Kd.R_drew)); exact Kd.R_mono HO423.out (fun _ hk => by first | exact hk.2 | trivial | exact ⟨hk.1.2, hk.2⟩ | exact ⟨trivial, hk.2⟩ | exact hk.1.2 | exact hk | exact ⟨trivial, hk⟩ | exact hk.1 | (simp only [true_and, and_true] at hk ⊢; first | exact hk | exact hk.2 | exact hk.1 | exact ⟨hk.2, hk.1⟩ | omega | (constructor <;> first | exact hk.1 | exact hk.2 | exact hk.1.1 | exact hk.1.2 | exact hk.2.1 | exact hk.2.2)))), z_HO426, fun _ _ => (by (with_reducible repeat (first | apply Kd.R_alloc | apply Kd.R_drewN | apply Kd.R_drew)); exact Kd.R_mono HO429.out (fun _ hk => by first | exact hk.2 | trivial | exact ⟨hk.1.2, hk.2⟩ | exact ⟨trivial, hk.2⟩ | exact hk.1.2 | exact hk | exact ⟨trivial, hk⟩ | exact hk.1 | (simp only [true_and, and_true] at hk ⊢; first | exact hk | exact hk.2 | exact hk.1 | exact ⟨hk.2, hk.1⟩ | omega | (constructor <;> first | exact hk.1 | exact hk.2 | exact hk.1.1 | exact hk.1.2 | exact hk.2.1 | exact hk.2.2)))), fun _ _ => (by (with_reducible repeat (first | apply Kd.R_alloc | apply Kd.R_drewN | apply Kd.R_drew)); exact Kd.R_mono HO432.out (fun _ hk => by first | exact hk.2 | trivial | exact ⟨hk.1.2, hk.2⟩ | exact ⟨trivial, hk.2⟩ | exact hk.1.2 | exact hk | exact ⟨trivial, hk⟩ | exact hk.1 | (simp only [true_and, and_true] at hk ⊢; first | exact hk | exact hk.2 | exact hk.1 | exact ⟨hk.2, hk.1⟩ | omega | (constructor <;> first | exact hk.1 | exact hk.2 | exact hk.1.1 | exact hk.1.2 | exact hk.2.1 | exact hk.2.2)))), fun h0_ => absurd ((hoff 30 (by kernel_rfl)).symm.trans h0_) (by decide), fun h0_ => absurd ((hoff 31 (by kernel_rfl)).symm.trans h0_) (by decide), fun h0_ => absurd ((hoff 32 (by kernel_rfl)).symm.trans h0_) (by decide)⟩
  refine steps_cons ?_ ?_
  ·rintro b a w' ⟨v416, v419, v422, v425, v428, v431, v434, v437, m32_, ha, Q_BK414, Q_HB, Q_HO417, Q_HO420, Q_HO423, Q_HO426, Q_HO429, Q_HO432, Q_HO435, Q_HO438, Q_X32_⟩ hb_ hon hoff
   refine ⟨_, rfl, fun K hK => ?_⟩
   have e17 : a.tmps[17]? = some (v416) := by rw [ha]; exact putSel_on (e := (8, 17, v416)) 4 rfl rfl (hon 8 (by kernel_rfl)) rfl
   have e21 : a.tmps[21]? = some (v419) := by rw [ha]; exact putSel_on (e := (12, 21, v419)) 6 rfl rfl (hon 12 (by kernel_rfl)) rfl
   have e25 : a.tmps[25]? = some (v422) := by rw [ha]; exact putSel_on (e := (16, 25, v422)) 8 rfl rfl (hon 16 (by kernel_rfl)) rfl
   have e30 : a.tmps[30]? = some (v425) := by rw [ha]; exact putSel_on (e := (21, 30, v425)) 11 rfl rfl (hon 21 (by kernel_rfl)) rfl
   have e34 : a.tmps[34]? = some (v428) := by rw [ha]; exact putSel_on (e := (25, 34, v428)) 13 rfl rfl (hon 25 (by kernel_rfl)) rfl
   have e38 : a.tmps[38]? = some (v431) := by rw [ha]; exact putSel_on (e := (29, 38, v431)) 15 rfl rfl (hon 29 (by kernel_rfl)) rfl
   replace ha := Gv.a0 ha
   have BK414 := Gv.a0 Q_BK414
   have HB := Gv.a0 Q_HB
   have HO417 := Gv.a0 (Q_HO417 (hon 8 (by kernel_rfl)) hb_)
   have HO420 := Gv.a0 (Q_HO420 (hon 12 (by kernel_rfl)) hb_)
   have HO423 := Gv.a0 (Q_HO423 (hon 16 (by kernel_rfl)) hb_)
   have HO426 := Gv.a0 (Q_HO426 (hon 21 (by kernel_rfl)) hb_)
   have HO429 := Gv.a0 (Q_HO429 (hon 25 (by kernel_rfl)) hb_)
   have HO432 := Gv.a0 (Q_HO432 (hon 29 (by kernel_rfl)) hb_)
   obtain ⟨Ao19, co19, eo19⟩ := Kd.R_slice HO417.out
   (first | subst eo19 | (injection eo19 with f1_ f2_ f3_; have f4_ := f1_.symm; have f5_ := f3_.symm; clear f1_ f2_ f3_; subst f4_; subst f5_))
   obtain ⟨Ao20, co20, eo20⟩ := Kd.R_slice HO420.out
   (first | subst eo20 | (injection eo20 with f1_ f2_ f3_; have f4_ := f1_.symm; have f5_ := f3_.symm; clear f1_ f2_ f3_; subst f4_; subst f5_))
   obtain ⟨Ao21, co21, eo21⟩ := Kd.R_slice HO423.out
   (first | subst eo21 | (injection eo21 with f1_ f2_ f3_; have f4_ := f1_.symm; have f5_ := f3_.symm; clear f1_ f2_ f3_; subst f4_; subst f5_))
   obtain ⟨Ao22, co22, eo22⟩ := Kd.R_slice HO426.out
   (first | subst eo22 | (injection eo22 with f1_ f2_ f3_; have f4_ := f1_.symm; have f5_ := f3_.symm; clear f1_ f2_ f3_; subst f4_; subst f5_))
   obtain ⟨Ao23, co23, eo23⟩ := Kd.R_slice HO429.out
   (first | subst eo23 | (injection eo23 with f1_ f2_ f3_; have f4_ := f1_.symm; have f5_ := f3_.symm; clear f1_ f2_ f3_; subst f4_; subst f5_))
   obtain ⟨Ao24, co24, eo24⟩ := Kd.R_slice HO432.out
   (first | subst eo24 | (injection eo24 with f1_ f2_ f3_; have f4_ := f1_.symm; have f5_ := f3_.symm; clear f1_ f2_ f3_; subst f4_; subst f5_))
   refine Kd.N_lit_step (Kd.slice 5 (Kd.int .u8)) _ 68 ?hg (N' := 39) ?hd (xs := ([y415, t418, t421, y424, t427, t430] : List (List Int))) (inner := [.slice Ao19 y415.length co19, .slice Ao20 t418.length co20, .slice Ao21 t421.length co21, .slice Ao22 y424.length co22, .slice Ao23 t427.length co23, .slice Ao24 t430.length co24]) (ok := (fun k_ => k_ ≠ gb414)) (okp := (fun k_ => k_ ≠ gb414)) ?hr ?hp (fun _ hk => hk) ((show ∀ k_, w'.heap.size ≤ k_ → (fun k_ => k_ ≠ gb414) k_ from fun k_ hk => Kd.freshB (g := gb414) (o := .cells #[.int .i64 a1_0, .int .i64 a1_1, .int .i64 a1_2, .int .i64 a1_3, .int .i64 a1_4, .int .i64 a1_5, .int .i64 a1_6, .int .i64 a1_7, .int .i64 a1_8, .int .i64 a1_9, .int .i64 a1_10, .int .i64 a1_11, .int .i64 a1_12, .int .i64 a1_13] 33 (0, 0)) Gv.bk k_ hk) _ (Nat.le_refl _)) (Below.refl _ _) (Nat.le_refl _) (by simp) ?_; (case hd => rfl); (case hg => rfl); (case hr => first | (go_simp; done) | (go_simp; rfl)); (case hp => exact (Reps.one (show Kd.FK (Kd.slice 5 (Kd.int .u8)) _ _ y415 [.slice Ao19 y415.length co19] from (Kd.FK_slice_mk (Kd.R_reads' (Kd.R_mono (ok' := (fun k_ => k_ ≠ gb414)) (Kd.R_types (HO417.out) BK414.out (by decide)) (fun k_ hk => hk.2))).2.1 (Kd.R_F (Kd.R_mono (ok' := (fun k_ => k_ ≠ gb414)) (Kd.R_types (HO417.out) BK414.out (by decide)) (fun k_ hk => hk.2))))) (Reps.one (show Kd.FK (Kd.slice 5 (Kd.int .u8)) _ _ t418 [.slice Ao20 t418.length co20] from (Kd.FK_slice_mk (Kd.R_reads' (Kd.R_mono (ok' := (fun k_ => k_ ≠ gb414)) (Kd.R_types (HO420.out) BK414.out (by decide)) (fun k_ hk => hk.2))).2.1 (Kd.R_F (Kd.R_mono (ok' := (fun k_ => k_ ≠ gb414)) (Kd.R_types (HO420.out) BK414.out (by decide)) (fun k_ hk => hk.2))))) (Reps.one (show Kd.FK (Kd.slice 5 (Kd.int .u8)) _ _ t421 [.slice Ao21 t421.length co21] from (Kd.FK_slice_mk (Kd.R_reads' (Kd.R_mono (ok' := (fun k_ => k_ ≠ gb414)) (Kd.R_types (HO423.out) BK414.out (by decide)) (fun k_ hk => hk.2))).2.1 (Kd.R_F (Kd.R_mono (ok' := (fun k_ => k_ ≠ gb414)) (Kd.R_types (HO423.out) BK414.out (by decide)) (fun k_ hk => hk.2))))) (Reps.one (show Kd.FK (Kd.slice 5 (Kd.int .u8)) _ _ y424 [.slice Ao22 y424.length co22] from (Kd.FK_slice_mk (Kd.R_reads' (Kd.R_mono (ok' := (fun k_ => k_ ≠ gb414)) (Kd.R_types (HO426.out) BK414.out (by decide)) (fun k_ hk => hk.2))).2.1 (Kd.R_F (Kd.R_mono (ok' := (fun k_ => k_ ≠ gb414)) (Kd.R_types (HO426.out) BK414.out (by decide)) (fun k_ hk => hk.2))))) (Reps.one (show Kd.FK (Kd.slice 5 (Kd.int .u8)) _ _ t427 [.slice Ao23 t427.length co23] from (Kd.FK_slice_mk (Kd.R_reads' (Kd.R_mono (ok' := (fun k_ => k_ ≠ gb414)) (Kd.R_types (HO429.out) BK414.out (by decide)) (fun k_ hk => hk.2))).2.1 (Kd.R_F (Kd.R_mono (ok' := (fun k_ => k_ ≠ gb414)) (Kd.R_types (HO429.out) BK414.out (by decide)) (fun k_ hk => hk.2))))) (Reps.one (show Kd.FK (Kd.slice 5 (Kd.int .u8)) _ _ t430 [.slice Ao24 t430.length co24] from (Kd.FK_slice_mk (Kd.R_reads' (Kd.R_mono (ok' := (fun k_ => k_ ≠ gb414)) (Kd.R_types (HO432.out) BK414.out (by decide)) (fun k_ hk => hk.2))).2.1 (Kd.R_F (Kd.R_mono (ok' := (fun k_ => k_ ≠ gb414)) (Kd.R_types (HO432.out) BK414.out (by decide)) (fun k_ hk => hk.2))))) (Reps.none _ _))))))))
   intro v434 w25 ho26 hb hg_ hnew_
   clear hg_ hnew_
   (first | rw [← Ny433.out] at ho26 | (simp only [Int.reduceToNat] at ho26; rw [← Ny433.out] at ho26))
   have HO435 := Gv.a0 (Kd.N_lower ho26 (below_size Gv.bw))
   replace BK414 := Gv.b1 BK414 hb
   replace HB := Gv.a0 (below_step Gv.bw hb)
   clear HO417 HO420 HO423 HO426 HO429 HO432 hb ho26
   refine hK.out _ _ ⟨.slice Ao19 y415.length co19, .slice Ao20 t418.length co20, .slice Ao21 t421.length co21, .slice Ao22 y424.length co22, .slice Ao23 t427.length co23, .slice Ao24 t430.length co24, v434, v437, m32_, (by rw [ha.out]; exact putSel_upk 16 hb_ rfl rfl rfl), Gv.bk, Gv.bw, fun _ h1_ => absurd ((up_self b 30).symm.trans h1_) (by decide), fun _ h1_ => absurd ((up_self b 30).symm.trans h1_) (by decide), fun _ h1_ => absurd ((up_self b 30).symm.trans h1_) (by decide), fun _ h1_ => absurd ((up_self b 30).symm.trans h1_) (by decide), fun _ h1_ => absurd ((up_self b 30).symm.trans h1_) (by decide), fun _ h1_ => absurd ((up_self b 30).symm.trans h1_) (by decide), fun _ => (by (with_reducible repeat (first | apply Kd.N_alloc | apply Kd.N_drewN | apply Kd.N_drew)); first | exact HO435.out | exact Kd.R_mono HO435.out (fun _ hk => by first | exact hk.2 | trivial | exact ⟨hk.1.2, hk.2⟩ | exact ⟨trivial, hk.2⟩ | exact hk.1.2 | exact hk | exact ⟨trivial, hk⟩ | exact hk.1 | (simp only [true_and, and_true] at hk ⊢; first | exact hk | exact hk.2 | exact hk.1 | exact ⟨hk.2, hk.1⟩ | omega | (constructor <;> first | exact hk.1 | exact hk.2 | exact hk.1.1 | exact hk.1.2 | exact hk.2.1 | exact hk.2.2)))), fun h0_ => absurd ((hoff 31 (by kernel_rfl)).symm.trans h0_) (by decide), fun h0_ => absurd ((hoff 32 (by kernel_rfl)).symm.trans h0_) (by decide)⟩
  refine steps_cons ?_ ?_
  ·rintro b a w' ⟨v416, v419, v422, v425, v428, v431, v434, v437, m32_, ha, Q_BK414, Q_HB, Q_HO417, Q_HO420, Q_HO423, Q_HO426, Q_HO429, Q_HO432, Q_HO435, Q_HO438, Q_X32_⟩ hb_ hon hoff
   refine ⟨_, rfl, fun K hK => ?_⟩
   have e39 : a.tmps[39]? = some (v434) := by rw [ha]; exact putSel_on (e := (30, 39, v434)) 16 rfl rfl (hon 30 (by kernel_rfl)) rfl
   replace ha := Gv.a0 ha
   have BK414 := Gv.a0 Q_BK414
   have HB := Gv.a0 Q_HB
   have HO435 := Gv.a0 (Q_HO435 (hon 30 (by kernel_rfl)))
   obtain ⟨Ao27, co27, eo27⟩ := Kd.N_slice HO435.out
   (first | subst eo27 | (injection eo27 with f1_ f2_ f3_; have f4_ := f1_.symm; have f5_ := f3_.symm; clear f1_ f2_ f3_; subst f4_; subst f5_))
   refine goes_ Try.func73 (by kernel_rfl) rfl #[.slice Ao27 y433.length co27] (by rfl) rfl rfl (by first | (simp only [List.map_toArray, List.map_cons, List.map_nil, Act.eval, Array.getD_eq_getD_getElem?, Option.getD_some, e39]; done) | (simp only [List.map_toArray, List.map_cons, List.map_nil, Act.eval, Array.getD_eq_getD_getElem?, Option.getD_some, e39]; rfl)) ?_
   with_reducible refine (slices_Concat_byte_byte.calls k _ _ y433 t436 _ ?side1 ?side2 A7.out).mono ?_
   (case side1 => repeat (first | exact (Kd.N_reads' HO435.out).2.2 | (with_reducible refine Kd.C_alloc ?_ _) | (with_reducible refine Kd.C_drewN ?_ _) | (with_reducible refine Kd.C_drew ?_)))
   (case side2 => exact (Kd.N_reads' HO435.out).2.1)
   rintro e w28 ⟨v437, rfl, ho0, hb⟩
   refine ⟨_, rfl, ?_⟩
   replace HO435 := Gv.a0 (Kd.N_elder' (by (with_reducible repeat (first | apply Kd.N_alloc | apply Kd.N_drewN | apply Kd.N_drew)); exact HO435.out) (Kd.R_base ho0) hb)
   have HO438 := Gv.a0 (Kd.R_lower ho0 (below_size Gv.bw))
   replace BK414 := Gv.b1 BK414 hb
   replace HB := Gv.a0 (below_step Gv.bw hb)
   (try clear hb)
   (try clear hb2)
   (try clear hk)
   (try clear hi)
   (try clear ho0)
   refine hK.out _ _ ⟨v416, v419, v422, v425, v428, v431, .slice Ao27 y433.length co27, v437, m32_, (by rw [ha.out]; exact putSel_upk 17 hb_ rfl rfl rfl), Gv.bk, Gv.bw, fun _ h1_ => absurd ((hon 30 (by kernel_rfl)).symm.trans h1_) (by decide), fun _ h1_ => absurd ((hon 30 (by kernel_rfl)).symm.trans h1_) (by decide), fun _ h1_ => absurd ((hon 30 (by kernel_rfl)).symm.trans h1_) (by decide), fun _ h1_ => absurd ((hon 30 (by kernel_rfl)).symm.trans h1_) (by decide), fun _ h1_ => absurd ((hon 30 (by kernel_rfl)).symm.trans h1_) (by decide), fun _ h1_ => absurd ((hon 30 (by kernel_rfl)).symm.trans h1_) (by decide), fun _ => (by (with_reducible repeat (first | apply Kd.N_alloc | apply Kd.N_drewN | apply Kd.N_drew)); exact Kd.N_mono HO435.out (fun _ hk => by first | exact hk.2 | trivial | exact ⟨hk.1.2, hk.2⟩ | exact ⟨trivial, hk.2⟩ | exact hk.1.2 | exact hk | exact ⟨trivial, hk⟩ | exact hk.1 | (simp only [true_and, and_true] at hk ⊢; first | exact hk | exact hk.2 | exact hk.1 | exact ⟨hk.2, hk.1⟩ | omega | (constructor <;> first | exact hk.1 | exact hk.2 | exact hk.1.1 | exact hk.1.2 | exact hk.2.1 | exact hk.2.2)))), fun _ => (by (with_reducible repeat (first | apply Kd.R_alloc | apply Kd.R_drewN | apply Kd.R_drew)); first | exact HO438.out | exact Kd.R_mono HO438.out (fun _ hk => by first | exact hk.2 | trivial | exact ⟨hk.1.2, hk.2⟩ | exact ⟨trivial, hk.2⟩ | exact hk.1.2 | exact hk | exact ⟨trivial, hk⟩ | exact hk.1 | (simp only [true_and, and_true] at hk ⊢; first | exact hk | exact hk.2 | exact hk.1 | exact ⟨hk.2, hk.1⟩ | omega | (constructor <;> first | exact hk.1 | exact hk.2 | exact hk.1.1 | exact hk.1.2 | exact hk.2.1 | exact hk.2.2)))), fun h0_ => absurd ((hoff 32 (by kernel_rfl)).symm.trans h0_) (by decide)⟩
  refine steps_cons ?_ ?_
  ·rintro b a w' ⟨v416, v419, v422, v425, v428, v431, v434, v437, m32_, ha, Q_BK414, Q_HB, Q_HO417, Q_HO420, Q_HO423, Q_HO426, Q_HO429, Q_HO432, Q_HO435, Q_HO438, Q_X32_⟩ hb_ hon hoff
   refine ⟨_, rfl, fun K hK => ?_⟩
   have e40 : a.tmps[40]? = some (v437) := by rw [ha]; exact putSel_on (e := (31, 40, v437)) 17 rfl rfl (hon 31 (by kernel_rfl)) rfl
   replace ha := Gv.a0 ha
   have BK414 := Gv.a0 Q_BK414
   have HB := Gv.a0 Q_HB
   have HO435 := Gv.a0 (Q_HO435 (hon 30 (by kernel_rfl)))
   have HO438 := Gv.a0 (Q_HO438 (hon 31 (by kernel_rfl)))
   refine value_ (w1 := w') (v := v437) (by rfl) rfl ?_ ?_
   ·go_simp
    (try simp only [i64_w])
    try rfl
   refine hK.out _ _ ⟨v416, v419, v422, v425, v428, v431, v434, v437, (v437), (by rw [ha.out]; exact putSel_upk 18 hb_ rfl rfl rfl), Q_BK414, Q_HB, fun _ h1_ => absurd ((hon 30 (by kernel_rfl)).symm.trans h1_) (by decide), fun _ h1_ => absurd ((hon 30 (by kernel_rfl)).symm.trans h1_) (by decide), fun _ h1_ => absurd ((hon 30 (by kernel_rfl)).symm.trans h1_) (by decide), fun _ h1_ => absurd ((hon 30 (by kernel_rfl)).symm.trans h1_) (by decide), fun _ h1_ => absurd ((hon 30 (by kernel_rfl)).symm.trans h1_) (by decide), fun _ h1_ => absurd ((hon 30 (by kernel_rfl)).symm.trans h1_) (by decide), Q_HO435, Q_HO438, fun _ => rfl⟩
  exact steps_nil
 rintro b a w28 hall ⟨v416, v419, v422, v425, v428, v431, v434, v437, m32_, ha, Q_BK414, Q_HB, Q_HO417, Q_HO420, Q_HO423, Q_HO426, Q_HO429, Q_HO432, Q_HO435, Q_HO438, Q_X32_⟩
 clear BK414 HB
 have hb1_ := hall 1 (by kernel_rfl)
 have hb2_ := hall 2 (by kernel_rfl)
 have hb6_ := hall 6 (by kernel_rfl)
 have hb7_ := hall 7 (by kernel_rfl)
 have hb8_ := hall 8 (by kernel_rfl)
 have hb11_ := hall 11 (by kernel_rfl)
 have hb12_ := hall 12 (by kernel_rfl)
 have hb15_ := hall 15 (by kernel_rfl)
 have hb16_ := hall 16 (by kernel_rfl)
 have hb19_ := hall 19 (by kernel_rfl)
 have hb20_ := hall 20 (by kernel_rfl)
 have hb21_ := hall 21 (by kernel_rfl)
 have hb24_ := hall 24 (by kernel_rfl)
 have hb25_ := hall 25 (by kernel_rfl)
 have hb28_ := hall 28 (by kernel_rfl)
 have hb29_ := hall 29 (by kernel_rfl)
 have hb30_ := hall 30 (by kernel_rfl)
 have hb31_ := hall 31 (by kernel_rfl)
 have hb32_ := hall 32 (by kernel_rfl)
 subst ha
 obtain rfl := Q_X32_ hb32_
 simp only [putSel, hb1_, hb2_, hb6_, hb7_, hb8_, hb11_, hb12_, hb15_, hb16_, hb19_, hb20_, hb21_, hb24_, hb25_, hb28_, hb29_, hb30_, hb31_, hb32_, if_true, Act.put, List.setIfInBounds_toArray, List.set_cons_zero, List.set_cons_succ]
 have BK414 := Gv.a0 Q_BK414
 clear Q_BK414
 have HB := Gv.a0 Q_HB
 clear Q_HB Q_HO417 Q_HO420 Q_HO423 Q_HO426 Q_HO429 Q_HO432
 have HO435 := Gv.a0 (Q_HO435 hb30_)
 clear Q_HO435
 have HO438 := Gv.a0 (Q_HO438 hb31_)
 clear Q_HO438 hall hb1_ hb2_ hb6_ hb7_ hb8_ hb11_ hb12_ hb15_ hb16_ hb19_ hb20_ hb21_ hb24_ hb25_ hb28_ hb29_ hb30_ hb31_ hb32_
 obtain ⟨Ao29, co29, eo29⟩ := Kd.R_slice HO438.out
 subst eo29
 try go_wp2
 go_loopg [6, 44] k (fun kq v6 v44 w' => ∃ (x6_1 : Int) (x44_1 : Int), v6 = .int .i64 x6_1 ∧ v44 = .int .i64 x44_1 ∧ Aside0 (impl_hashOf.l0 kq x6_1 t436 (t436.length : Int) x44_1 = some r) ∧ Aside0 (kq ≤ k) ∧ Aside0 (Kd.R (Kd.int .u8) 5 w' w.heap.size (fun _ => True) (.slice Ao29 t436.length co29) t436) ∧ Aside0 (w'.heap[gb414]? = some (.cells #[.int .i64 a1_0, .int .i64 a1_1, .int .i64 a1_2, .int .i64 a1_3, .int .i64 a1_4, .int .i64 a1_5, .int .i64 a1_6, .int .i64 a1_7, .int .i64 a1_8, .int .i64 a1_9, .int .i64 a1_10, .int .i64 a1_11, .int .i64 a1_12, .int .i64 a1_13] 33 (0, 0))) ∧ Aside0 (Below w.heap.size w w'))
 case atStart => exact ⟨(a0), (0), Gv.rq, Gv.rq, H', ⟨Nat.le_refl _⟩, ⟨Gv.kr HO438.out⟩, ⟨by (with_reducible repeat (first | refine blk_drewN ?_ _ | refine blk_drew ?_ | refine blk_alloc ?_ _)); exact BK414.out⟩, ⟨Gv.bw⟩⟩
 case round =>
  clear H'
  try clear c1
  try clear c2
  try clear p2
  try clear c3
  try clear c4
  try clear c5
  try clear c6
  try clear c7
  try clear c8
  try clear c9
  try clear c10
  try clear c11
  try clear c12
  try clear c13
  obtain ⟨x6_1, x44_1, rfl, rfl, HA, HK1, HO_42, BK414, HB⟩ := hrel
  cases gk with
  | zero => exact absurd HA.out (by simp [impl_hashOf.l0])
  | succ k1 =>
   have H := HA.out
   clear HA
   simp only [impl_hashOf.l0] at H
   by_cases c30 : x44_1 < (t436.length : Int)
   rotate_left
   ·rw [if_neg c30] at H
    have c30b0 : decide (x44_1 < (t436.length : Int)) = false := decide_eq_false c30
    clear c30
    obtain rfl := Option.some.inj H
    go_wp2
    go_ret
    exact ⟨Gv.rt, Gv.bw⟩

   rw [if_pos c30] at H
   have c30b0 : decide (x44_1 < (t436.length : Int)) = true := decide_eq_true c30
   clear c30
   by_cases c31 : 0 ≤ x44_1
   rotate_left
   ·rw [if_neg c31] at H
    exact absurd H (by simp)
   rw [if_pos c31] at H
   have c31b0 : decide (0 ≤ x44_1) = true := decide_eq_true c31
   clear c31
   by_cases c32 : x44_1 < (t436.length : Int)
   ·rw [if_pos c32] at H
    have c32b0 : decide (x44_1 < (t436.length : Int)) = true := decide_eq_true c32
    clear c32
    have H' := Gv.a0 H
    clear H
    have p439 : 0 ≤ (x44_1 : Int) := of_decide_eq_true (by first | (with_reducible assumption) | assumption)
    have q439 : x44_1 < (t436.length : Int) := of_decide_eq_true (by first | (with_reducible assumption) | assumption)
    obtain ⟨ad439, e439, hx439_0⟩ := Kd.at_int (Kd.R_reads' HO_42.out).2.2 x44_1 p439 q439
    cases e439
    replace p439 := eq_true p439
    replace q439 := eq_true q439
    go_wp2
    go_roundg k1
    case measure => have := HK1.out; omega
    case rel => exact ⟨(Int.tmod (wrap64 ((Go.bits .xor .i64 x6_1 (wrap64 (rd t436 x44_1))) * 16777619)) 4294967296), (wrap64 (x44_1 + 1)), Gv.rq, Gv.rq, H', ⟨by have := HK1.out; omega⟩, ⟨Gv.kr HO_42.out⟩, ⟨by (with_reducible repeat (first | refine blk_drewN ?_ _ | refine blk_drew ?_ | refine blk_alloc ?_ _)); exact BK414.out⟩, ⟨Gv.bw⟩⟩
   ·rw [if_neg c32] at H
    exact absurd H (by simp)
/-! ### impl_Table_probe: function 58 -/
def impl_Table_probe.l0 : Nat → Int → Int → Int → Int → Int → List (S75) → Int → Int → Int → Int → Int → Int → Int → Int → Int → Int → Int → Int → Int → Int → Option (Int)
 | 0, _, _, _, _, _, _, _, _, _, _, _, _, _, _, _, _, _, _, _, _ => none
 | k + 1, x5, x6, x18, x19, x441000, x441001, x442000, x442001, x442002, x442003, x442004, x442005, x442006, x442007, x442008, x442009, x442010, x442011, x442012, x442013 => if x19 < x18 then (if x5 = 0 then (none) else (if 0 ≤ (Int.tmod (wrap64 (x6 + x19)) x5) then (if (Int.tmod (wrap64 (x6 + x19)) x5) < (x441001.length : Int) then (if ((rd_T75 x441001 (Int.tmod (wrap64 (x6 + x19)) x5)).f0 = true) then (if (((rd_T75 x441001 (Int.tmod (wrap64 (x6 + x19)) x5)).f1.f0) == x442000 && (((((rd_T75 x441001 (Int.tmod (wrap64 (x6 + x19)) x5)).f1.f1.f0.f0) == x442001 && (((rd_T75 x441001 (Int.tmod (wrap64 (x6 + x19)) x5)).f1.f1.f0.f1) == x442002 && (((rd_T75 x441001 (Int.tmod (wrap64 (x6 + x19)) x5)).f1.f1.f0.f2) == x442003 && (((rd_T75 x441001 (Int.tmod (wrap64 (x6 + x19)) x5)).f1.f1.f0.f3) == x442004 && (((rd_T75 x441001 (Int.tmod (wrap64 (x6 + x19)) x5)).f1.f1.f0.f4) == x442005))))) && ((((rd_T75 x441001 (Int.tmod (wrap64 (x6 + x19)) x5)).f1.f1.f1.f0) == x442006 && (((rd_T75 x441001 (Int.tmod (wrap64 (x6 + x19)) x5)).f1.f1.f1.f1) == x442007 && (((rd_T75 x441001 (Int.tmod (wrap64 (x6 + x19)) x5)).f1.f1.f1.f2) == x442008 && (((rd_T75 x441001 (Int.tmod (wrap64 (x6 + x19)) x5)).f1.f1.f1.f3) == x442009 && (((rd_T75 x441001 (Int.tmod (wrap64 (x6 + x19)) x5)).f1.f1.f1.f4) == x442010))))) && (((rd_T75 x441001 (Int.tmod (wrap64 (x6 + x19)) x5)).f1.f1.f2) == x442011 && (((rd_T75 x441001 (Int.tmod (wrap64 (x6 + x19)) x5)).f1.f1.f3) == x442012 && (((rd_T75 x441001 (Int.tmod (wrap64 (x6 + x19)) x5)).f1.f1.f4) == x442013))))))) = true then (some (Int.tmod (wrap64 (x6 + x19)) x5)) else (impl_Table_probe.l0 k x5 x6 x18 (wrap64 (x19 + 1)) x441000 x441001 x442000 x442001 x442002 x442003 x442004 x442005 x442006 x442007 x442008 x442009 x442010 x442011 x442012 x442013)) else (some (Int.tmod (wrap64 (x6 + x19)) x5))) else (none)) else (none))) else (some (-1))
def impl_Table_probe.f (k : Nat) (a0_0 : Int) (l0_1 : List (S75)) (a1_0 : Int) (a1_1 : Int) (a1_2 : Int) (a1_3 : Int) (a1_4 : Int) (a1_5 : Int) (a1_6 : Int) (a1_7 : Int) (a1_8 : Int) (a1_9 : Int) (a1_10 : Int) (a1_11 : Int) (a1_12 : Int) (a1_13 : Int) : Option (Int) := (impl_hashOf.f k a0_0 a1_0 a1_1 a1_2 a1_3 a1_4 a1_5 a1_6 a1_7 a1_8 a1_9 a1_10 a1_11 a1_12 a1_13).bind fun t442 => (if (l0_1.length : Int) = 0 then (none) else (impl_Table_probe.l0 k (l0_1.length : Int) (Int.tmod t442 (l0_1.length : Int)) (l0_1.length : Int) 0 a0_0 l0_1 a1_0 a1_1 a1_2 a1_3 a1_4 a1_5 a1_6 a1_7 a1_8 a1_9 a1_10 a1_11 a1_12 a1_13))
set_option maxHeartbeats 8000000 in
set_option maxRecDepth 100000 in
theorem impl_Table_probe.calls (k : Nat) (a0_0 : Int) (A0_1 : Option Addr) (c0_1 : Nat) (l0_1 : List (S75)) (a1_0 : Int) (a1_1 : Int) (a1_2 : Int) (a1_3 : Int) (a1_4 : Int) (a1_5 : Int) (a1_6 : Int) (a1_7 : Int) (a1_8 : Int) (a1_9 : Int) (a1_10 : Int) (a1_11 : Int) (a1_12 : Int) (a1_13 : Int) (r : Int) (w : World) (hr0_1 : Kd.C k75 w A0_1 l0_1.length l0_1) (hc0_1 : l0_1.length ≤ c0_1) (h : impl_Table_probe.f k a0_0 l0_1 a1_0 a1_1 a1_2 a1_3 a1_4 a1_5 a1_6 a1_7 a1_8 a1_9 a1_10 a1_11 a1_12 a1_13 = some r) :
  Calls Try.prog 58 #[.agg #[.int .i64 a0_0, .slice A0_1 l0_1.length c0_1], .agg #[.int .i64 a1_0, .int .i64 a1_1, .int .i64 a1_2, .int .i64 a1_3, .int .i64 a1_4, .int .i64 a1_5, .int .i64 a1_6, .int .i64 a1_7, .int .i64 a1_8, .int .i64 a1_9, .int .i64 a1_10, .int .i64 a1_11, .int .i64 a1_12, .int .i64 a1_13]] w fun e w' => e = .returned (.int .i64 r) ∧ Below w.heap.size w w' := by
 have hu40 := Try.underlying40
 have hu33 := Try.underlying33
 have HR0_1 := Gv.a0 hr0_1
 have HC0_1 := Gv.a0 hc0_1
 clear hr0_1 hc0_1
 have HB := Gv.a0 (Below.refl w.heap.size w)
 have H : ((impl_hashOf.f k a0_0 a1_0 a1_1 a1_2 a1_3 a1_4 a1_5 a1_6 a1_7 a1_8 a1_9 a1_10 a1_11 a1_12 a1_13).bind fun t442 => (if (l0_1.length : Int) = 0 then (none) else (impl_Table_probe.l0 k (l0_1.length : Int) (Int.tmod t442 (l0_1.length : Int)) (l0_1.length : Int) 0 a0_0 l0_1 a1_0 a1_1 a1_2 a1_3 a1_4 a1_5 a1_6 a1_7 a1_8 a1_9 a1_10 a1_11 a1_12 a1_13))) = some r := h
 clear h
 replace H := Option.bind_eq_some_iff.mp H
 obtain ⟨t442, A30, H⟩ := H
 (try dsimp only at H)
 have A3 := Gv.a0 A30
 clear A30
 by_cases c4 : (l0_1.length : Int) = 0
 ·rw [if_pos c4] at H
  exact absurd H (by simp)
 ·rw [if_neg c4] at H
  have c4b0 : ((l0_1.length : Int) == 0) = false := beq_eq_false_iff_ne.mpr c4
  have c4b1 : ((l0_1.length : Int) != 0) = true := bne_iff_ne.mpr c4
  have c4b2 : ¬ (l0_1 = []) := fun h_ => c4 (by rw [h_]; rfl)
  have H' := Gv.a0 H
  clear H
  go_enter Try.func58, Try.ntmps58
  go_wp2_with (first | ((with_reducible refine gate_dst (N := 2) rfl ?_); refine Gv.bev 2 40 #[.int .i64 a0_0, .slice A0_1 l0_1.length c0_1] ?_; intro gb440 hg w5 hbox hb; have BK440 := Gv.a0 (hbox); have GW440 := Gv.a0 ((Gv.ble hg Gv.bw : w.heap.size ≤ gb440)); have GE440 := Gv.a0 ((Gv.ble hg Gv.bw : w.heap.size ≤ gb440)); replace HB := Gv.a0 (below_step Gv.bw hb); clear hb hbox hg) | ((with_reducible refine gate_dst (N := 3) rfl ?_); refine Gv.bev 3 33 #[.int .i64 a1_0, .int .i64 a1_1, .int .i64 a1_2, .int .i64 a1_3, .int .i64 a1_4, .int .i64 a1_5, .int .i64 a1_6, .int .i64 a1_7, .int .i64 a1_8, .int .i64 a1_9, .int .i64 a1_10, .int .i64 a1_11, .int .i64 a1_12, .int .i64 a1_13] ?_; intro gb441 hg w6 hbox hb; have BK441 := Gv.a0 (hbox); have GW441 := Gv.a0 ((Gv.ble hg Gv.bw : w.heap.size ≤ gb441)); have GE441 := Gv.a0 ((Gv.ble hg Gv.bw : w.heap.size ≤ gb441)); replace HB := Gv.a0 (below_step Gv.bw hb); have NB440_441 := Gv.a0 ((Gv.nlt hg (Gv.kb BK440.out) : gb440 ≠ gb441)); have NB441_440 := Gv.a0 ((Gv.ngt hg (Gv.kb BK440.out) : gb441 ≠ gb440)); replace BK440 := Gv.b1 BK440 hb; clear hb hbox hg; have hnb7 := NB440_441.out; have hnc7 := NB441_440.out; have hcz8_0 : w6.cell? ⟨gb440, 0, none⟩ = some (.int .i64 a0_0) := (blk_cell BK440.out 0).trans rfl; have hcz8_1 : w6.cell? ⟨gb440, 1, none⟩ = some (.slice A0_1 l0_1.length c0_1) := (blk_cell BK440.out 1).trans rfl; have hfz8_0 := blk_frozen BK440.out 0; have hfz8_1 := blk_frozen BK440.out 1; obtain ⟨hcz9_0, hcz9_1, hcz9_2, hcz9_3, hcz9_4, hcz9_5, hcz9_6, hcz9_7, hcz9_8, hcz9_9, hcz9_10, hcz9_11, hcz9_12, hcz9_13⟩ := Gv.c14 BK441.out; obtain ⟨hfz9_0, hfz9_1, hfz9_2, hfz9_3, hfz9_4, hfz9_5, hfz9_6, hfz9_7, hfz9_8, hfz9_9, hfz9_10, hfz9_11, hfz9_12, hfz9_13⟩ := Gv.f14 BK441.out) | (go_at_call 47; (with_reducible refine (impl_hashOf.calls k a0_0 a1_0 a1_1 a1_2 a1_3 a1_4 a1_5 a1_6 a1_7 a1_8 a1_9 a1_10 a1_11 a1_12 a1_13 t442 _ A3.out).mono ?_); rintro e w10 ⟨rfl, hb⟩; replace BK440 := Gv.b1 BK440 hb; replace BK441 := Gv.b1 BK441 hb; replace HB := Gv.a0 (below_step Gv.bw hb); clear hb))
  repeat (go_quiet (first | ((with_reducible refine gate_dst (N := 2) rfl ?_); refine Gv.bev 2 40 #[.int .i64 a0_0, .slice A0_1 l0_1.length c0_1] ?_; intro gb440 hg w5 hbox hb; have BK440 := Gv.a0 (hbox); have GW440 := Gv.a0 ((Gv.ble hg Gv.bw : w.heap.size ≤ gb440)); have GE440 := Gv.a0 ((Gv.ble hg Gv.bw : w.heap.size ≤ gb440)); replace HB := Gv.a0 (below_step Gv.bw hb); clear hb hbox hg) | ((with_reducible refine gate_dst (N := 3) rfl ?_); refine Gv.bev 3 33 #[.int .i64 a1_0, .int .i64 a1_1, .int .i64 a1_2, .int .i64 a1_3, .int .i64 a1_4, .int .i64 a1_5, .int .i64 a1_6, .int .i64 a1_7, .int .i64 a1_8, .int .i64 a1_9, .int .i64 a1_10, .int .i64 a1_11, .int .i64 a1_12, .int .i64 a1_13] ?_; intro gb441 hg w6 hbox hb; have BK441 := Gv.a0 (hbox); have GW441 := Gv.a0 ((Gv.ble hg Gv.bw : w.heap.size ≤ gb441)); have GE441 := Gv.a0 ((Gv.ble hg Gv.bw : w.heap.size ≤ gb441)); replace HB := Gv.a0 (below_step Gv.bw hb); have NB440_441 := Gv.a0 ((Gv.nlt hg (Gv.kb BK440.out) : gb440 ≠ gb441)); have NB441_440 := Gv.a0 ((Gv.ngt hg (Gv.kb BK440.out) : gb441 ≠ gb440)); replace BK440 := Gv.b1 BK440 hb; clear hb hbox hg; have hnb7 := NB440_441.out; have hnc7 := NB441_440.out; have hcz8_0 : w6.cell? ⟨gb440, 0, none⟩ = some (.int .i64 a0_0) := (blk_cell BK440.out 0).trans rfl; have hcz8_1 : w6.cell? ⟨gb440, 1, none⟩ = some (.slice A0_1 l0_1.length c0_1) := (blk_cell BK440.out 1).trans rfl; have hfz8_0 := blk_frozen BK440.out 0; have hfz8_1 := blk_frozen BK440.out 1; obtain ⟨hcz9_0, hcz9_1, hcz9_2, hcz9_3, hcz9_4, hcz9_5, hcz9_6, hcz9_7, hcz9_8, hcz9_9, hcz9_10, hcz9_11, hcz9_12, hcz9_13⟩ := Gv.c14 BK441.out; obtain ⟨hfz9_0, hfz9_1, hfz9_2, hfz9_3, hfz9_4, hfz9_5, hfz9_6, hfz9_7, hfz9_8, hfz9_9, hfz9_10, hfz9_11, hfz9_12, hfz9_13⟩ := Gv.f14 BK441.out) | (go_at_call 47; (with_reducible refine (impl_hashOf.calls k a0_0 a1_0 a1_1 a1_2 a1_3 a1_4 a1_5 a1_6 a1_7 a1_8 a1_9 a1_10 a1_11 a1_12 a1_13 t442 _ A3.out).mono ?_); rintro e w10 ⟨rfl, hb⟩; replace BK440 := Gv.b1 BK440 hb; replace BK441 := Gv.b1 BK441 hb; replace HB := Gv.a0 (below_step Gv.bw hb); clear hb)); try go_wp2_with (first | ((with_reducible refine gate_dst (N := 2) rfl ?_); refine Gv.bev 2 40 #[.int .i64 a0_0, .slice A0_1 l0_1.length c0_1] ?_; intro gb440 hg w5 hbox hb; have BK440 := Gv.a0 (hbox); have GW440 := Gv.a0 ((Gv.ble hg Gv.bw : w.heap.size ≤ gb440)); have GE440 := Gv.a0 ((Gv.ble hg Gv.bw : w.heap.size ≤ gb440)); replace HB := Gv.a0 (below_step Gv.bw hb); clear hb hbox hg) | ((with_reducible refine gate_dst (N := 3) rfl ?_); refine Gv.bev 3 33 #[.int .i64 a1_0, .int .i64 a1_1, .int .i64 a1_2, .int .i64 a1_3, .int .i64 a1_4, .int .i64 a1_5, .int .i64 a1_6, .int .i64 a1_7, .int .i64 a1_8, .int .i64 a1_9, .int .i64 a1_10, .int .i64 a1_11, .int .i64 a1_12, .int .i64 a1_13] ?_; intro gb441 hg w6 hbox hb; have BK441 := Gv.a0 (hbox); have GW441 := Gv.a0 ((Gv.ble hg Gv.bw : w.heap.size ≤ gb441)); have GE441 := Gv.a0 ((Gv.ble hg Gv.bw : w.heap.size ≤ gb441)); replace HB := Gv.a0 (below_step Gv.bw hb); have NB440_441 := Gv.a0 ((Gv.nlt hg (Gv.kb BK440.out) : gb440 ≠ gb441)); have NB441_440 := Gv.a0 ((Gv.ngt hg (Gv.kb BK440.out) : gb441 ≠ gb440)); replace BK440 := Gv.b1 BK440 hb; clear hb hbox hg; have hnb7 := NB440_441.out; have hnc7 := NB441_440.out; have hcz8_0 : w6.cell? ⟨gb440, 0, none⟩ = some (.int .i64 a0_0) := (blk_cell BK440.out 0).trans rfl; have hcz8_1 : w6.cell? ⟨gb440, 1, none⟩ = some (.slice A0_1 l0_1.length c0_1) := (blk_cell BK440.out 1).trans rfl; have hfz8_0 := blk_frozen BK440.out 0; have hfz8_1 := blk_frozen BK440.out 1; obtain ⟨hcz9_0, hcz9_1, hcz9_2, hcz9_3, hcz9_4, hcz9_5, hcz9_6, hcz9_7, hcz9_8, hcz9_9, hcz9_10, hcz9_11, hcz9_12, hcz9_13⟩ := Gv.c14 BK441.out; obtain ⟨hfz9_0, hfz9_1, hfz9_2, hfz9_3, hfz9_4, hfz9_5, hfz9_6, hfz9_7, hfz9_8, hfz9_9, hfz9_10, hfz9_11, hfz9_12, hfz9_13⟩ := Gv.f14 BK441.out) | (go_at_call 47; (with_reducible refine (impl_hashOf.calls k a0_0 a1_0 a1_1 a1_2 a1_3 a1_4 a1_5 a1_6 a1_7 a1_8 a1_9 a1_10 a1_11 a1_12 a1_13 t442 _ A3.out).mono ?_); rintro e w10 ⟨rfl, hb⟩; replace BK440 := Gv.b1 BK440 hb; replace BK441 := Gv.b1 BK441 hb; replace HB := Gv.a0 (below_step Gv.bw hb); clear hb)))
  go_loopg [19] k (fun kq v19 w' => ∃ (x19_1 : Int), v19 = .int .i64 x19_1 ∧ Aside0 (impl_Table_probe.l0 kq (l0_1.length : Int) (Int.tmod t442 (l0_1.length : Int)) (l0_1.length : Int) x19_1 a0_0 l0_1 a1_0 a1_1 a1_2 a1_3 a1_4 a1_5 a1_6 a1_7 a1_8 a1_9 a1_10 a1_11 a1_12 a1_13 = some r) ∧ Aside0 (kq ≤ k) ∧ Aside0 (w'.heap[gb440]? = some (.cells #[.int .i64 a0_0, (.slice A0_1 l0_1.length c0_1)] 40 (0, 0))) ∧ Aside0 (w'.heap[gb441]? = some (.cells #[.int .i64 a1_0, .int .i64 a1_1, .int .i64 a1_2, .int .i64 a1_3, .int .i64 a1_4, .int .i64 a1_5, .int .i64 a1_6, .int .i64 a1_7, .int .i64 a1_8, .int .i64 a1_9, .int .i64 a1_10, .int .i64 a1_11, .int .i64 a1_12, .int .i64 a1_13] 33 (0, 0))) ∧ Aside0 (Below w.heap.size w w'))
  case atStart => exact ⟨(0), Gv.rq, H', ⟨Nat.le_refl _⟩, ⟨by (with_reducible repeat (first | refine blk_drewN ?_ _ | refine blk_drew ?_ | refine blk_alloc ?_ _)); exact BK440.out⟩, ⟨by (with_reducible repeat (first | refine blk_drewN ?_ _ | refine blk_drew ?_ | refine blk_alloc ?_ _)); exact BK441.out⟩, ⟨Gv.bw⟩⟩
  case round =>
   clear H'
   try clear p2
   try clear c4
   try clear c4b0
   try clear c4b1
   try clear c4b2
   try clear c5
   try clear c7
   try clear hcz8_0 hcz8_1
   try clear hcz9_0 hcz9_1
   try clear hcz9_10 hcz9_11 hcz9_12 hcz9_13
   try clear hcz9_2 hcz9_3 hcz9_4 hcz9_5 hcz9_6 hcz9_7 hcz9_8 hcz9_9
   try clear hfz8_0 hfz8_1
   try clear hfz9_0 hfz9_1
   try clear hfz9_10 hfz9_11 hfz9_12 hfz9_13
   try clear hfz9_2 hfz9_3 hfz9_4 hfz9_5 hfz9_6 hfz9_7 hfz9_8 hfz9_9
   obtain ⟨x19_1, rfl, HA, HK1, BK440, BK441, HB⟩ := hrel
   cases gk with
   | zero => exact absurd HA.out (by simp [impl_Table_probe.l0])
   | succ k1 =>
    have H := HA.out
    clear HA
    simp only [impl_Table_probe.l0] at H
    by_cases c11 : x19_1 < (l0_1.length : Int)
    rotate_left
    ·rw [if_neg c11] at H
     have c11b0 : decide (x19_1 < (l0_1.length : Int)) = false := decide_eq_false c11
     clear c11
     obtain rfl := Option.some.inj H
     go_wp2
     repeat (go_quiet (fail); try go_wp2)
     go_ret
     exact ⟨Gv.rt, Gv.bw⟩

    rw [if_pos c11] at H
    have c11b0 : decide (x19_1 < (l0_1.length : Int)) = true := decide_eq_true c11
    clear c11
    by_cases c12 : (l0_1.length : Int) = 0
    ·rw [if_pos c12] at H
     exact absurd H (by simp)
    ·rw [if_neg c12] at H
     have c12b0 : ((l0_1.length : Int) == 0) = false := beq_eq_false_iff_ne.mpr c12
     have c12b1 : ((l0_1.length : Int) != 0) = true := bne_iff_ne.mpr c12
     have c12b2 : ¬ (l0_1 = []) := fun h_ => c12 (by rw [h_]; rfl)
     obtain ⟨ji13, hji13⟩ : ∃ j_ : Int, (Int.tmod (wrap64 ((Int.tmod t442 (l0_1.length : Int)) + x19_1)) (l0_1.length : Int)) = j_ := ⟨_, rfl⟩
     replace H : (if 0 ≤ (ji13) then (if (ji13) < (l0_1.length : Int) then (if ((rd_T75 l0_1 (ji13)).f0 = true) then (if (((rd_T75 l0_1 (ji13)).f1.f0) == a1_0 && (((((rd_T75 l0_1 (ji13)).f1.f1.f0.f0) == a1_1 && (((rd_T75 l0_1 (ji13)).f1.f1.f0.f1) == a1_2 && (((rd_T75 l0_1 (ji13)).f1.f1.f0.f2) == a1_3 && (((rd_T75 l0_1 (ji13)).f1.f1.f0.f3) == a1_4 && (((rd_T75 l0_1 (ji13)).f1.f1.f0.f4) == a1_5))))) && ((((rd_T75 l0_1 (ji13)).f1.f1.f1.f0) == a1_6 && (((rd_T75 l0_1 (ji13)).f1.f1.f1.f1) == a1_7 && (((rd_T75 l0_1 (ji13)).f1.f1.f1.f2) == a1_8 && (((rd_T75 l0_1 (ji13)).f1.f1.f1.f3) == a1_9 && (((rd_T75 l0_1 (ji13)).f1.f1.f1.f4) == a1_10))))) && (((rd_T75 l0_1 (ji13)).f1.f1.f2) == a1_11 && (((rd_T75 l0_1 (ji13)).f1.f1.f3) == a1_12 && (((rd_T75 l0_1 (ji13)).f1.f1.f4) == a1_13))))))) = true then (some ji13) else (impl_Table_probe.l0 k1 (l0_1.length : Int) (Int.tmod t442 (l0_1.length : Int)) (l0_1.length : Int) (wrap64 (x19_1 + 1)) a0_0 l0_1 a1_0 a1_1 a1_2 a1_3 a1_4 a1_5 a1_6 a1_7 a1_8 a1_9 a1_10 a1_11 a1_12 a1_13)) else (some ji13)) else (none)) else (none)) = some r := by first | (rw [hji13] at H; exact H) | (simp only [hji13] at H ⊢; exact H)
     by_cases c14 : 0 ≤ (ji13)
     rotate_left
     ·rw [if_neg c14] at H
      exact absurd H (by simp)
     rw [if_pos c14] at H
     have c14b0 : decide (0 ≤ (ji13)) = true := decide_eq_true c14
     clear c14
     by_cases c15 : (ji13) < (l0_1.length : Int)
     rotate_left
     ·rw [if_neg c15] at H
      exact absurd H (by simp)
     rw [if_pos c15] at H
     have c15b0 : decide ((ji13) < (l0_1.length : Int)) = true := decide_eq_true c15
     clear c15
     obtain ⟨bq16, hbq16⟩ : ∃ b_ : Bool, b_ = ((rd_T75 l0_1 (ji13)).f0) := ⟨_, rfl⟩
     replace H : (if (bq16 = true) then (if (((rd_T75 l0_1 (ji13)).f1.f0) == a1_0 && (((((rd_T75 l0_1 (ji13)).f1.f1.f0.f0) == a1_1 && (((rd_T75 l0_1 (ji13)).f1.f1.f0.f1) == a1_2 && (((rd_T75 l0_1 (ji13)).f1.f1.f0.f2) == a1_3 && (((rd_T75 l0_1 (ji13)).f1.f1.f0.f3) == a1_4 && (((rd_T75 l0_1 (ji13)).f1.f1.f0.f4) == a1_5))))) && ((((rd_T75 l0_1 (ji13)).f1.f1.f1.f0) == a1_6 && (((rd_T75 l0_1 (ji13)).f1.f1.f1.f1) == a1_7 && (((rd_T75 l0_1 (ji13)).f1.f1.f1.f2) == a1_8 && (((rd_T75 l0_1 (ji13)).f1.f1.f1.f3) == a1_9 && (((rd_T75 l0_1 (ji13)).f1.f1.f1.f4) == a1_10))))) && (((rd_T75 l0_1 (ji13)).f1.f1.f2) == a1_11 && (((rd_T75 l0_1 (ji13)).f1.f1.f3) == a1_12 && (((rd_T75 l0_1 (ji13)).f1.f1.f4) == a1_13))))))) = true then (some ji13) else (impl_Table_probe.l0 k1 (l0_1.length : Int) (Int.tmod t442 (l0_1.length : Int)) (l0_1.length : Int) (wrap64 (x19_1 + 1)) a0_0 l0_1 a1_0 a1_1 a1_2 a1_3 a1_4 a1_5 a1_6 a1_7 a1_8 a1_9 a1_10 a1_11 a1_12 a1_13)) else (some ji13)) = some r := by rw [← hbq16] at H; exact H
     have Nbq16 := Gv.a0 hbq16
     clear hbq16
     by_cases c17 : (bq16 = true)
     ·subst c17
      rw [if_pos rfl] at H
      (try simp only [Bool.false_or, Bool.true_and] at H)
      by_cases c18 : (((rd_T75 l0_1 (ji13)).f1.f0) == a1_0 && (((((rd_T75 l0_1 (ji13)).f1.f1.f0.f0) == a1_1 && (((rd_T75 l0_1 (ji13)).f1.f1.f0.f1) == a1_2 && (((rd_T75 l0_1 (ji13)).f1.f1.f0.f2) == a1_3 && (((rd_T75 l0_1 (ji13)).f1.f1.f0.f3) == a1_4 && (((rd_T75 l0_1 (ji13)).f1.f1.f0.f4) == a1_5))))) && ((((rd_T75 l0_1 (ji13)).f1.f1.f1.f0) == a1_6 && (((rd_T75 l0_1 (ji13)).f1.f1.f1.f1) == a1_7 && (((rd_T75 l0_1 (ji13)).f1.f1.f1.f2) == a1_8 && (((rd_T75 l0_1 (ji13)).f1.f1.f1.f3) == a1_9 && (((rd_T75 l0_1 (ji13)).f1.f1.f1.f4) == a1_10))))) && (((rd_T75 l0_1 (ji13)).f1.f1.f2) == a1_11 && (((rd_T75 l0_1 (ji13)).f1.f1.f3) == a1_12 && (((rd_T75 l0_1 (ji13)).f1.f1.f4) == a1_13))))))) = true
      ·rw [if_pos c18] at H
       have c18b0 : (((rd_T75 l0_1 (ji13)).f1.f0) == a1_0 && (((((rd_T75 l0_1 (ji13)).f1.f1.f0.f0) == a1_1 && (((rd_T75 l0_1 (ji13)).f1.f1.f0.f1) == a1_2 && (((rd_T75 l0_1 (ji13)).f1.f1.f0.f2) == a1_3 && (((rd_T75 l0_1 (ji13)).f1.f1.f0.f3) == a1_4 && (((rd_T75 l0_1 (ji13)).f1.f1.f0.f4) == a1_5))))) && ((((rd_T75 l0_1 (ji13)).f1.f1.f1.f0) == a1_6 && (((rd_T75 l0_1 (ji13)).f1.f1.f1.f1) == a1_7 && (((rd_T75 l0_1 (ji13)).f1.f1.f1.f2) == a1_8 && (((rd_T75 l0_1 (ji13)).f1.f1.f1.f3) == a1_9 && (((rd_T75 l0_1 (ji13)).f1.f1.f1.f4) == a1_10))))) && (((rd_T75 l0_1 (ji13)).f1.f1.f2) == a1_11 && (((rd_T75 l0_1 (ji13)).f1.f1.f3) == a1_12 && (((rd_T75 l0_1 (ji13)).f1.f1.f4) == a1_13))))))) = true := c18
       (try (have c18b1 : decide (((rd_T75 l0_1 (ji13)).f1.f0) = a1_0 && (((((rd_T75 l0_1 (ji13)).f1.f1.f0.f0) == a1_1 && (((rd_T75 l0_1 (ji13)).f1.f1.f0.f1) == a1_2 && (((rd_T75 l0_1 (ji13)).f1.f1.f0.f2) == a1_3 && (((rd_T75 l0_1 (ji13)).f1.f1.f0.f3) == a1_4 && (((rd_T75 l0_1 (ji13)).f1.f1.f0.f4) == a1_5))))) && ((((rd_T75 l0_1 (ji13)).f1.f1.f1.f0) == a1_6 && (((rd_T75 l0_1 (ji13)).f1.f1.f1.f1) == a1_7 && (((rd_T75 l0_1 (ji13)).f1.f1.f1.f2) == a1_8 && (((rd_T75 l0_1 (ji13)).f1.f1.f1.f3) == a1_9 && (((rd_T75 l0_1 (ji13)).f1.f1.f1.f4) == a1_10))))) && (((rd_T75 l0_1 (ji13)).f1.f1.f2) == a1_11 && (((rd_T75 l0_1 (ji13)).f1.f1.f3) == a1_12 && (((rd_T75 l0_1 (ji13)).f1.f1.f4) == a1_13))))))) = true := by simpa using c18))
       (try (have c18b2 : (((rd_T75 l0_1 (ji13)).f1.f0) == a1_0 && (((((rd_T75 l0_1 (ji13)).f1.f1.f0.f0) == a1_1 && (((rd_T75 l0_1 (ji13)).f1.f1.f0.f1) == a1_2 && (((rd_T75 l0_1 (ji13)).f1.f1.f0.f2) == a1_3 && (((rd_T75 l0_1 (ji13)).f1.f1.f0.f3) == a1_4 && (((rd_T75 l0_1 (ji13)).f1.f1.f0.f4) == a1_5))))) && ((((rd_T75 l0_1 (ji13)).f1.f1.f1.f0) == a1_6 && (((rd_T75 l0_1 (ji13)).f1.f1.f1.f1) == a1_7 && (((rd_T75 l0_1 (ji13)).f1.f1.f1.f2) == a1_8 && (((rd_T75 l0_1 (ji13)).f1.f1.f1.f3) == a1_9 && (((rd_T75 l0_1 (ji13)).f1.f1.f1.f4) == a1_10))))) && (((rd_T75 l0_1 (ji13)).f1.f1.f2) == a1_11 && (((rd_T75 l0_1 (ji13)).f1.f1.f3) == a1_12 && (((rd_T75 l0_1 (ji13)).f1.f1.f4) == a1_13))))))) = true := by simpa using c18))
       clear c18
       obtain rfl := Option.some.inj H
       have hnb19 := NB440_441.out
       have hnc19 := NB441_440.out
       have hcz20_0 : wr.cell? ⟨gb440, 0, none⟩ = some (.int .i64 a0_0) := (blk_cell BK440.out 0).trans rfl
       have hcz20_1 : wr.cell? ⟨gb440, 1, none⟩ = some (.slice A0_1 l0_1.length c0_1) := (blk_cell BK440.out 1).trans rfl
       have hfz20_0 := blk_frozen BK440.out 0
       have hfz20_1 := blk_frozen BK440.out 1
       have p443 : 0 ≤ ((ji13) : Int) := of_decide_eq_true (by first | (with_reducible assumption) | assumption)
       have q443 : (ji13) < (l0_1.length : Int) := of_decide_eq_true (by first | (with_reducible assumption) | assumption)
       obtain ⟨ad443, e443, hx443_0, _, _, _, _, _, _, _, _, _, _, _, _, _, _, _⟩ := at_T75 HR0_1.out (ji13) p443 q443
       (try rw [← Nbq16.out] at hx443_0)
       cases e443
       replace hx443_0 := Gv.bx HB.out hx443_0
       replace p443 := eq_true p443
       replace q443 := eq_true q443
       have p444 : 0 ≤ ((ji13) : Int) := of_decide_eq_true (by first | (with_reducible assumption) | assumption)
       have q444 : (ji13) < (l0_1.length : Int) := of_decide_eq_true (by first | (with_reducible assumption) | assumption)
       obtain ⟨ad444, e444, hx444_0, hx444_1, hx444_2, hx444_3, hx444_4, hx444_5, hx444_6, hx444_7, hx444_8, hx444_9, hx444_10, hx444_11, hx444_12, hx444_13, hx444_14, _⟩ := at_T75 HR0_1.out (ji13) p444 q444
       (try rw [← Nbq16.out] at hx444_0)
       obtain rfl : ad443 = ad444 := (by injection e444)
       replace hx444_0 := Gv.bx HB.out hx444_0
       replace hx444_1 := Gv.bx HB.out hx444_1
       replace hx444_2 := Gv.bx HB.out hx444_2
       replace hx444_3 := Gv.bx HB.out hx444_3
       replace hx444_4 := Gv.bx HB.out hx444_4
       replace hx444_5 := Gv.bx HB.out hx444_5
       replace hx444_6 := Gv.bx HB.out hx444_6
       replace hx444_7 := Gv.bx HB.out hx444_7
       replace hx444_8 := Gv.bx HB.out hx444_8
       replace hx444_9 := Gv.bx HB.out hx444_9
       replace hx444_10 := Gv.bx HB.out hx444_10
       replace hx444_11 := Gv.bx HB.out hx444_11
       replace hx444_12 := Gv.bx HB.out hx444_12
       replace hx444_13 := Gv.bx HB.out hx444_13
       replace hx444_14 := Gv.bx HB.out hx444_14
       replace p444 := eq_true p444
       replace q444 := eq_true q444
       obtain ⟨hcz21_0, hcz21_1, hcz21_2, hcz21_3, hcz21_4, hcz21_5, hcz21_6, hcz21_7, hcz21_8, hcz21_9, hcz21_10, hcz21_11, hcz21_12, hcz21_13⟩ := Gv.c14 BK441.out
       obtain ⟨hfz21_0, hfz21_1, hfz21_2, hfz21_3, hfz21_4, hfz21_5, hfz21_6, hfz21_7, hfz21_8, hfz21_9, hfz21_10, hfz21_11, hfz21_12, hfz21_13⟩ := Gv.f14 BK441.out
       go_wp2
       repeat (go_quiet (fail); try go_wp2)
       go_ret
       exact ⟨by first | rfl | (simp [errW_none, errW_some] <;> rfl) | (simp only [← hji13]; first | rfl | (simp [errW_none, errW_some] <;> rfl)) | (simp [*, errW_none, errW_some] <;> rfl), Gv.bw⟩
      ·rw [if_neg c18] at H
       have c18b0 : (((rd_T75 l0_1 (ji13)).f1.f0) == a1_0 && (((((rd_T75 l0_1 (ji13)).f1.f1.f0.f0) == a1_1 && (((rd_T75 l0_1 (ji13)).f1.f1.f0.f1) == a1_2 && (((rd_T75 l0_1 (ji13)).f1.f1.f0.f2) == a1_3 && (((rd_T75 l0_1 (ji13)).f1.f1.f0.f3) == a1_4 && (((rd_T75 l0_1 (ji13)).f1.f1.f0.f4) == a1_5))))) && ((((rd_T75 l0_1 (ji13)).f1.f1.f1.f0) == a1_6 && (((rd_T75 l0_1 (ji13)).f1.f1.f1.f1) == a1_7 && (((rd_T75 l0_1 (ji13)).f1.f1.f1.f2) == a1_8 && (((rd_T75 l0_1 (ji13)).f1.f1.f1.f3) == a1_9 && (((rd_T75 l0_1 (ji13)).f1.f1.f1.f4) == a1_10))))) && (((rd_T75 l0_1 (ji13)).f1.f1.f2) == a1_11 && (((rd_T75 l0_1 (ji13)).f1.f1.f3) == a1_12 && (((rd_T75 l0_1 (ji13)).f1.f1.f4) == a1_13))))))) = false := by simpa using c18
       (try (have c18b1 : decide (((rd_T75 l0_1 (ji13)).f1.f0) = a1_0 && (((((rd_T75 l0_1 (ji13)).f1.f1.f0.f0) == a1_1 && (((rd_T75 l0_1 (ji13)).f1.f1.f0.f1) == a1_2 && (((rd_T75 l0_1 (ji13)).f1.f1.f0.f2) == a1_3 && (((rd_T75 l0_1 (ji13)).f1.f1.f0.f3) == a1_4 && (((rd_T75 l0_1 (ji13)).f1.f1.f0.f4) == a1_5))))) && ((((rd_T75 l0_1 (ji13)).f1.f1.f1.f0) == a1_6 && (((rd_T75 l0_1 (ji13)).f1.f1.f1.f1) == a1_7 && (((rd_T75 l0_1 (ji13)).f1.f1.f1.f2) == a1_8 && (((rd_T75 l0_1 (ji13)).f1.f1.f1.f3) == a1_9 && (((rd_T75 l0_1 (ji13)).f1.f1.f1.f4) == a1_10))))) && (((rd_T75 l0_1 (ji13)).f1.f1.f2) == a1_11 && (((rd_T75 l0_1 (ji13)).f1.f1.f3) == a1_12 && (((rd_T75 l0_1 (ji13)).f1.f1.f4) == a1_13))))))) = false := by simpa using c18))
       (try (have c18b2 : (((rd_T75 l0_1 (ji13)).f1.f0) == a1_0 && (((((rd_T75 l0_1 (ji13)).f1.f1.f0.f0) == a1_1 && (((rd_T75 l0_1 (ji13)).f1.f1.f0.f1) == a1_2 && (((rd_T75 l0_1 (ji13)).f1.f1.f0.f2) == a1_3 && (((rd_T75 l0_1 (ji13)).f1.f1.f0.f3) == a1_4 && (((rd_T75 l0_1 (ji13)).f1.f1.f0.f4) == a1_5))))) && ((((rd_T75 l0_1 (ji13)).f1.f1.f1.f0) == a1_6 && (((rd_T75 l0_1 (ji13)).f1.f1.f1.f1) == a1_7 && (((rd_T75 l0_1 (ji13)).f1.f1.f1.f2) == a1_8 && (((rd_T75 l0_1 (ji13)).f1.f1.f1.f3) == a1_9 && (((rd_T75 l0_1 (ji13)).f1.f1.f1.f4) == a1_10))))) && (((rd_T75 l0_1 (ji13)).f1.f1.f2) == a1_11 && (((rd_T75 l0_1 (ji13)).f1.f1.f3) == a1_12 && (((rd_T75 l0_1 (ji13)).f1.f1.f4) == a1_13))))))) = false := by simpa using c18))
       (try (have c18b3 : ¬ (((rd_T75 l0_1 (ji13)).f1.f0) = a1_0 && (((((rd_T75 l0_1 (ji13)).f1.f1.f0.f0) == a1_1 && (((rd_T75 l0_1 (ji13)).f1.f1.f0.f1) == a1_2 && (((rd_T75 l0_1 (ji13)).f1.f1.f0.f2) == a1_3 && (((rd_T75 l0_1 (ji13)).f1.f1.f0.f3) == a1_4 && (((rd_T75 l0_1 (ji13)).f1.f1.f0.f4) == a1_5))))) && ((((rd_T75 l0_1 (ji13)).f1.f1.f1.f0) == a1_6 && (((rd_T75 l0_1 (ji13)).f1.f1.f1.f1) == a1_7 && (((rd_T75 l0_1 (ji13)).f1.f1.f1.f2) == a1_8 && (((rd_T75 l0_1 (ji13)).f1.f1.f1.f3) == a1_9 && (((rd_T75 l0_1 (ji13)).f1.f1.f1.f4) == a1_10))))) && (((rd_T75 l0_1 (ji13)).f1.f1.f2) == a1_11 && (((rd_T75 l0_1 (ji13)).f1.f1.f3) == a1_12 && (((rd_T75 l0_1 (ji13)).f1.f1.f4) == a1_13))))))) := by simpa using c18))
       clear c18
       have H' := Gv.a0 H
       clear H
       have hnb22 := NB440_441.out
       have hnc22 := NB441_440.out
       have hcz23_0 : wr.cell? ⟨gb440, 0, none⟩ = some (.int .i64 a0_0) := (blk_cell BK440.out 0).trans rfl
       have hcz23_1 : wr.cell? ⟨gb440, 1, none⟩ = some (.slice A0_1 l0_1.length c0_1) := (blk_cell BK440.out 1).trans rfl
       have hfz23_0 := blk_frozen BK440.out 0
       have hfz23_1 := blk_frozen BK440.out 1
       have p443 : 0 ≤ ((ji13) : Int) := of_decide_eq_true (by first | (with_reducible assumption) | assumption)
       have q443 : (ji13) < (l0_1.length : Int) := of_decide_eq_true (by first | (with_reducible assumption) | assumption)
       obtain ⟨ad443, e443, hx443_0, _, _, _, _, _, _, _, _, _, _, _, _, _, _, _⟩ := at_T75 HR0_1.out (ji13) p443 q443
       (try rw [← Nbq16.out] at hx443_0)
       cases e443
       replace hx443_0 := Gv.bx HB.out hx443_0
       replace p443 := eq_true p443
       replace q443 := eq_true q443
       have p444 : 0 ≤ ((ji13) : Int) := of_decide_eq_true (by first | (with_reducible assumption) | assumption)
       have q444 : (ji13) < (l0_1.length : Int) := of_decide_eq_true (by first | (with_reducible assumption) | assumption)
       obtain ⟨ad444, e444, hx444_0, hx444_1, hx444_2, hx444_3, hx444_4, hx444_5, hx444_6, hx444_7, hx444_8, hx444_9, hx444_10, hx444_11, hx444_12, hx444_13, hx444_14, _⟩ := at_T75 HR0_1.out (ji13) p444 q444
       (try rw [← Nbq16.out] at hx444_0)
       obtain rfl : ad443 = ad444 := (by injection e444)
       replace hx444_0 := Gv.bx HB.out hx444_0
       replace hx444_1 := Gv.bx HB.out hx444_1
       replace hx444_2 := Gv.bx HB.out hx444_2
       replace hx444_3 := Gv.bx HB.out hx444_3
       replace hx444_4 := Gv.bx HB.out hx444_4
       replace hx444_5 := Gv.bx HB.out hx444_5
       replace hx444_6 := Gv.bx HB.out hx444_6
       replace hx444_7 := Gv.bx HB.out hx444_7
       replace hx444_8 := Gv.bx HB.out hx444_8
       replace hx444_9 := Gv.bx HB.out hx444_9
       replace hx444_10 := Gv.bx HB.out hx444_10
       replace hx444_11 := Gv.bx HB.out hx444_11
       replace hx444_12 := Gv.bx HB.out hx444_12
       replace hx444_13 := Gv.bx HB.out hx444_13
       replace hx444_14 := Gv.bx HB.out hx444_14
       replace p444 := eq_true p444
       replace q444 := eq_true q444
       obtain ⟨hcz24_0, hcz24_1, hcz24_2, hcz24_3, hcz24_4, hcz24_5, hcz24_6, hcz24_7, hcz24_8, hcz24_9, hcz24_10, hcz24_11, hcz24_12, hcz24_13⟩ := Gv.c14 BK441.out
       obtain ⟨hfz24_0, hfz24_1, hfz24_2, hfz24_3, hfz24_4, hfz24_5, hfz24_6, hfz24_7, hfz24_8, hfz24_9, hfz24_10, hfz24_11, hfz24_12, hfz24_13⟩ := Gv.f14 BK441.out
       go_wp2
       repeat (go_quiet (fail); try go_wp2)
       go_roundg k1
       case measure => have := HK1.out; omega
       case rel => exact ⟨(wrap64 (x19_1 + 1)), Gv.rq, H', ⟨by have := HK1.out; omega⟩, ⟨by (with_reducible repeat (first | refine blk_drewN ?_ _ | refine blk_drew ?_ | refine blk_alloc ?_ _)); exact BK440.out⟩, ⟨by (with_reducible repeat (first | refine blk_drewN ?_ _ | refine blk_drew ?_ | refine blk_alloc ?_ _)); exact BK441.out⟩, ⟨Gv.bw⟩⟩
     ·replace c17 := Bool.eq_false_iff.mpr c17
      subst c17
      rw [if_neg (show ¬ (false = true) by decide)] at H
      (try dsimp only at H)
      obtain rfl := Option.some.inj H
      have hnb25 := NB440_441.out
      have hnc25 := NB441_440.out
      have hcz26_0 : wr.cell? ⟨gb440, 0, none⟩ = some (.int .i64 a0_0) := (blk_cell BK440.out 0).trans rfl
      have hcz26_1 : wr.cell? ⟨gb440, 1, none⟩ = some (.slice A0_1 l0_1.length c0_1) := (blk_cell BK440.out 1).trans rfl
      have hfz26_0 := blk_frozen BK440.out 0
      have hfz26_1 := blk_frozen BK440.out 1
      have p443 : 0 ≤ ((ji13) : Int) := of_decide_eq_true (by first | (with_reducible assumption) | assumption)
      have q443 : (ji13) < (l0_1.length : Int) := of_decide_eq_true (by first | (with_reducible assumption) | assumption)
      obtain ⟨ad443, e443, hx443_0, _, _, _, _, _, _, _, _, _, _, _, _, _, _, _⟩ := at_T75 HR0_1.out (ji13) p443 q443
      (try rw [← Nbq16.out] at hx443_0)
      cases e443
      replace hx443_0 := Gv.bx HB.out hx443_0
      replace p443 := eq_true p443
      replace q443 := eq_true q443
      go_wp2
      repeat (go_quiet (fail); try go_wp2)
      go_ret
      exact ⟨by first | rfl | (simp [errW_none, errW_some] <;> rfl) | (simp only [← hji13]; first | rfl | (simp [errW_none, errW_some] <;> rfl)) | (simp [*, errW_none, errW_some] <;> rfl), Gv.bw⟩
end Go.Proofs.Ytfnpodebjejhpaa.PTp
