/- Plain Lean functions of a law's Go functions, their contracts, by a program of this session (wip/pr.py over the kit's print). -/
import Derived.Test.YtfnpodebjejhpaaPTpx0
import Derived.Test.YtfnpodebjejhpaaPTpx2
import Derived.Test.YtfnpodebjejhpaaPTpx6
import Derived.Test.YtfnpodebjejhpaaPTpx7
namespace Go.Proofs.Ytfnpodebjejhpaa.PTp
open Go.RowKit Go.Proofs.YtfnpodebjejhpaaW.PrintWords Go.Proofs.YtfnpodebjejhpaaW.PrintLast Go.Proofs.YtfnpodebjejhpaaW.PrintMore
attribute [local go_sem] max2_int min2_int max_two min_two max_three min_three max_four min_four   -- for this text's walks alone
set_option linter.unusedVariables false
set_option linter.unusedSimpArgs false

attribute [local go_sem high] eqA75
/-! ### impl_TableOk: function 26 -/
mutual
def impl_TableOk.j0 : Nat → Bool → Int → List (S75) → Option (Bool)
 | 0, _, _, _ => none
 | k + 1, x25, x446000, x446001 => if x25 = true then (some false) else (impl_TableOk.l0 k x446001 (x446001.length : Int) 0 x446000 x446001)
def impl_TableOk.l0 : Nat → List (S75) → Int → Int → Int → List (S75) → Option (Bool)
 | 0, _, _, _, _, _ => none
 | k + 1, x27, x28, x29, x446000, x446001 => if x29 < x28 then (if 0 ≤ x29 then (if x29 < (x27.length : Int) then (if ((rd_T75 x27 x29).f0 = true) then ((impl_FlowKeyOk.f k ((rd_T75 x27 x29).f1.f0) ((rd_T75 x27 x29).f1.f1.f0.f0) ((rd_T75 x27 x29).f1.f1.f0.f1) ((rd_T75 x27 x29).f1.f1.f0.f2) ((rd_T75 x27 x29).f1.f1.f0.f3) ((rd_T75 x27 x29).f1.f1.f0.f4) ((rd_T75 x27 x29).f1.f1.f1.f0) ((rd_T75 x27 x29).f1.f1.f1.f1) ((rd_T75 x27 x29).f1.f1.f1.f2) ((rd_T75 x27 x29).f1.f1.f1.f3) ((rd_T75 x27 x29).f1.f1.f1.f4) ((rd_T75 x27 x29).f1.f1.f2) ((rd_T75 x27 x29).f1.f1.f3) ((rd_T75 x27 x29).f1.f1.f4)).bind fun t451 => (if t451 = true then ((impl_within.f ((rd_T75 x27 x29).f2) 0 1000000000000).bind fun t452 => (if t452 = true then ((impl_Table_probe.f k x446000 x446001 ((rd_T75 x27 x29).f1.f0) ((rd_T75 x27 x29).f1.f1.f0.f0) ((rd_T75 x27 x29).f1.f1.f0.f1) ((rd_T75 x27 x29).f1.f1.f0.f2) ((rd_T75 x27 x29).f1.f1.f0.f3) ((rd_T75 x27 x29).f1.f1.f0.f4) ((rd_T75 x27 x29).f1.f1.f1.f0) ((rd_T75 x27 x29).f1.f1.f1.f1) ((rd_T75 x27 x29).f1.f1.f1.f2) ((rd_T75 x27 x29).f1.f1.f1.f3) ((rd_T75 x27 x29).f1.f1.f1.f4) ((rd_T75 x27 x29).f1.f1.f2) ((rd_T75 x27 x29).f1.f1.f3) ((rd_T75 x27 x29).f1.f1.f4)).bind fun t453 => (if t453 = x29 then (impl_TableOk.l0 k x27 x28 (wrap64 (x29 + 1)) x446000 x446001) else (some false))) else (some false))) else (some false))) else (if (((rd_T75 x27 x29).f0) || ((!(((rd_T75 x27 x29).f1.f0) == 0) || (((!(((rd_T75 x27 x29).f1.f1.f0.f0) == 0) || (!(((rd_T75 x27 x29).f1.f1.f0.f1) == 0) || (!(((rd_T75 x27 x29).f1.f1.f0.f2) == 0) || (!(((rd_T75 x27 x29).f1.f1.f0.f3) == 0) || (!(((rd_T75 x27 x29).f1.f1.f0.f4) == 0)))))) || ((!(((rd_T75 x27 x29).f1.f1.f1.f0) == 0) || (!(((rd_T75 x27 x29).f1.f1.f1.f1) == 0) || (!(((rd_T75 x27 x29).f1.f1.f1.f2) == 0) || (!(((rd_T75 x27 x29).f1.f1.f1.f3) == 0) || (!(((rd_T75 x27 x29).f1.f1.f1.f4) == 0)))))) || (!(((rd_T75 x27 x29).f1.f1.f2) == 0) || (!(((rd_T75 x27 x29).f1.f1.f3) == 0) || (!(((rd_T75 x27 x29).f1.f1.f4) == 0)))))))) || (!(((rd_T75 x27 x29).f2) == 0)))) = true then (some false) else (impl_TableOk.l0 k x27 x28 (wrap64 (x29 + 1)) x446000 x446001))) else (none)) else (none)) else (some true)
end
def impl_TableOk.f (k : Nat) (a0_0 : Int) (l0_1 : List (S75)) : Option (Bool) := (impl_within.f a0_0 0 4294967295).bind fun t446 => (if t446 = true then ((impl_isCells.f (l0_1.length : Int)).bind fun t447 => (if t447 = true then ((impl_Table_used.f k a0_0 l0_1).bind fun t448 => (impl_TableOk.j0 k (decide ((wrap64 (4 * t448)) > (wrap64 (3 * (l0_1.length : Int))))) a0_0 l0_1)) else (impl_TableOk.j0 k true a0_0 l0_1))) else (impl_TableOk.j0 k true a0_0 l0_1))
def impl_TableOk.T1 : Bool × List (List Nat × List Nat) := (true, [([], []), ([0], [0]), ([1], [1]), ([2], [2]), ([3, 2], [3]), ([4], [4]), ([5, 4], [4, 5]), ([6, 4], [4, 6]), ([7, 4, 4], [4, 7]), ([8, 4], [4, 8]), ([4, 9], [4, 9]), ([10, 8], [10]), ([11], [11]), ([12, 11, 11], [11, 12]), ([13, 11], [11, 13]), ([11], [11]), ([15, 11], [11, 15]), ([16, 11], [11, 16]), ([17, 11], [11, 17]), ([14, 18, 11], [11, 14, 18]), ([11, 19], [11, 19])])
def impl_TableOk.B1 : List Nat := [0, 1, 3, 7, 15, 31, 63, 127, 255, 511, 1023, 2047, 4095, 8191, 16383, 4095, 36863, 102399, 233471, 524287, 1048575]
theorem impl_TableOk.tab1 : rtab .any (opsOf Try.f26 1) = impl_TableOk.T1 := by kernel_rfl
theorem impl_TableOk.bits1 : waitsOk impl_TableOk.T1.2 impl_TableOk.B1 = true := by kernel_rfl
set_option maxHeartbeats 8000000 in
set_option maxRecDepth 100000 in
theorem impl_TableOk.calls (k : Nat) (a0_0 : Int) (A0_1 : Option Addr) (c0_1 : Nat) (l0_1 : List (S75)) (r : Bool) (w : World) (hr0_1 : Kd.C k75 w A0_1 l0_1.length l0_1) (hc0_1 : l0_1.length ≤ c0_1) (h : impl_TableOk.f k a0_0 l0_1 = some r) :
  Calls Try.prog 26 #[.agg #[.int .i64 a0_0, .slice A0_1 l0_1.length c0_1]] w fun e w' => e = .returned (.bool r) ∧ Below w.heap.size w w' := by
 have hu40 := Try.underlying40
 have hu75 := Try.underlying75
 have hu33 := Try.underlying33
 have HR0_1 := Gv.a0 hr0_1
 have HC0_1 := Gv.a0 hc0_1
 clear hr0_1 hc0_1
 have HB := Gv.a0 (Below.refl w.heap.size w)
 have H : ((impl_within.f a0_0 0 4294967295).bind fun t446 => (if t446 = true then ((impl_isCells.f (l0_1.length : Int)).bind fun t447 => (if t447 = true then ((impl_Table_used.f k a0_0 l0_1).bind fun t448 => (impl_TableOk.j0 k (decide ((wrap64 (4 * t448)) > (wrap64 (3 * (l0_1.length : Int))))) a0_0 l0_1)) else (impl_TableOk.j0 k true a0_0 l0_1))) else (impl_TableOk.j0 k true a0_0 l0_1))) = some r := h
 clear h
 have HC2 := Gv.a0 H
 clear H
 go_enter Try.func26, Try.ntmps26
 go_upto_region 1 with (first | ((with_reducible refine gate_dst (N := 1) rfl ?_); (try (refine gate_guard (by rfl) ?_; dsimp only)); refine Gv.bev 1 40 #[.int .i64 a0_0, .slice A0_1 l0_1.length c0_1] ?_; intro gb445 hg w3 hbox hb; have BK445 := Gv.a0 (hbox); have GW445 := Gv.a0 ((Gv.ble hg Gv.bw : w.heap.size ≤ gb445)); have GE445 := Gv.a0 ((Gv.ble hg Gv.bw : w.heap.size ≤ gb445)); replace HB := Gv.a0 (below_step Gv.bw hb); clear hb hbox hg) | ((with_reducible refine gate_store (t := 40) (p := 1) rfl ?_); refine Gv.store_event rfl rfl rfl rfl rfl (Gv.kb BK445.out) (by kernel_rfl) rfl (by simp; and_intros <;> rfl) ?_; intro w3s hbox hoth hbel; replace BK445 := Gv.a0 (hbox); replace HB := Gv.a0 (hbel w Gv.bw GE445.out); clear hbox hoth hbel) | ((with_reducible refine Gv.gate_load (t := 75) rfl ?_); (try (refine gate_guard (by rfl) ?_; dsimp only)); refine wpList_load_row rfl 75 _ rfl gb450 rfl 75 _ _ _ (by first | exact Gv.kb0 BK450.out | exact Gv.kb1 (Gv.kb0 BK450.out)) Try.underlying75 rfl (by kernel_rfl) ?_))
 (try simp only [Act.put, List.setIfInBounds_toArray, List.set_cons_zero, List.set_cons_succ])
 go_cut [25] (fun v25 wc => ∃ (kq : Nat) (x25_1 : Bool), v25 = .bool x25_1 ∧ Aside0 (impl_TableOk.j0 kq x25_1 a0_0 l0_1 = some r) ∧ Aside0 (kq ≤ k) ∧ Aside0 (wc.heap[gb445]? = some (.cells #[.int .i64 a0_0, (.slice A0_1 l0_1.length c0_1)] 40 (0, 0))) ∧ Aside0 (Below w.heap.size w wc))
 case first =>
  have H := HC2.out
  clear HC2
  replace H := Option.bind_eq_some_iff.mp H
  obtain ⟨t446, A40, H⟩ := H
  (try dsimp only at H)
  have A4 := Gv.a0 A40
  clear A40
  by_cases c5 : t446 = true
  ·subst c5
   rw [if_pos rfl] at H
   (try dsimp only at H)
   replace H := Option.bind_eq_some_iff.mp H
   obtain ⟨t447, A60, H⟩ := H
   (try dsimp only at H)
   have A6 := Gv.a0 A60
   clear A60
   by_cases c7 : t447 = true
   ·subst c7
    rw [if_pos rfl] at H
    (try dsimp only at H)
    replace H := Option.bind_eq_some_iff.mp H
    obtain ⟨t448, A80, H⟩ := H
    (try dsimp only at H)
    have A8 := Gv.a0 A80
    clear A80
    have H' := Gv.a0 H
    clear H
    try go_wp2
    replace BK445 := Gv.a0 (blk_drew BK445.out)
    replace HB := Gv.a0 (below_drew1 HB.out)
    refine start_ (n := 21) (S := fun w' => w'.cell? ⟨gb445, 0, none⟩ = some (.int .i64 a0_0) ∧ w'.cell? ⟨gb445, 1, none⟩ = some (.slice A0_1 l0_1.length c0_1)) (ds := []) #[false, false, false, false, false, false, false, false, false, false, false, false, false, false, false, false, false, false, false, false, false] (by kernel_rfl) rfl rfl ⟨Gv.q BK445.out, Gv.q BK445.out⟩ (fun hHeld => ?_); refine with_tabW impl_TableOk.tab1 impl_TableOk.bits1 (fun HT_ HW_ => ?_)
    generalize w3.drew = w9 at BK445 HB hHeld ⊢
    refine Gv.pu 0 (some 5) HT_ ?_
    refine take_ (i := 1) (N := some 6) (v := ?_) (a' := ?_) #[true, true, false, false, false, false, false, false, false, false, false, false, false, false, false, false, false, false, false, false, false] rfl rfl (take_ofW HT_.out HW_.out (by kernel_rfl)) (fun _ _ _ h => h) (Or.inl ⟨by rfl, ?_⟩) hHeld ?_ ?_
    rotate_left
    ·rintro w' ⟨s0, s1⟩
     go_simp
     with_reducible rfl
    rotate_left
    ·simp only [Act.put, List.setIfInBounds_toArray, List.set_cons_zero, List.set_cons_succ, i64_w, i32_w]
     rfl
    refine one_ (i := 2) (N := some 7) #[true, true, true, false, false, false, false, false, false, false, false, false, false, false, false, false, false, false, false, false, false] rfl rfl (one_of HT_.out (by kernel_rfl)) (by decide) (fun K hK => ?_)
    refine goes_ Try.func44 (by kernel_rfl) rfl #[.int .i64 a0_0, .int .i64 0, .int .i64 4294967295] (by rfl) rfl rfl Gv.lm ?_
    with_reducible refine (impl_within.calls a0_0 0 4294967295 true _ A4.out).mono ?_
    rintro e w' ⟨rfl, ⟨nd, rfl⟩⟩
    refine ⟨_, rfl, ?_⟩
    refine hK.out _ _ ⟨Gv.q BK445.out, Gv.q BK445.out⟩ (fun hHeld => ?_)
    clear hK K
    refine norm_ (a' := ?_) ?_ ?_
    rotate_left
    ·show Act.put _ (some 7) _ = _
     simp only [Act.put, List.setIfInBounds_toArray, List.set_cons_zero, List.set_cons_succ, i64_w, i32_w]
     rfl
    refine Gv.pu 3 (some 8) HT_ ?_
    refine Gv.pu 4 (some 9) HT_ ?_
    refine Gv.pu 5 (some 10) HT_ ?_
    refine take_ (i := 6) (N := some 11) (v := ?_) (a' := ?_) #[true, true, true, true, true, true, true, false, false, false, false, false, false, false, false, false, false, false, false, false, false] rfl rfl (take_ofW HT_.out HW_.out (by kernel_rfl)) (fun _ _ _ h => h) (Or.inl ⟨by rfl, ?_⟩) hHeld ?_ ?_
    rotate_left
    ·rintro w' ⟨s0, s1⟩
     go_simp
     with_reducible rfl
    rotate_left
    ·simp only [Act.put, List.setIfInBounds_toArray, List.set_cons_zero, List.set_cons_succ, i64_w, i32_w]
     rfl
    refine Gv.pu 7 (some 12) HT_ ?_
    refine one_ (i := 8) (N := some 13) #[true, true, true, true, true, true, true, true, true, false, false, false, false, false, false, false, false, false, false, false, false] rfl rfl (one_of HT_.out (by kernel_rfl)) (by decide) (fun K hK => ?_)
    refine goes_ Try.func48 (by kernel_rfl) rfl #[.int .i64 (l0_1.length : Int)] (by rfl) rfl rfl Gv.lm ?_
    with_reducible refine (impl_isCells.calls (l0_1.length : Int) true _ A6.out).mono ?_
    rintro e w' ⟨rfl, ⟨nd, rfl⟩⟩
    refine ⟨_, rfl, ?_⟩
    refine hK.out _ _ ⟨Gv.q BK445.out, Gv.q BK445.out⟩ (fun hHeld => ?_)
    clear hK K
    refine norm_ (a' := ?_) ?_ ?_
    rotate_left
    ·show Act.put _ (some 13) _ = _
     simp only [Act.put, List.setIfInBounds_toArray, List.set_cons_zero, List.set_cons_succ, i64_w, i32_w]
     rfl
    refine Gv.pu 9 (some 14) HT_ ?_
    refine Gv.pu 10 (some 15) HT_ ?_
    refine Gv.pu 11 (some 16) HT_ ?_
    refine Gv.pu 15 (some 20) HT_ ?_
    refine take_ (i := 12) (N := some 17) (v := ?_) (a' := ?_) #[true, true, true, true, true, true, true, true, true, true, true, true, true, false, false, true, false, false, false, false, false] rfl rfl (take_ofW HT_.out HW_.out (by kernel_rfl)) (fun _ _ _ h => h) (Or.inl ⟨by rfl, ?_⟩) hHeld ?_ ?_
    rotate_left
    ·rintro w' ⟨s0, s1⟩
     go_simp
     with_reducible rfl
    rotate_left
    ·simp only [Act.put, List.setIfInBounds_toArray, List.set_cons_zero, List.set_cons_succ, i64_w, i32_w]
     rfl
    refine take_ (i := 16) (N := some 21) (v := ?_) (a' := ?_) #[true, true, true, true, true, true, true, true, true, true, true, true, true, false, false, true, true, false, false, false, false] rfl rfl (take_ofW HT_.out HW_.out (by kernel_rfl)) (fun _ _ _ h => h) (Or.inl ⟨by rfl, ?_⟩) hHeld ?_ ?_
    rotate_left
    ·rintro w' ⟨s0, s1⟩
     go_simp
     with_reducible rfl
    rotate_left
    ·simp only [Act.put, List.setIfInBounds_toArray, List.set_cons_zero, List.set_cons_succ, i64_w, i32_w]
     rfl
    refine Gv.pu 17 (some 22) HT_ ?_
    refine Gv.pu 18 (some 23) HT_ ?_
    refine one_ (i := 13) (N := some 18) #[true, true, true, true, true, true, true, true, true, true, true, true, true, true, false, true, true, true, true, false, false] rfl rfl (one_of HT_.out (by kernel_rfl)) (by decide) (fun K hK => ?_)
    refine goes_ Try.func57 (by kernel_rfl) rfl #[.agg #[.int .i64 a0_0, .slice A0_1 l0_1.length c0_1]] (by rfl) rfl rfl Gv.lm ?_
    with_reducible refine (impl_Table_used.calls k a0_0 _ _ l0_1 t448 _ ?side1 ?side2 A8.out).mono ?_
    (case side1 => repeat (first | exact (Kd.C_below HR0_1.out Gv.bw) | (with_reducible refine Kd.C_alloc ?_ _) | (with_reducible refine Kd.C_drewN ?_ _) | (with_reducible refine Kd.C_drew ?_)))
    (case side2 => exact HC0_1.out)
    rintro e w10 ⟨rfl, hb⟩
    refine ⟨_, rfl, ?_⟩
    replace BK445 := Gv.b1 BK445 hb
    replace HB := Gv.a0 (below_step Gv.bw hb)
    (try clear hb)
    (try clear hb2)
    (try clear hk)
    (try clear hi)
    refine hK.out _ _ ⟨Gv.q BK445.out, Gv.q BK445.out⟩ (fun hHeld => ?_)
    clear hK K
    refine norm_ (a' := ?_) ?_ ?_
    rotate_left
    ·show Act.put _ (some 18) _ = _
     simp only [Act.put, List.setIfInBounds_toArray, List.set_cons_zero, List.set_cons_succ, i64_w, i32_w]
     rfl
    refine Gv.pu 14 (some 19) HT_ ?_
    refine Gv.pu 19 (some 24) HT_ ?_
    refine Gv.pu 20 (some 25) HT_ ?_
    refine done_ (done_of HT_.out (by kernel_rfl)) ?_
    try go_wp2
    go_meet
    case rel => exact ⟨_, (decide ((wrap64 (4 * t448)) > (wrap64 (3 * (l0_1.length : Int))))), Gv.rq, H', ⟨by first | omega | exact Nat.le_refl _⟩, ⟨by (with_reducible repeat (first | refine blk_drewN ?_ _ | refine blk_drew ?_ | refine blk_alloc ?_ _)); exact BK445.out⟩, ⟨Gv.bw⟩⟩
   ·replace c7 := Bool.eq_false_iff.mpr c7
    subst c7
    rw [if_neg (show ¬ (false = true) by decide)] at H
    (try dsimp only at H)
    have H' := Gv.a0 H
    clear H
    try go_wp2
    replace BK445 := Gv.a0 (blk_drew BK445.out)
    replace HB := Gv.a0 (below_drew1 HB.out)
    refine start_ (n := 21) (S := fun w' => w'.cell? ⟨gb445, 0, none⟩ = some (.int .i64 a0_0) ∧ w'.cell? ⟨gb445, 1, none⟩ = some (.slice A0_1 l0_1.length c0_1)) (ds := []) #[false, false, false, false, false, false, false, false, false, false, false, false, false, false, false, false, false, false, false, false, false] (by kernel_rfl) rfl rfl ⟨Gv.q BK445.out, Gv.q BK445.out⟩ (fun hHeld => ?_); refine with_tabW impl_TableOk.tab1 impl_TableOk.bits1 (fun HT_ HW_ => ?_)
    generalize w3.drew = w11 at BK445 HB hHeld ⊢
    refine Gv.pu 0 (some 5) HT_ ?_
    refine take_ (i := 1) (N := some 6) (v := ?_) (a' := ?_) #[true, true, false, false, false, false, false, false, false, false, false, false, false, false, false, false, false, false, false, false, false] rfl rfl (take_ofW HT_.out HW_.out (by kernel_rfl)) (fun _ _ _ h => h) (Or.inl ⟨by rfl, ?_⟩) hHeld ?_ ?_
    rotate_left
    ·rintro w' ⟨s0, s1⟩
     go_simp
     with_reducible rfl
    rotate_left
    ·simp only [Act.put, List.setIfInBounds_toArray, List.set_cons_zero, List.set_cons_succ, i64_w, i32_w]
     rfl
    refine one_ (i := 2) (N := some 7) #[true, true, true, false, false, false, false, false, false, false, false, false, false, false, false, false, false, false, false, false, false] rfl rfl (one_of HT_.out (by kernel_rfl)) (by decide) (fun K hK => ?_)
    refine goes_ Try.func44 (by kernel_rfl) rfl #[.int .i64 a0_0, .int .i64 0, .int .i64 4294967295] (by rfl) rfl rfl Gv.lm ?_
    with_reducible refine (impl_within.calls a0_0 0 4294967295 true _ A4.out).mono ?_
    rintro e w' ⟨rfl, ⟨nd, rfl⟩⟩
    refine ⟨_, rfl, ?_⟩
    refine hK.out _ _ ⟨Gv.q BK445.out, Gv.q BK445.out⟩ (fun hHeld => ?_)
    clear hK K
    refine norm_ (a' := ?_) ?_ ?_
    rotate_left
    ·show Act.put _ (some 7) _ = _
     simp only [Act.put, List.setIfInBounds_toArray, List.set_cons_zero, List.set_cons_succ, i64_w, i32_w]
     rfl
    refine Gv.pu 3 (some 8) HT_ ?_
    refine Gv.pu 4 (some 9) HT_ ?_
    refine Gv.pu 5 (some 10) HT_ ?_
    refine take_ (i := 6) (N := some 11) (v := ?_) (a' := ?_) #[true, true, true, true, true, true, true, false, false, false, false, false, false, false, false, false, false, false, false, false, false] rfl rfl (take_ofW HT_.out HW_.out (by kernel_rfl)) (fun _ _ _ h => h) (Or.inl ⟨by rfl, ?_⟩) hHeld ?_ ?_
    rotate_left
    ·rintro w' ⟨s0, s1⟩
     go_simp
     with_reducible rfl
    rotate_left
    ·simp only [Act.put, List.setIfInBounds_toArray, List.set_cons_zero, List.set_cons_succ, i64_w, i32_w]
     rfl
    refine Gv.pu 7 (some 12) HT_ ?_
    refine one_ (i := 8) (N := some 13) #[true, true, true, true, true, true, true, true, true, false, false, false, false, false, false, false, false, false, false, false, false] rfl rfl (one_of HT_.out (by kernel_rfl)) (by decide) (fun K hK => ?_)
    refine goes_ Try.func48 (by kernel_rfl) rfl #[.int .i64 (l0_1.length : Int)] (by rfl) rfl rfl Gv.lm ?_
    with_reducible refine (impl_isCells.calls (l0_1.length : Int) false _ A6.out).mono ?_
    rintro e w' ⟨rfl, ⟨nd, rfl⟩⟩
    refine ⟨_, rfl, ?_⟩
    refine hK.out _ _ ⟨Gv.q BK445.out, Gv.q BK445.out⟩ (fun hHeld => ?_)
    clear hK K
    refine norm_ (a' := ?_) ?_ ?_
    rotate_left
    ·show Act.put _ (some 13) _ = _
     simp only [Act.put, List.setIfInBounds_toArray, List.set_cons_zero, List.set_cons_succ, i64_w, i32_w]
     rfl
    refine Gv.pu 9 (some 14) HT_ ?_
    refine Gv.pu 10 (some 15) HT_ ?_
    refine Gv.pu 11 (some 16) HT_ ?_
    refine Gv.pn 12 (some 17) HT_ ?_
    refine Gv.pn 13 (some 18) HT_ ?_
    refine Gv.pn 14 (some 19) HT_ ?_
    refine Gv.pn 15 (some 20) HT_ ?_
    refine Gv.pn 16 (some 21) HT_ ?_
    refine Gv.pn 17 (some 22) HT_ ?_
    refine Gv.pn 18 (some 23) HT_ ?_
    refine Gv.pn 19 (some 24) HT_ ?_
    refine Gv.pu 20 (some 25) HT_ ?_
    refine done_ (done_of HT_.out (by kernel_rfl)) ?_
    try go_wp2
    go_meet
    case rel => exact ⟨_, (true), Gv.rq, H', ⟨by first | omega | exact Nat.le_refl _⟩, ⟨by (with_reducible repeat (first | refine blk_drewN ?_ _ | refine blk_drew ?_ | refine blk_alloc ?_ _)); exact BK445.out⟩, ⟨Gv.bw⟩⟩
  ·replace c5 := Bool.eq_false_iff.mpr c5
   subst c5
   rw [if_neg (show ¬ (false = true) by decide)] at H
   (try dsimp only at H)
   have H' := Gv.a0 H
   clear H
   try go_wp2
   replace BK445 := Gv.a0 (blk_drew BK445.out)
   replace HB := Gv.a0 (below_drew1 HB.out)
   refine start_ (n := 21) (S := fun w' => w'.cell? ⟨gb445, 0, none⟩ = some (.int .i64 a0_0) ∧ w'.cell? ⟨gb445, 1, none⟩ = some (.slice A0_1 l0_1.length c0_1)) (ds := []) #[false, false, false, false, false, false, false, false, false, false, false, false, false, false, false, false, false, false, false, false, false] (by kernel_rfl) rfl rfl ⟨Gv.q BK445.out, Gv.q BK445.out⟩ (fun hHeld => ?_); refine with_tabW impl_TableOk.tab1 impl_TableOk.bits1 (fun HT_ HW_ => ?_)
   generalize w3.drew = w12 at BK445 HB hHeld ⊢
   refine Gv.pu 0 (some 5) HT_ ?_
   refine take_ (i := 1) (N := some 6) (v := ?_) (a' := ?_) #[true, true, false, false, false, false, false, false, false, false, false, false, false, false, false, false, false, false, false, false, false] rfl rfl (take_ofW HT_.out HW_.out (by kernel_rfl)) (fun _ _ _ h => h) (Or.inl ⟨by rfl, ?_⟩) hHeld ?_ ?_
   rotate_left
   ·rintro w' ⟨s0, s1⟩
    go_simp
    with_reducible rfl
   rotate_left
   ·simp only [Act.put, List.setIfInBounds_toArray, List.set_cons_zero, List.set_cons_succ, i64_w, i32_w]
    rfl
   refine one_ (i := 2) (N := some 7) #[true, true, true, false, false, false, false, false, false, false, false, false, false, false, false, false, false, false, false, false, false] rfl rfl (one_of HT_.out (by kernel_rfl)) (by decide) (fun K hK => ?_)
   refine goes_ Try.func44 (by kernel_rfl) rfl #[.int .i64 a0_0, .int .i64 0, .int .i64 4294967295] (by rfl) rfl rfl Gv.lm ?_
   with_reducible refine (impl_within.calls a0_0 0 4294967295 false _ A4.out).mono ?_
   rintro e w' ⟨rfl, ⟨nd, rfl⟩⟩
   refine ⟨_, rfl, ?_⟩
   refine hK.out _ _ ⟨Gv.q BK445.out, Gv.q BK445.out⟩ (fun hHeld => ?_)
   clear hK K
   refine norm_ (a' := ?_) ?_ ?_
   rotate_left
   ·show Act.put _ (some 7) _ = _
    simp only [Act.put, List.setIfInBounds_toArray, List.set_cons_zero, List.set_cons_succ, i64_w, i32_w]
    rfl
   refine Gv.pu 3 (some 8) HT_ ?_
   refine Gv.pu 4 (some 9) HT_ ?_
   refine Gv.pn 5 (some 10) HT_ ?_
   refine Gv.pn 6 (some 11) HT_ ?_
   refine Gv.pn 7 (some 12) HT_ ?_
   refine Gv.pn 8 (some 13) HT_ ?_
   refine Gv.pn 9 (some 14) HT_ ?_
   refine Gv.pu 10 (some 15) HT_ ?_
   refine Gv.pu 11 (some 16) HT_ ?_
   refine Gv.pn 12 (some 17) HT_ ?_
   refine Gv.pn 13 (some 18) HT_ ?_
   refine Gv.pn 14 (some 19) HT_ ?_
   refine Gv.pn 15 (some 20) HT_ ?_
   refine Gv.pn 16 (some 21) HT_ ?_
   refine Gv.pn 17 (some 22) HT_ ?_
   refine Gv.pn 18 (some 23) HT_ ?_
   refine Gv.pn 19 (some 24) HT_ ?_
   refine Gv.pu 20 (some 25) HT_ ?_
   refine done_ (done_of HT_.out (by kernel_rfl)) ?_
   try go_wp2
   go_meet
   case rel => exact ⟨_, (true), Gv.rq, H', ⟨by first | omega | exact Nat.le_refl _⟩, ⟨by (with_reducible repeat (first | refine blk_drewN ?_ _ | refine blk_drew ?_ | refine blk_alloc ?_ _)); exact BK445.out⟩, ⟨Gv.bw⟩⟩
 case rest =>
  clear HC2
  try clear c2
  try clear p2
  try clear c4
  try clear c5
  try clear p6
  try clear c7
  obtain ⟨kq, x25_1, rfl, HA, HJ1, BK445, HB⟩ := hcut
  cases kq with
  | zero => exact absurd HA.out (by simp [impl_TableOk.j0])
  | succ kj1 =>
   have H := HA.out
   clear HA
   simp only [impl_TableOk.j0] at H
   by_cases c13 : x25_1 = true
   ·subst c13
    rw [if_pos rfl] at H
    (try dsimp only at H)
    obtain rfl := Option.some.inj H
    go_wp2_with (first | ((with_reducible refine Gv.gate_load (t := 75) rfl ?_); (try (refine gate_guard (by rfl) ?_; dsimp only)); refine wpList_load_row rfl 75 _ rfl gb450 rfl 75 _ _ _ (by first | exact Gv.kb0 BK450.out | exact Gv.kb1 (Gv.kb0 BK450.out)) Try.underlying75 rfl (by kernel_rfl) ?_))
    go_ret
    exact ⟨Gv.rt, Gv.bw⟩
   ·replace c13 := Bool.eq_false_iff.mpr c13
    subst c13
    rw [if_neg (show ¬ (false = true) by decide)] at H
    (try dsimp only at H)
    have H' := Gv.a0 H
    clear H
    have hcz14_0 : wc.cell? ⟨gb445, 0, none⟩ = some (.int .i64 a0_0) := (blk_cell BK445.out 0).trans rfl
    have hcz14_1 : wc.cell? ⟨gb445, 1, none⟩ = some (.slice A0_1 l0_1.length c0_1) := (blk_cell BK445.out 1).trans rfl
    have hfz14_0 := blk_frozen BK445.out 0
    have hfz14_1 := blk_frozen BK445.out 1
    go_wp2_with (first | ((with_reducible refine Gv.gate_load (t := 75) rfl ?_); (try (refine gate_guard (by rfl) ?_; dsimp only)); refine wpList_load_row rfl 75 _ rfl gb450 rfl 75 _ _ _ (by first | exact Gv.kb0 BK450.out | exact Gv.kb1 (Gv.kb0 BK450.out)) Try.underlying75 rfl (by kernel_rfl) ?_))
    go_loopg [29] kj1 (fun kq v29 w' => ∃ (x29_2 : Int), v29 = .int .i64 x29_2 ∧ Aside0 (impl_TableOk.l0 kq l0_1 (l0_1.length : Int) x29_2 a0_0 l0_1 = some r) ∧ Aside0 (kq ≤ kj1) ∧ Aside0 (w'.heap[gb445]? = some (.cells #[.int .i64 a0_0, (.slice A0_1 l0_1.length c0_1)] 40 (0, 0))) ∧ Aside0 (Below w.heap.size w w'))
    case atStart => exact ⟨(0), Gv.rq, H', ⟨Nat.le_refl _⟩, ⟨by (with_reducible repeat (first | refine blk_drewN ?_ _ | refine blk_drew ?_ | refine blk_alloc ?_ _)); exact BK445.out⟩, ⟨Gv.bw⟩⟩
    case round =>
     clear H'
     try clear c1
     try clear c2
     try clear p2
     try clear c4
     try clear c5
     try clear p6
     try clear c7
     try clear c13
     try clear hcz14_0 hcz14_1
     try clear hfz14_0 hfz14_1
     try clear p2
     try clear p6
     obtain ⟨x29_2, rfl, HA, HK2, BK445, HB⟩ := hrel
     cases gk with
     | zero => exact absurd HA.out (by simp [impl_TableOk.l0])
     | succ k2 =>
      have H := HA.out
      clear HA
      simp only [impl_TableOk.l0] at H
      by_cases c15 : x29_2 < (l0_1.length : Int)
      rotate_left
      ·rw [if_neg c15] at H
       have c15b0 : decide (x29_2 < (l0_1.length : Int)) = false := decide_eq_false c15
       clear c15
       obtain rfl := Option.some.inj H
       go_wp2_with (first | ((with_reducible refine Gv.gate_load (t := 75) rfl ?_); (try (refine gate_guard (by rfl) ?_; dsimp only)); refine wpList_load_row rfl 75 _ rfl gb450 rfl 75 _ _ _ (by first | exact Gv.kb0 BK450.out | exact Gv.kb1 (Gv.kb0 BK450.out)) Try.underlying75 rfl (by kernel_rfl) ?_))
       go_ret
       exact ⟨Gv.rt, Gv.bw⟩

      rw [if_pos c15] at H
      have c15b0 : decide (x29_2 < (l0_1.length : Int)) = true := decide_eq_true c15
      clear c15
      by_cases c16 : 0 ≤ x29_2
      rotate_left
      ·rw [if_neg c16] at H
       exact absurd H (by simp)
      rw [if_pos c16] at H
      have c16b0 : decide (0 ≤ x29_2) = true := decide_eq_true c16
      clear c16
      by_cases c17 : x29_2 < (l0_1.length : Int)
      rotate_left
      ·rw [if_neg c17] at H
       exact absurd H (by simp)
      rw [if_pos c17] at H
      have c17b0 : decide (x29_2 < (l0_1.length : Int)) = true := decide_eq_true c17
      clear c17
      obtain ⟨bq18, hbq18⟩ : ∃ b_ : Bool, b_ = ((rd_T75 l0_1 x29_2).f0) := ⟨_, rfl⟩
      replace H : (if (bq18 = true) then ((impl_FlowKeyOk.f k2 ((rd_T75 l0_1 x29_2).f1.f0) ((rd_T75 l0_1 x29_2).f1.f1.f0.f0) ((rd_T75 l0_1 x29_2).f1.f1.f0.f1) ((rd_T75 l0_1 x29_2).f1.f1.f0.f2) ((rd_T75 l0_1 x29_2).f1.f1.f0.f3) ((rd_T75 l0_1 x29_2).f1.f1.f0.f4) ((rd_T75 l0_1 x29_2).f1.f1.f1.f0) ((rd_T75 l0_1 x29_2).f1.f1.f1.f1) ((rd_T75 l0_1 x29_2).f1.f1.f1.f2) ((rd_T75 l0_1 x29_2).f1.f1.f1.f3) ((rd_T75 l0_1 x29_2).f1.f1.f1.f4) ((rd_T75 l0_1 x29_2).f1.f1.f2) ((rd_T75 l0_1 x29_2).f1.f1.f3) ((rd_T75 l0_1 x29_2).f1.f1.f4)).bind fun t451 => (if t451 = true then ((impl_within.f ((rd_T75 l0_1 x29_2).f2) 0 1000000000000).bind fun t452 => (if t452 = true then ((impl_Table_probe.f k2 a0_0 l0_1 ((rd_T75 l0_1 x29_2).f1.f0) ((rd_T75 l0_1 x29_2).f1.f1.f0.f0) ((rd_T75 l0_1 x29_2).f1.f1.f0.f1) ((rd_T75 l0_1 x29_2).f1.f1.f0.f2) ((rd_T75 l0_1 x29_2).f1.f1.f0.f3) ((rd_T75 l0_1 x29_2).f1.f1.f0.f4) ((rd_T75 l0_1 x29_2).f1.f1.f1.f0) ((rd_T75 l0_1 x29_2).f1.f1.f1.f1) ((rd_T75 l0_1 x29_2).f1.f1.f1.f2) ((rd_T75 l0_1 x29_2).f1.f1.f1.f3) ((rd_T75 l0_1 x29_2).f1.f1.f1.f4) ((rd_T75 l0_1 x29_2).f1.f1.f2) ((rd_T75 l0_1 x29_2).f1.f1.f3) ((rd_T75 l0_1 x29_2).f1.f1.f4)).bind fun t453 => (if t453 = x29_2 then (impl_TableOk.l0 k2 l0_1 (l0_1.length : Int) (wrap64 (x29_2 + 1)) a0_0 l0_1) else (some false))) else (some false))) else (some false))) else (if ((bq18) || ((!(((rd_T75 l0_1 x29_2).f1.f0) == 0) || (((!(((rd_T75 l0_1 x29_2).f1.f1.f0.f0) == 0) || (!(((rd_T75 l0_1 x29_2).f1.f1.f0.f1) == 0) || (!(((rd_T75 l0_1 x29_2).f1.f1.f0.f2) == 0) || (!(((rd_T75 l0_1 x29_2).f1.f1.f0.f3) == 0) || (!(((rd_T75 l0_1 x29_2).f1.f1.f0.f4) == 0)))))) || ((!(((rd_T75 l0_1 x29_2).f1.f1.f1.f0) == 0) || (!(((rd_T75 l0_1 x29_2).f1.f1.f1.f1) == 0) || (!(((rd_T75 l0_1 x29_2).f1.f1.f1.f2) == 0) || (!(((rd_T75 l0_1 x29_2).f1.f1.f1.f3) == 0) || (!(((rd_T75 l0_1 x29_2).f1.f1.f1.f4) == 0)))))) || (!(((rd_T75 l0_1 x29_2).f1.f1.f2) == 0) || (!(((rd_T75 l0_1 x29_2).f1.f1.f3) == 0) || (!(((rd_T75 l0_1 x29_2).f1.f1.f4) == 0)))))))) || (!(((rd_T75 l0_1 x29_2).f2) == 0)))) = true then (some false) else (impl_TableOk.l0 k2 l0_1 (l0_1.length : Int) (wrap64 (x29_2 + 1)) a0_0 l0_1))) = some r := by rw [← hbq18] at H; exact H
      have Nbq18 := Gv.a0 hbq18
      clear hbq18
      by_cases c19 : (bq18 = true)
      ·subst c19
       rw [if_pos rfl] at H
       (try dsimp only at H)
       replace H := Option.bind_eq_some_iff.mp H
       obtain ⟨t451, A200, H⟩ := H
       (try dsimp only at H)
       have A20 := Gv.a0 A200
       clear A200
       by_cases c21 : t451 = true
       ·subst c21
        rw [if_pos rfl] at H
        (try dsimp only at H)
        replace H := Option.bind_eq_some_iff.mp H
        obtain ⟨t452, A220, H⟩ := H
        (try dsimp only at H)
        have A22 := Gv.a0 A220
        clear A220
        by_cases c23 : t452 = true
        ·subst c23
         rw [if_pos rfl] at H
         (try dsimp only at H)
         replace H := Option.bind_eq_some_iff.mp H
         obtain ⟨t453, A240, H⟩ := H
         (try dsimp only at H)
         have A24 := Gv.a0 A240
         clear A240
         by_cases c25 : t453 = x29_2
         ·rw [if_pos c25] at H
          have c25b0 : (t453 == x29_2) = true := beq_iff_eq.mpr c25
          have c25b1 : (t453 != x29_2) = false := bne_eq_false_iff_eq.mpr c25
          clear c25
          have H' := Gv.a0 H
          clear H
          have p449 : 0 ≤ (x29_2 : Int) := of_decide_eq_true (by first | (with_reducible assumption) | assumption)
          have q449 : x29_2 < (l0_1.length : Int) := of_decide_eq_true (by first | (with_reducible assumption) | assumption)
          obtain ⟨ad449, e449, hx449_0, hx449_1, hx449_2, hx449_3, hx449_4, hx449_5, hx449_6, hx449_7, hx449_8, hx449_9, hx449_10, hx449_11, hx449_12, hx449_13, hx449_14, hx449_15⟩ := at_T75 HR0_1.out x29_2 p449 q449
          (try rw [← Nbq18.out] at hx449_0)
          cases e449
          replace hx449_0 := Gv.bx HB.out hx449_0
          replace hx449_1 := Gv.bx HB.out hx449_1
          replace hx449_2 := Gv.bx HB.out hx449_2
          replace hx449_3 := Gv.bx HB.out hx449_3
          replace hx449_4 := Gv.bx HB.out hx449_4
          replace hx449_5 := Gv.bx HB.out hx449_5
          replace hx449_6 := Gv.bx HB.out hx449_6
          replace hx449_7 := Gv.bx HB.out hx449_7
          replace hx449_8 := Gv.bx HB.out hx449_8
          replace hx449_9 := Gv.bx HB.out hx449_9
          replace hx449_10 := Gv.bx HB.out hx449_10
          replace hx449_11 := Gv.bx HB.out hx449_11
          replace hx449_12 := Gv.bx HB.out hx449_12
          replace hx449_13 := Gv.bx HB.out hx449_13
          replace hx449_14 := Gv.bx HB.out hx449_14
          replace hx449_15 := Gv.bx HB.out hx449_15
          replace p449 := eq_true p449
          replace q449 := eq_true q449
          go_wp2_with (first | ((with_reducible refine gate_dst (N := 4) rfl ?_); (try (refine gate_guard (by rfl) ?_; dsimp only)); refine Gv.bev 4 75 #[.bool false, .int .i64 0, .int .i64 0, .int .i64 0, .int .i64 0, .int .i64 0, .int .i64 0, .int .i64 0, .int .i64 0, .int .i64 0, .int .i64 0, .int .i64 0, .int .i64 0, .int .i64 0, .int .i64 0, .int .i64 0] ?_; intro gb450 hg w26 hbox hb; have BK450 := Gv.a0 (hbox); have GW450 := Gv.a0 ((Gv.ble hg Gv.bw : w.heap.size ≤ gb450)); have GE450 := Gv.a0 ((Gv.ble hg Gv.bw : w.heap.size ≤ gb450)); replace HB := Gv.a0 (below_step Gv.bw hb); have NB445_450 := Gv.a0 ((Gv.nlt hg (Gv.kb BK445.out) : gb445 ≠ gb450)); have NB450_445 := Gv.a0 ((Gv.ngt hg (Gv.kb BK445.out) : gb450 ≠ gb445)); replace BK445 := Gv.b1 BK445 hb; clear hb hbox hg; have hnb27 := NB450_445.out; have hnc27 := NB445_450.out; obtain ⟨hcz28_0, hcz28_1, hcz28_2, hcz28_3, hcz28_4, hcz28_5, hcz28_6, hcz28_7, hcz28_8, hcz28_9, hcz28_10, hcz28_11, hcz28_12, hcz28_13, hcz28_14, hcz28_15⟩ := Gv.c16 BK450.out) | ((with_reducible refine gate_store (t := 75) (p := 4) rfl ?_); refine Gv.store_event rfl rfl rfl rfl rfl (Gv.kb BK450.out) (by kernel_rfl) rfl (by simp; and_intros <;> rfl) ?_; intro w26s hbox hoth hbel; replace BK450 := Gv.a0 (hbox); replace HB := Gv.a0 (hbel w Gv.bw GE450.out); replace BK445 := Gv.a0 ((hoth gb445 NB445_450.out).trans (Gv.kb BK445.out)); clear hbox hoth hbel; (try clear hcz28_0 hcz28_1 hcz28_2 hcz28_3 hcz28_4 hcz28_5 hcz28_6 hcz28_7 hcz28_8 hcz28_9 hcz28_10 hcz28_11 hcz28_12 hcz28_13 hcz28_14 hcz28_15 hfz28_0 hfz28_1 hfz28_2 hfz28_3 hfz28_4 hfz28_5 hfz28_6 hfz28_7 hfz28_8 hfz28_9 hfz28_10 hfz28_11 hfz28_12 hfz28_13 hfz28_14 hfz28_15); obtain ⟨hcz28_0, hcz28_1, hcz28_2, hcz28_3, hcz28_4, hcz28_5, hcz28_6, hcz28_7, hcz28_8, hcz28_9, hcz28_10, hcz28_11, hcz28_12, hcz28_13, hcz28_14, hcz28_15⟩ := Gv.c16 BK450.out) | ((with_reducible refine gate_callee (f := 15) rfl ?_); refine goesL_ (some 44) rfl rfl Try.func15 (by kernel_rfl) rfl #[.agg #[.int .i64 ((rd_T75 l0_1 x29_2).f1.f0), .int .i64 ((rd_T75 l0_1 x29_2).f1.f1.f0.f0), .int .i64 ((rd_T75 l0_1 x29_2).f1.f1.f0.f1), .int .i64 ((rd_T75 l0_1 x29_2).f1.f1.f0.f2), .int .i64 ((rd_T75 l0_1 x29_2).f1.f1.f0.f3), .int .i64 ((rd_T75 l0_1 x29_2).f1.f1.f0.f4), .int .i64 ((rd_T75 l0_1 x29_2).f1.f1.f1.f0), .int .i64 ((rd_T75 l0_1 x29_2).f1.f1.f1.f1), .int .i64 ((rd_T75 l0_1 x29_2).f1.f1.f1.f2), .int .i64 ((rd_T75 l0_1 x29_2).f1.f1.f1.f3), .int .i64 ((rd_T75 l0_1 x29_2).f1.f1.f1.f4), .int .i64 ((rd_T75 l0_1 x29_2).f1.f1.f2), .int .i64 ((rd_T75 l0_1 x29_2).f1.f1.f3), .int .i64 ((rd_T75 l0_1 x29_2).f1.f1.f4)]] rfl Gv.lm ?_; (with_reducible refine (impl_FlowKeyOk.calls k2 _ _ _ _ _ _ _ _ _ _ _ _ _ _ true _ A20.out).mono ?_); rintro e w29 ⟨rfl, hb⟩; refine ⟨_, rfl, ?_⟩; replace BK445 := Gv.a0 (blk_below (g := gb445) (o := .cells #[.int .i64 a0_0, .slice (some ad449) l0_1.length c0_1] 40 (0, 0)) Gv.bkf hb); replace BK450 := Gv.a0 (blk_below (g := gb450) (o := .cells #[.bool true, .int .i64 ((rd_T75 l0_1 x29_2).f1.f0), .int .i64 ((rd_T75 l0_1 x29_2).f1.f1.f0.f0), .int .i64 ((rd_T75 l0_1 x29_2).f1.f1.f0.f1), .int .i64 ((rd_T75 l0_1 x29_2).f1.f1.f0.f2), .int .i64 ((rd_T75 l0_1 x29_2).f1.f1.f0.f3), .int .i64 ((rd_T75 l0_1 x29_2).f1.f1.f0.f4), .int .i64 ((rd_T75 l0_1 x29_2).f1.f1.f1.f0), .int .i64 ((rd_T75 l0_1 x29_2).f1.f1.f1.f1), .int .i64 ((rd_T75 l0_1 x29_2).f1.f1.f1.f2), .int .i64 ((rd_T75 l0_1 x29_2).f1.f1.f1.f3), .int .i64 ((rd_T75 l0_1 x29_2).f1.f1.f1.f4), .int .i64 ((rd_T75 l0_1 x29_2).f1.f1.f2), .int .i64 ((rd_T75 l0_1 x29_2).f1.f1.f3), .int .i64 ((rd_T75 l0_1 x29_2).f1.f1.f4), .int .i64 ((rd_T75 l0_1 x29_2).f2)] 75 (0, 0)) (by (with_reducible repeat (first | refine blk_drewN ?_ _ | refine blk_drew ?_ | refine blk_alloc ?_ _)); exact BK450.out) hb); replace HB := Gv.a0 (below_step Gv.bw hb); clear hb; obtain ⟨hcz30_0, hcz30_1, hcz30_2, hcz30_3, hcz30_4, hcz30_5, hcz30_6, hcz30_7, hcz30_8, hcz30_9, hcz30_10, hcz30_11, hcz30_12, hcz30_13, hcz30_14, hcz30_15⟩ := Gv.c16 BK450.out) | (go_at_call 44; (with_reducible refine (impl_within.calls _ 0 1000000000000 true _ A22.out).mono ?_); rintro e w' ⟨rfl, ⟨nd, rfl⟩⟩; have hcz31_0 : w29.cell? ⟨gb445, 0, none⟩ = some (.int .i64 a0_0) := (blk_cell BK445.out 0).trans rfl; have hcz31_1 : w29.cell? ⟨gb445, 1, none⟩ = some (.slice (some ad449) l0_1.length c0_1) := (blk_cell BK445.out 1).trans rfl; have hfz31_0 := blk_frozen BK445.out 0; have hfz31_1 := blk_frozen BK445.out 1) | (go_at_call 58; (with_reducible refine (impl_Table_probe.calls k2 a0_0 _ _ l0_1 _ _ _ _ _ _ _ _ _ _ _ _ _ _ t453 _ ?side1 ?side2 A24.out).mono ?_); (case side1 => repeat (first | exact (Kd.C_below HR0_1.out Gv.bw) | (with_reducible refine Kd.C_alloc ?_ _) | (with_reducible refine Kd.C_drewN ?_ _) | (with_reducible refine Kd.C_drew ?_))); (case side2 => exact HC0_1.out); rintro e w32 ⟨rfl, hb⟩; replace BK445 := Gv.b1 BK445 hb; replace BK450 := Gv.b1 BK450 hb; replace HB := Gv.a0 (below_step Gv.bw hb); clear hb) | ((with_reducible refine Gv.gate_load (t := 75) rfl ?_); (try (refine gate_guard (by rfl) ?_; dsimp only)); refine wpList_load_row rfl 75 _ rfl gb450 rfl 75 _ _ _ (by first | exact Gv.kb0 BK450.out | exact Gv.kb1 (Gv.kb0 BK450.out)) Try.underlying75 rfl (by kernel_rfl) ?_) | ((with_reducible refine Gv.gate_load (t := 75) rfl ?_); refine Gv.load_event (cs := [_, _, _, _, _, _, _, _, _, _, _, _, _, _, _, _]) rfl rfl rfl ⟨hx449_0, hx449_1, hx449_2, hx449_3, hx449_4, hx449_5, hx449_6, hx449_7, hx449_8, hx449_9, hx449_10, hx449_11, hx449_12, hx449_13, hx449_14, hx449_15, trivial⟩ Try.underlying75 rfl (by kernel_rfl) ?_))
          go_roundg k2
          case measure => have := HJ1.out; have := HK2.out; omega
          case rel => exact ⟨(wrap64 (x29_2 + 1)), Gv.rq, H', ⟨by have := HJ1.out; have := HK2.out; omega⟩, ⟨by (with_reducible repeat (first | refine blk_drewN ?_ _ | refine blk_drew ?_ | refine blk_alloc ?_ _)); exact BK445.out⟩, ⟨Gv.bw⟩⟩
         ·rw [if_neg c25] at H
          have c25b0 : (t453 == x29_2) = false := beq_eq_false_iff_ne.mpr c25
          have c25b1 : (t453 != x29_2) = true := bne_iff_ne.mpr c25
          obtain rfl := Option.some.inj H
          have p449 : 0 ≤ (x29_2 : Int) := of_decide_eq_true (by first | (with_reducible assumption) | assumption)
          have q449 : x29_2 < (l0_1.length : Int) := of_decide_eq_true (by first | (with_reducible assumption) | assumption)
          obtain ⟨ad449, e449, hx449_0, hx449_1, hx449_2, hx449_3, hx449_4, hx449_5, hx449_6, hx449_7, hx449_8, hx449_9, hx449_10, hx449_11, hx449_12, hx449_13, hx449_14, hx449_15⟩ := at_T75 HR0_1.out x29_2 p449 q449
          (try rw [← Nbq18.out] at hx449_0)
          cases e449
          replace hx449_0 := Gv.bx HB.out hx449_0
          replace hx449_1 := Gv.bx HB.out hx449_1
          replace hx449_2 := Gv.bx HB.out hx449_2
          replace hx449_3 := Gv.bx HB.out hx449_3
          replace hx449_4 := Gv.bx HB.out hx449_4
          replace hx449_5 := Gv.bx HB.out hx449_5
          replace hx449_6 := Gv.bx HB.out hx449_6
          replace hx449_7 := Gv.bx HB.out hx449_7
          replace hx449_8 := Gv.bx HB.out hx449_8
          replace hx449_9 := Gv.bx HB.out hx449_9
          replace hx449_10 := Gv.bx HB.out hx449_10
          replace hx449_11 := Gv.bx HB.out hx449_11
          replace hx449_12 := Gv.bx HB.out hx449_12
          replace hx449_13 := Gv.bx HB.out hx449_13
          replace hx449_14 := Gv.bx HB.out hx449_14
          replace hx449_15 := Gv.bx HB.out hx449_15
          replace p449 := eq_true p449
          replace q449 := eq_true q449
          go_wp2_with (first | ((with_reducible refine gate_dst (N := 4) rfl ?_); (try (refine gate_guard (by rfl) ?_; dsimp only)); refine Gv.bev 4 75 #[.bool false, .int .i64 0, .int .i64 0, .int .i64 0, .int .i64 0, .int .i64 0, .int .i64 0, .int .i64 0, .int .i64 0, .int .i64 0, .int .i64 0, .int .i64 0, .int .i64 0, .int .i64 0, .int .i64 0, .int .i64 0] ?_; intro gb450 hg w33 hbox hb; have BK450 := Gv.a0 (hbox); have GW450 := Gv.a0 ((Gv.ble hg Gv.bw : w.heap.size ≤ gb450)); have GE450 := Gv.a0 ((Gv.ble hg Gv.bw : w.heap.size ≤ gb450)); replace HB := Gv.a0 (below_step Gv.bw hb); have NB445_450 := Gv.a0 ((Gv.nlt hg (Gv.kb BK445.out) : gb445 ≠ gb450)); have NB450_445 := Gv.a0 ((Gv.ngt hg (Gv.kb BK445.out) : gb450 ≠ gb445)); replace BK445 := Gv.b1 BK445 hb; clear hb hbox hg; have hnb34 := NB450_445.out; have hnc34 := NB445_450.out; obtain ⟨hcz35_0, hcz35_1, hcz35_2, hcz35_3, hcz35_4, hcz35_5, hcz35_6, hcz35_7, hcz35_8, hcz35_9, hcz35_10, hcz35_11, hcz35_12, hcz35_13, hcz35_14, hcz35_15⟩ := Gv.c16 BK450.out) | ((with_reducible refine gate_store (t := 75) (p := 4) rfl ?_); refine Gv.store_event rfl rfl rfl rfl rfl (Gv.kb BK450.out) (by kernel_rfl) rfl (by simp; and_intros <;> rfl) ?_; intro w33s hbox hoth hbel; replace BK450 := Gv.a0 (hbox); replace HB := Gv.a0 (hbel w Gv.bw GE450.out); replace BK445 := Gv.a0 ((hoth gb445 NB445_450.out).trans (Gv.kb BK445.out)); clear hbox hoth hbel; (try clear hcz35_0 hcz35_1 hcz35_2 hcz35_3 hcz35_4 hcz35_5 hcz35_6 hcz35_7 hcz35_8 hcz35_9 hcz35_10 hcz35_11 hcz35_12 hcz35_13 hcz35_14 hcz35_15 hfz35_0 hfz35_1 hfz35_2 hfz35_3 hfz35_4 hfz35_5 hfz35_6 hfz35_7 hfz35_8 hfz35_9 hfz35_10 hfz35_11 hfz35_12 hfz35_13 hfz35_14 hfz35_15); obtain ⟨hcz35_0, hcz35_1, hcz35_2, hcz35_3, hcz35_4, hcz35_5, hcz35_6, hcz35_7, hcz35_8, hcz35_9, hcz35_10, hcz35_11, hcz35_12, hcz35_13, hcz35_14, hcz35_15⟩ := Gv.c16 BK450.out) | ((with_reducible refine gate_callee (f := 15) rfl ?_); refine goesL_ (some 44) rfl rfl Try.func15 (by kernel_rfl) rfl #[.agg #[.int .i64 ((rd_T75 l0_1 x29_2).f1.f0), .int .i64 ((rd_T75 l0_1 x29_2).f1.f1.f0.f0), .int .i64 ((rd_T75 l0_1 x29_2).f1.f1.f0.f1), .int .i64 ((rd_T75 l0_1 x29_2).f1.f1.f0.f2), .int .i64 ((rd_T75 l0_1 x29_2).f1.f1.f0.f3), .int .i64 ((rd_T75 l0_1 x29_2).f1.f1.f0.f4), .int .i64 ((rd_T75 l0_1 x29_2).f1.f1.f1.f0), .int .i64 ((rd_T75 l0_1 x29_2).f1.f1.f1.f1), .int .i64 ((rd_T75 l0_1 x29_2).f1.f1.f1.f2), .int .i64 ((rd_T75 l0_1 x29_2).f1.f1.f1.f3), .int .i64 ((rd_T75 l0_1 x29_2).f1.f1.f1.f4), .int .i64 ((rd_T75 l0_1 x29_2).f1.f1.f2), .int .i64 ((rd_T75 l0_1 x29_2).f1.f1.f3), .int .i64 ((rd_T75 l0_1 x29_2).f1.f1.f4)]] rfl Gv.lm ?_; (with_reducible refine (impl_FlowKeyOk.calls k2 _ _ _ _ _ _ _ _ _ _ _ _ _ _ true _ A20.out).mono ?_); rintro e w36 ⟨rfl, hb⟩; refine ⟨_, rfl, ?_⟩; replace BK445 := Gv.a0 (blk_below (g := gb445) (o := .cells #[.int .i64 a0_0, .slice (some ad449) l0_1.length c0_1] 40 (0, 0)) Gv.bkf hb); replace BK450 := Gv.a0 (blk_below (g := gb450) (o := .cells #[.bool true, .int .i64 ((rd_T75 l0_1 x29_2).f1.f0), .int .i64 ((rd_T75 l0_1 x29_2).f1.f1.f0.f0), .int .i64 ((rd_T75 l0_1 x29_2).f1.f1.f0.f1), .int .i64 ((rd_T75 l0_1 x29_2).f1.f1.f0.f2), .int .i64 ((rd_T75 l0_1 x29_2).f1.f1.f0.f3), .int .i64 ((rd_T75 l0_1 x29_2).f1.f1.f0.f4), .int .i64 ((rd_T75 l0_1 x29_2).f1.f1.f1.f0), .int .i64 ((rd_T75 l0_1 x29_2).f1.f1.f1.f1), .int .i64 ((rd_T75 l0_1 x29_2).f1.f1.f1.f2), .int .i64 ((rd_T75 l0_1 x29_2).f1.f1.f1.f3), .int .i64 ((rd_T75 l0_1 x29_2).f1.f1.f1.f4), .int .i64 ((rd_T75 l0_1 x29_2).f1.f1.f2), .int .i64 ((rd_T75 l0_1 x29_2).f1.f1.f3), .int .i64 ((rd_T75 l0_1 x29_2).f1.f1.f4), .int .i64 ((rd_T75 l0_1 x29_2).f2)] 75 (0, 0)) (by (with_reducible repeat (first | refine blk_drewN ?_ _ | refine blk_drew ?_ | refine blk_alloc ?_ _)); exact BK450.out) hb); replace HB := Gv.a0 (below_step Gv.bw hb); clear hb; obtain ⟨hcz37_0, hcz37_1, hcz37_2, hcz37_3, hcz37_4, hcz37_5, hcz37_6, hcz37_7, hcz37_8, hcz37_9, hcz37_10, hcz37_11, hcz37_12, hcz37_13, hcz37_14, hcz37_15⟩ := Gv.c16 BK450.out) | (go_at_call 44; (with_reducible refine (impl_within.calls _ 0 1000000000000 true _ A22.out).mono ?_); rintro e w' ⟨rfl, ⟨nd, rfl⟩⟩; have hcz38_0 : w36.cell? ⟨gb445, 0, none⟩ = some (.int .i64 a0_0) := (blk_cell BK445.out 0).trans rfl; have hcz38_1 : w36.cell? ⟨gb445, 1, none⟩ = some (.slice (some ad449) l0_1.length c0_1) := (blk_cell BK445.out 1).trans rfl; have hfz38_0 := blk_frozen BK445.out 0; have hfz38_1 := blk_frozen BK445.out 1) | (go_at_call 58; (with_reducible refine (impl_Table_probe.calls k2 a0_0 _ _ l0_1 _ _ _ _ _ _ _ _ _ _ _ _ _ _ t453 _ ?side1 ?side2 A24.out).mono ?_); (case side1 => repeat (first | exact (Kd.C_below HR0_1.out Gv.bw) | (with_reducible refine Kd.C_alloc ?_ _) | (with_reducible refine Kd.C_drewN ?_ _) | (with_reducible refine Kd.C_drew ?_))); (case side2 => exact HC0_1.out); rintro e w39 ⟨rfl, hb⟩; replace BK445 := Gv.b1 BK445 hb; replace BK450 := Gv.b1 BK450 hb; replace HB := Gv.a0 (below_step Gv.bw hb); clear hb) | ((with_reducible refine Gv.gate_load (t := 75) rfl ?_); (try (refine gate_guard (by rfl) ?_; dsimp only)); refine wpList_load_row rfl 75 _ rfl gb450 rfl 75 _ _ _ (by first | exact Gv.kb0 BK450.out | exact Gv.kb1 (Gv.kb0 BK450.out)) Try.underlying75 rfl (by kernel_rfl) ?_) | ((with_reducible refine Gv.gate_load (t := 75) rfl ?_); refine Gv.load_event (cs := [_, _, _, _, _, _, _, _, _, _, _, _, _, _, _, _]) rfl rfl rfl ⟨hx449_0, hx449_1, hx449_2, hx449_3, hx449_4, hx449_5, hx449_6, hx449_7, hx449_8, hx449_9, hx449_10, hx449_11, hx449_12, hx449_13, hx449_14, hx449_15, trivial⟩ Try.underlying75 rfl (by kernel_rfl) ?_))
          go_ret
          exact ⟨Gv.rt, Gv.bw⟩
        ·replace c23 := Bool.eq_false_iff.mpr c23
         subst c23
         rw [if_neg (show ¬ (false = true) by decide)] at H
         (try dsimp only at H)
         obtain rfl := Option.some.inj H
         have p449 : 0 ≤ (x29_2 : Int) := of_decide_eq_true (by first | (with_reducible assumption) | assumption)
         have q449 : x29_2 < (l0_1.length : Int) := of_decide_eq_true (by first | (with_reducible assumption) | assumption)
         obtain ⟨ad449, e449, hx449_0, hx449_1, hx449_2, hx449_3, hx449_4, hx449_5, hx449_6, hx449_7, hx449_8, hx449_9, hx449_10, hx449_11, hx449_12, hx449_13, hx449_14, hx449_15⟩ := at_T75 HR0_1.out x29_2 p449 q449
         (try rw [← Nbq18.out] at hx449_0)
         cases e449
         replace hx449_0 := Gv.bx HB.out hx449_0
         replace hx449_1 := Gv.bx HB.out hx449_1
         replace hx449_2 := Gv.bx HB.out hx449_2
         replace hx449_3 := Gv.bx HB.out hx449_3
         replace hx449_4 := Gv.bx HB.out hx449_4
         replace hx449_5 := Gv.bx HB.out hx449_5
         replace hx449_6 := Gv.bx HB.out hx449_6
         replace hx449_7 := Gv.bx HB.out hx449_7
         replace hx449_8 := Gv.bx HB.out hx449_8
         replace hx449_9 := Gv.bx HB.out hx449_9
         replace hx449_10 := Gv.bx HB.out hx449_10
         replace hx449_11 := Gv.bx HB.out hx449_11
         replace hx449_12 := Gv.bx HB.out hx449_12
         replace hx449_13 := Gv.bx HB.out hx449_13
         replace hx449_14 := Gv.bx HB.out hx449_14
         replace hx449_15 := Gv.bx HB.out hx449_15
         replace p449 := eq_true p449
         replace q449 := eq_true q449
         go_wp2_with (first | ((with_reducible refine gate_dst (N := 4) rfl ?_); (try (refine gate_guard (by rfl) ?_; dsimp only)); refine Gv.bev 4 75 #[.bool false, .int .i64 0, .int .i64 0, .int .i64 0, .int .i64 0, .int .i64 0, .int .i64 0, .int .i64 0, .int .i64 0, .int .i64 0, .int .i64 0, .int .i64 0, .int .i64 0, .int .i64 0, .int .i64 0, .int .i64 0] ?_; intro gb450 hg w40 hbox hb; have BK450 := Gv.a0 (hbox); have GW450 := Gv.a0 ((Gv.ble hg Gv.bw : w.heap.size ≤ gb450)); have GE450 := Gv.a0 ((Gv.ble hg Gv.bw : w.heap.size ≤ gb450)); replace HB := Gv.a0 (below_step Gv.bw hb); have NB445_450 := Gv.a0 ((Gv.nlt hg (Gv.kb BK445.out) : gb445 ≠ gb450)); have NB450_445 := Gv.a0 ((Gv.ngt hg (Gv.kb BK445.out) : gb450 ≠ gb445)); replace BK445 := Gv.b1 BK445 hb; clear hb hbox hg; have hnb41 := NB450_445.out; have hnc41 := NB445_450.out; obtain ⟨hcz42_0, hcz42_1, hcz42_2, hcz42_3, hcz42_4, hcz42_5, hcz42_6, hcz42_7, hcz42_8, hcz42_9, hcz42_10, hcz42_11, hcz42_12, hcz42_13, hcz42_14, hcz42_15⟩ := Gv.c16 BK450.out) | ((with_reducible refine gate_store (t := 75) (p := 4) rfl ?_); refine Gv.store_event rfl rfl rfl rfl rfl (Gv.kb BK450.out) (by kernel_rfl) rfl (by simp; and_intros <;> rfl) ?_; intro w40s hbox hoth hbel; replace BK450 := Gv.a0 (hbox); replace HB := Gv.a0 (hbel w Gv.bw GE450.out); replace BK445 := Gv.a0 ((hoth gb445 NB445_450.out).trans (Gv.kb BK445.out)); clear hbox hoth hbel; (try clear hcz42_0 hcz42_1 hcz42_2 hcz42_3 hcz42_4 hcz42_5 hcz42_6 hcz42_7 hcz42_8 hcz42_9 hcz42_10 hcz42_11 hcz42_12 hcz42_13 hcz42_14 hcz42_15 hfz42_0 hfz42_1 hfz42_2 hfz42_3 hfz42_4 hfz42_5 hfz42_6 hfz42_7 hfz42_8 hfz42_9 hfz42_10 hfz42_11 hfz42_12 hfz42_13 hfz42_14 hfz42_15); obtain ⟨hcz42_0, hcz42_1, hcz42_2, hcz42_3, hcz42_4, hcz42_5, hcz42_6, hcz42_7, hcz42_8, hcz42_9, hcz42_10, hcz42_11, hcz42_12, hcz42_13, hcz42_14, hcz42_15⟩ := Gv.c16 BK450.out) | ((with_reducible refine gate_callee (f := 15) rfl ?_); refine goesL_ (some 44) rfl rfl Try.func15 (by kernel_rfl) rfl #[.agg #[.int .i64 ((rd_T75 l0_1 x29_2).f1.f0), .int .i64 ((rd_T75 l0_1 x29_2).f1.f1.f0.f0), .int .i64 ((rd_T75 l0_1 x29_2).f1.f1.f0.f1), .int .i64 ((rd_T75 l0_1 x29_2).f1.f1.f0.f2), .int .i64 ((rd_T75 l0_1 x29_2).f1.f1.f0.f3), .int .i64 ((rd_T75 l0_1 x29_2).f1.f1.f0.f4), .int .i64 ((rd_T75 l0_1 x29_2).f1.f1.f1.f0), .int .i64 ((rd_T75 l0_1 x29_2).f1.f1.f1.f1), .int .i64 ((rd_T75 l0_1 x29_2).f1.f1.f1.f2), .int .i64 ((rd_T75 l0_1 x29_2).f1.f1.f1.f3), .int .i64 ((rd_T75 l0_1 x29_2).f1.f1.f1.f4), .int .i64 ((rd_T75 l0_1 x29_2).f1.f1.f2), .int .i64 ((rd_T75 l0_1 x29_2).f1.f1.f3), .int .i64 ((rd_T75 l0_1 x29_2).f1.f1.f4)]] rfl Gv.lm ?_; (with_reducible refine (impl_FlowKeyOk.calls k2 _ _ _ _ _ _ _ _ _ _ _ _ _ _ true _ A20.out).mono ?_); rintro e w43 ⟨rfl, hb⟩; refine ⟨_, rfl, ?_⟩; replace BK445 := Gv.a0 (blk_below (g := gb445) (o := .cells #[.int .i64 a0_0, .slice (some ad449) l0_1.length c0_1] 40 (0, 0)) Gv.bkf hb); replace BK450 := Gv.a0 (blk_below (g := gb450) (o := .cells #[.bool true, .int .i64 ((rd_T75 l0_1 x29_2).f1.f0), .int .i64 ((rd_T75 l0_1 x29_2).f1.f1.f0.f0), .int .i64 ((rd_T75 l0_1 x29_2).f1.f1.f0.f1), .int .i64 ((rd_T75 l0_1 x29_2).f1.f1.f0.f2), .int .i64 ((rd_T75 l0_1 x29_2).f1.f1.f0.f3), .int .i64 ((rd_T75 l0_1 x29_2).f1.f1.f0.f4), .int .i64 ((rd_T75 l0_1 x29_2).f1.f1.f1.f0), .int .i64 ((rd_T75 l0_1 x29_2).f1.f1.f1.f1), .int .i64 ((rd_T75 l0_1 x29_2).f1.f1.f1.f2), .int .i64 ((rd_T75 l0_1 x29_2).f1.f1.f1.f3), .int .i64 ((rd_T75 l0_1 x29_2).f1.f1.f1.f4), .int .i64 ((rd_T75 l0_1 x29_2).f1.f1.f2), .int .i64 ((rd_T75 l0_1 x29_2).f1.f1.f3), .int .i64 ((rd_T75 l0_1 x29_2).f1.f1.f4), .int .i64 ((rd_T75 l0_1 x29_2).f2)] 75 (0, 0)) (by (with_reducible repeat (first | refine blk_drewN ?_ _ | refine blk_drew ?_ | refine blk_alloc ?_ _)); exact BK450.out) hb); replace HB := Gv.a0 (below_step Gv.bw hb); clear hb; obtain ⟨hcz44_0, hcz44_1, hcz44_2, hcz44_3, hcz44_4, hcz44_5, hcz44_6, hcz44_7, hcz44_8, hcz44_9, hcz44_10, hcz44_11, hcz44_12, hcz44_13, hcz44_14, hcz44_15⟩ := Gv.c16 BK450.out) | (go_at_call 44; (with_reducible refine (impl_within.calls _ 0 1000000000000 false _ A22.out).mono ?_); rintro e w' ⟨rfl, ⟨nd, rfl⟩⟩) | ((with_reducible refine Gv.gate_load (t := 75) rfl ?_); (try (refine gate_guard (by rfl) ?_; dsimp only)); refine wpList_load_row rfl 75 _ rfl gb450 rfl 75 _ _ _ (by first | exact Gv.kb0 BK450.out | exact Gv.kb1 (Gv.kb0 BK450.out)) Try.underlying75 rfl (by kernel_rfl) ?_) | ((with_reducible refine Gv.gate_load (t := 75) rfl ?_); refine Gv.load_event (cs := [_, _, _, _, _, _, _, _, _, _, _, _, _, _, _, _]) rfl rfl rfl ⟨hx449_0, hx449_1, hx449_2, hx449_3, hx449_4, hx449_5, hx449_6, hx449_7, hx449_8, hx449_9, hx449_10, hx449_11, hx449_12, hx449_13, hx449_14, hx449_15, trivial⟩ Try.underlying75 rfl (by kernel_rfl) ?_))
         go_ret
         exact ⟨Gv.rt, Gv.bw⟩
       ·replace c21 := Bool.eq_false_iff.mpr c21
        subst c21
        rw [if_neg (show ¬ (false = true) by decide)] at H
        (try dsimp only at H)
        obtain rfl := Option.some.inj H
        have p449 : 0 ≤ (x29_2 : Int) := of_decide_eq_true (by first | (with_reducible assumption) | assumption)
        have q449 : x29_2 < (l0_1.length : Int) := of_decide_eq_true (by first | (with_reducible assumption) | assumption)
        obtain ⟨ad449, e449, hx449_0, hx449_1, hx449_2, hx449_3, hx449_4, hx449_5, hx449_6, hx449_7, hx449_8, hx449_9, hx449_10, hx449_11, hx449_12, hx449_13, hx449_14, hx449_15⟩ := at_T75 HR0_1.out x29_2 p449 q449
        (try rw [← Nbq18.out] at hx449_0)
        cases e449
        replace hx449_0 := Gv.bx HB.out hx449_0
        replace hx449_1 := Gv.bx HB.out hx449_1
        replace hx449_2 := Gv.bx HB.out hx449_2
        replace hx449_3 := Gv.bx HB.out hx449_3
        replace hx449_4 := Gv.bx HB.out hx449_4
        replace hx449_5 := Gv.bx HB.out hx449_5
        replace hx449_6 := Gv.bx HB.out hx449_6
        replace hx449_7 := Gv.bx HB.out hx449_7
        replace hx449_8 := Gv.bx HB.out hx449_8
        replace hx449_9 := Gv.bx HB.out hx449_9
        replace hx449_10 := Gv.bx HB.out hx449_10
        replace hx449_11 := Gv.bx HB.out hx449_11
        replace hx449_12 := Gv.bx HB.out hx449_12
        replace hx449_13 := Gv.bx HB.out hx449_13
        replace hx449_14 := Gv.bx HB.out hx449_14
        replace hx449_15 := Gv.bx HB.out hx449_15
        replace p449 := eq_true p449
        replace q449 := eq_true q449
        go_wp2_with (first | ((with_reducible refine gate_dst (N := 4) rfl ?_); (try (refine gate_guard (by rfl) ?_; dsimp only)); refine Gv.bev 4 75 #[.bool false, .int .i64 0, .int .i64 0, .int .i64 0, .int .i64 0, .int .i64 0, .int .i64 0, .int .i64 0, .int .i64 0, .int .i64 0, .int .i64 0, .int .i64 0, .int .i64 0, .int .i64 0, .int .i64 0, .int .i64 0] ?_; intro gb450 hg w45 hbox hb; have BK450 := Gv.a0 (hbox); have GW450 := Gv.a0 ((Gv.ble hg Gv.bw : w.heap.size ≤ gb450)); have GE450 := Gv.a0 ((Gv.ble hg Gv.bw : w.heap.size ≤ gb450)); replace HB := Gv.a0 (below_step Gv.bw hb); have NB445_450 := Gv.a0 ((Gv.nlt hg (Gv.kb BK445.out) : gb445 ≠ gb450)); have NB450_445 := Gv.a0 ((Gv.ngt hg (Gv.kb BK445.out) : gb450 ≠ gb445)); replace BK445 := Gv.b1 BK445 hb; clear hb hbox hg; have hnb46 := NB450_445.out; have hnc46 := NB445_450.out; obtain ⟨hcz47_0, hcz47_1, hcz47_2, hcz47_3, hcz47_4, hcz47_5, hcz47_6, hcz47_7, hcz47_8, hcz47_9, hcz47_10, hcz47_11, hcz47_12, hcz47_13, hcz47_14, hcz47_15⟩ := Gv.c16 BK450.out) | ((with_reducible refine gate_store (t := 75) (p := 4) rfl ?_); refine Gv.store_event rfl rfl rfl rfl rfl (Gv.kb BK450.out) (by kernel_rfl) rfl (by simp; and_intros <;> rfl) ?_; intro w45s hbox hoth hbel; replace BK450 := Gv.a0 (hbox); replace HB := Gv.a0 (hbel w Gv.bw GE450.out); replace BK445 := Gv.a0 ((hoth gb445 NB445_450.out).trans (Gv.kb BK445.out)); clear hbox hoth hbel; (try clear hcz47_0 hcz47_1 hcz47_2 hcz47_3 hcz47_4 hcz47_5 hcz47_6 hcz47_7 hcz47_8 hcz47_9 hcz47_10 hcz47_11 hcz47_12 hcz47_13 hcz47_14 hcz47_15 hfz47_0 hfz47_1 hfz47_2 hfz47_3 hfz47_4 hfz47_5 hfz47_6 hfz47_7 hfz47_8 hfz47_9 hfz47_10 hfz47_11 hfz47_12 hfz47_13 hfz47_14 hfz47_15); obtain ⟨hcz47_0, hcz47_1, hcz47_2, hcz47_3, hcz47_4, hcz47_5, hcz47_6, hcz47_7, hcz47_8, hcz47_9, hcz47_10, hcz47_11, hcz47_12, hcz47_13, hcz47_14, hcz47_15⟩ := Gv.c16 BK450.out) | ((with_reducible refine gate_callee (f := 15) rfl ?_); refine goesL_ (some 44) rfl rfl Try.func15 (by kernel_rfl) rfl #[.agg #[.int .i64 ((rd_T75 l0_1 x29_2).f1.f0), .int .i64 ((rd_T75 l0_1 x29_2).f1.f1.f0.f0), .int .i64 ((rd_T75 l0_1 x29_2).f1.f1.f0.f1), .int .i64 ((rd_T75 l0_1 x29_2).f1.f1.f0.f2), .int .i64 ((rd_T75 l0_1 x29_2).f1.f1.f0.f3), .int .i64 ((rd_T75 l0_1 x29_2).f1.f1.f0.f4), .int .i64 ((rd_T75 l0_1 x29_2).f1.f1.f1.f0), .int .i64 ((rd_T75 l0_1 x29_2).f1.f1.f1.f1), .int .i64 ((rd_T75 l0_1 x29_2).f1.f1.f1.f2), .int .i64 ((rd_T75 l0_1 x29_2).f1.f1.f1.f3), .int .i64 ((rd_T75 l0_1 x29_2).f1.f1.f1.f4), .int .i64 ((rd_T75 l0_1 x29_2).f1.f1.f2), .int .i64 ((rd_T75 l0_1 x29_2).f1.f1.f3), .int .i64 ((rd_T75 l0_1 x29_2).f1.f1.f4)]] rfl Gv.lm ?_; (with_reducible refine (impl_FlowKeyOk.calls k2 _ _ _ _ _ _ _ _ _ _ _ _ _ _ false _ A20.out).mono ?_); rintro e w48 ⟨rfl, hb⟩; refine ⟨_, rfl, ?_⟩; replace BK445 := Gv.a0 (blk_below (g := gb445) (o := .cells #[.int .i64 a0_0, .slice (some ad449) l0_1.length c0_1] 40 (0, 0)) Gv.bkf hb); replace BK450 := Gv.a0 (blk_below (g := gb450) (o := .cells #[.bool true, .int .i64 ((rd_T75 l0_1 x29_2).f1.f0), .int .i64 ((rd_T75 l0_1 x29_2).f1.f1.f0.f0), .int .i64 ((rd_T75 l0_1 x29_2).f1.f1.f0.f1), .int .i64 ((rd_T75 l0_1 x29_2).f1.f1.f0.f2), .int .i64 ((rd_T75 l0_1 x29_2).f1.f1.f0.f3), .int .i64 ((rd_T75 l0_1 x29_2).f1.f1.f0.f4), .int .i64 ((rd_T75 l0_1 x29_2).f1.f1.f1.f0), .int .i64 ((rd_T75 l0_1 x29_2).f1.f1.f1.f1), .int .i64 ((rd_T75 l0_1 x29_2).f1.f1.f1.f2), .int .i64 ((rd_T75 l0_1 x29_2).f1.f1.f1.f3), .int .i64 ((rd_T75 l0_1 x29_2).f1.f1.f1.f4), .int .i64 ((rd_T75 l0_1 x29_2).f1.f1.f2), .int .i64 ((rd_T75 l0_1 x29_2).f1.f1.f3), .int .i64 ((rd_T75 l0_1 x29_2).f1.f1.f4), .int .i64 ((rd_T75 l0_1 x29_2).f2)] 75 (0, 0)) (by (with_reducible repeat (first | refine blk_drewN ?_ _ | refine blk_drew ?_ | refine blk_alloc ?_ _)); exact BK450.out) hb); replace HB := Gv.a0 (below_step Gv.bw hb); clear hb) | ((with_reducible refine Gv.gate_load (t := 75) rfl ?_); (try (refine gate_guard (by rfl) ?_; dsimp only)); refine wpList_load_row rfl 75 _ rfl gb450 rfl 75 _ _ _ (by first | exact Gv.kb0 BK450.out | exact Gv.kb1 (Gv.kb0 BK450.out)) Try.underlying75 rfl (by kernel_rfl) ?_) | ((with_reducible refine Gv.gate_load (t := 75) rfl ?_); refine Gv.load_event (cs := [_, _, _, _, _, _, _, _, _, _, _, _, _, _, _, _]) rfl rfl rfl ⟨hx449_0, hx449_1, hx449_2, hx449_3, hx449_4, hx449_5, hx449_6, hx449_7, hx449_8, hx449_9, hx449_10, hx449_11, hx449_12, hx449_13, hx449_14, hx449_15, trivial⟩ Try.underlying75 rfl (by kernel_rfl) ?_))
        go_ret
        exact ⟨Gv.rt, Gv.bw⟩
      ·replace c19 := Bool.eq_false_iff.mpr c19
       subst c19
       rw [if_neg (show ¬ (false = true) by decide)] at H
       (try simp only [Bool.false_or, Bool.true_and] at H)
       by_cases c49 : (((!(((rd_T75 l0_1 x29_2).f1.f0) == 0) || (((!(((rd_T75 l0_1 x29_2).f1.f1.f0.f0) == 0) || (!(((rd_T75 l0_1 x29_2).f1.f1.f0.f1) == 0) || (!(((rd_T75 l0_1 x29_2).f1.f1.f0.f2) == 0) || (!(((rd_T75 l0_1 x29_2).f1.f1.f0.f3) == 0) || (!(((rd_T75 l0_1 x29_2).f1.f1.f0.f4) == 0)))))) || ((!(((rd_T75 l0_1 x29_2).f1.f1.f1.f0) == 0) || (!(((rd_T75 l0_1 x29_2).f1.f1.f1.f1) == 0) || (!(((rd_T75 l0_1 x29_2).f1.f1.f1.f2) == 0) || (!(((rd_T75 l0_1 x29_2).f1.f1.f1.f3) == 0) || (!(((rd_T75 l0_1 x29_2).f1.f1.f1.f4) == 0)))))) || (!(((rd_T75 l0_1 x29_2).f1.f1.f2) == 0) || (!(((rd_T75 l0_1 x29_2).f1.f1.f3) == 0) || (!(((rd_T75 l0_1 x29_2).f1.f1.f4) == 0)))))))) || (!(((rd_T75 l0_1 x29_2).f2) == 0)))) = true
       ·rw [if_pos c49] at H
        have c49b0 : (((!(((rd_T75 l0_1 x29_2).f1.f0) == 0) || (((!(((rd_T75 l0_1 x29_2).f1.f1.f0.f0) == 0) || (!(((rd_T75 l0_1 x29_2).f1.f1.f0.f1) == 0) || (!(((rd_T75 l0_1 x29_2).f1.f1.f0.f2) == 0) || (!(((rd_T75 l0_1 x29_2).f1.f1.f0.f3) == 0) || (!(((rd_T75 l0_1 x29_2).f1.f1.f0.f4) == 0)))))) || ((!(((rd_T75 l0_1 x29_2).f1.f1.f1.f0) == 0) || (!(((rd_T75 l0_1 x29_2).f1.f1.f1.f1) == 0) || (!(((rd_T75 l0_1 x29_2).f1.f1.f1.f2) == 0) || (!(((rd_T75 l0_1 x29_2).f1.f1.f1.f3) == 0) || (!(((rd_T75 l0_1 x29_2).f1.f1.f1.f4) == 0)))))) || (!(((rd_T75 l0_1 x29_2).f1.f1.f2) == 0) || (!(((rd_T75 l0_1 x29_2).f1.f1.f3) == 0) || (!(((rd_T75 l0_1 x29_2).f1.f1.f4) == 0)))))))) || (!(((rd_T75 l0_1 x29_2).f2) == 0)))) = true := c49
        clear c49
        obtain rfl := Option.some.inj H
        have p449 : 0 ≤ (x29_2 : Int) := of_decide_eq_true (by first | (with_reducible assumption) | assumption)
        have q449 : x29_2 < (l0_1.length : Int) := of_decide_eq_true (by first | (with_reducible assumption) | assumption)
        obtain ⟨ad449, e449, hx449_0, hx449_1, hx449_2, hx449_3, hx449_4, hx449_5, hx449_6, hx449_7, hx449_8, hx449_9, hx449_10, hx449_11, hx449_12, hx449_13, hx449_14, hx449_15⟩ := at_T75 HR0_1.out x29_2 p449 q449
        (try rw [← Nbq18.out] at hx449_0)
        cases e449
        replace hx449_0 := Gv.bx HB.out hx449_0
        replace hx449_1 := Gv.bx HB.out hx449_1
        replace hx449_2 := Gv.bx HB.out hx449_2
        replace hx449_3 := Gv.bx HB.out hx449_3
        replace hx449_4 := Gv.bx HB.out hx449_4
        replace hx449_5 := Gv.bx HB.out hx449_5
        replace hx449_6 := Gv.bx HB.out hx449_6
        replace hx449_7 := Gv.bx HB.out hx449_7
        replace hx449_8 := Gv.bx HB.out hx449_8
        replace hx449_9 := Gv.bx HB.out hx449_9
        replace hx449_10 := Gv.bx HB.out hx449_10
        replace hx449_11 := Gv.bx HB.out hx449_11
        replace hx449_12 := Gv.bx HB.out hx449_12
        replace hx449_13 := Gv.bx HB.out hx449_13
        replace hx449_14 := Gv.bx HB.out hx449_14
        replace hx449_15 := Gv.bx HB.out hx449_15
        replace p449 := eq_true p449
        replace q449 := eq_true q449
        go_wp2_with (first | ((with_reducible refine gate_dst (N := 4) rfl ?_); (try (refine gate_guard (by rfl) ?_; dsimp only)); refine Gv.bev 4 75 #[.bool false, .int .i64 0, .int .i64 0, .int .i64 0, .int .i64 0, .int .i64 0, .int .i64 0, .int .i64 0, .int .i64 0, .int .i64 0, .int .i64 0, .int .i64 0, .int .i64 0, .int .i64 0, .int .i64 0, .int .i64 0] ?_; intro gb450 hg w50 hbox hb; have BK450 := Gv.a0 (hbox); have GW450 := Gv.a0 ((Gv.ble hg Gv.bw : w.heap.size ≤ gb450)); have GE450 := Gv.a0 ((Gv.ble hg Gv.bw : w.heap.size ≤ gb450)); replace HB := Gv.a0 (below_step Gv.bw hb); have NB445_450 := Gv.a0 ((Gv.nlt hg (Gv.kb BK445.out) : gb445 ≠ gb450)); have NB450_445 := Gv.a0 ((Gv.ngt hg (Gv.kb BK445.out) : gb450 ≠ gb445)); replace BK445 := Gv.b1 BK445 hb; clear hb hbox hg; have hnb51 := NB450_445.out; have hnc51 := NB445_450.out; obtain ⟨hcz52_0, hcz52_1, hcz52_2, hcz52_3, hcz52_4, hcz52_5, hcz52_6, hcz52_7, hcz52_8, hcz52_9, hcz52_10, hcz52_11, hcz52_12, hcz52_13, hcz52_14, hcz52_15⟩ := Gv.c16 BK450.out) | ((with_reducible refine gate_store (t := 75) (p := 4) rfl ?_); refine Gv.store_event rfl rfl rfl rfl rfl (Gv.kb BK450.out) (by kernel_rfl) rfl (by simp; and_intros <;> rfl) ?_; intro w50s hbox hoth hbel; replace BK450 := Gv.a0 (hbox); replace HB := Gv.a0 (hbel w Gv.bw GE450.out); replace BK445 := Gv.a0 ((hoth gb445 NB445_450.out).trans (Gv.kb BK445.out)); clear hbox hoth hbel; (try clear hcz52_0 hcz52_1 hcz52_2 hcz52_3 hcz52_4 hcz52_5 hcz52_6 hcz52_7 hcz52_8 hcz52_9 hcz52_10 hcz52_11 hcz52_12 hcz52_13 hcz52_14 hcz52_15 hfz52_0 hfz52_1 hfz52_2 hfz52_3 hfz52_4 hfz52_5 hfz52_6 hfz52_7 hfz52_8 hfz52_9 hfz52_10 hfz52_11 hfz52_12 hfz52_13 hfz52_14 hfz52_15); obtain ⟨hcz52_0, hcz52_1, hcz52_2, hcz52_3, hcz52_4, hcz52_5, hcz52_6, hcz52_7, hcz52_8, hcz52_9, hcz52_10, hcz52_11, hcz52_12, hcz52_13, hcz52_14, hcz52_15⟩ := Gv.c16 BK450.out) | ((with_reducible refine Gv.gate_load (t := 75) rfl ?_); (try (refine gate_guard (by rfl) ?_; dsimp only)); refine wpList_load_row rfl 75 _ rfl gb450 rfl 75 _ _ _ (by first | exact Gv.kb0 BK450.out | exact Gv.kb1 (Gv.kb0 BK450.out)) Try.underlying75 rfl (by kernel_rfl) ?_) | ((with_reducible refine Gv.gate_load (t := 75) rfl ?_); refine Gv.load_event (cs := [_, _, _, _, _, _, _, _, _, _, _, _, _, _, _, _]) rfl rfl rfl ⟨hx449_0, hx449_1, hx449_2, hx449_3, hx449_4, hx449_5, hx449_6, hx449_7, hx449_8, hx449_9, hx449_10, hx449_11, hx449_12, hx449_13, hx449_14, hx449_15, trivial⟩ Try.underlying75 rfl (by kernel_rfl) ?_))
        go_ret
        exact ⟨Gv.rt, Gv.bw⟩
       ·rw [if_neg c49] at H
        have c49b0 : (((!(((rd_T75 l0_1 x29_2).f1.f0) == 0) || (((!(((rd_T75 l0_1 x29_2).f1.f1.f0.f0) == 0) || (!(((rd_T75 l0_1 x29_2).f1.f1.f0.f1) == 0) || (!(((rd_T75 l0_1 x29_2).f1.f1.f0.f2) == 0) || (!(((rd_T75 l0_1 x29_2).f1.f1.f0.f3) == 0) || (!(((rd_T75 l0_1 x29_2).f1.f1.f0.f4) == 0)))))) || ((!(((rd_T75 l0_1 x29_2).f1.f1.f1.f0) == 0) || (!(((rd_T75 l0_1 x29_2).f1.f1.f1.f1) == 0) || (!(((rd_T75 l0_1 x29_2).f1.f1.f1.f2) == 0) || (!(((rd_T75 l0_1 x29_2).f1.f1.f1.f3) == 0) || (!(((rd_T75 l0_1 x29_2).f1.f1.f1.f4) == 0)))))) || (!(((rd_T75 l0_1 x29_2).f1.f1.f2) == 0) || (!(((rd_T75 l0_1 x29_2).f1.f1.f3) == 0) || (!(((rd_T75 l0_1 x29_2).f1.f1.f4) == 0)))))))) || (!(((rd_T75 l0_1 x29_2).f2) == 0)))) = false := by simpa using c49
        clear c49
        have H' := Gv.a0 H
        clear H
        have p449 : 0 ≤ (x29_2 : Int) := of_decide_eq_true (by first | (with_reducible assumption) | assumption)
        have q449 : x29_2 < (l0_1.length : Int) := of_decide_eq_true (by first | (with_reducible assumption) | assumption)
        obtain ⟨ad449, e449, hx449_0, hx449_1, hx449_2, hx449_3, hx449_4, hx449_5, hx449_6, hx449_7, hx449_8, hx449_9, hx449_10, hx449_11, hx449_12, hx449_13, hx449_14, hx449_15⟩ := at_T75 HR0_1.out x29_2 p449 q449
        (try rw [← Nbq18.out] at hx449_0)
        cases e449
        replace hx449_0 := Gv.bx HB.out hx449_0
        replace hx449_1 := Gv.bx HB.out hx449_1
        replace hx449_2 := Gv.bx HB.out hx449_2
        replace hx449_3 := Gv.bx HB.out hx449_3
        replace hx449_4 := Gv.bx HB.out hx449_4
        replace hx449_5 := Gv.bx HB.out hx449_5
        replace hx449_6 := Gv.bx HB.out hx449_6
        replace hx449_7 := Gv.bx HB.out hx449_7
        replace hx449_8 := Gv.bx HB.out hx449_8
        replace hx449_9 := Gv.bx HB.out hx449_9
        replace hx449_10 := Gv.bx HB.out hx449_10
        replace hx449_11 := Gv.bx HB.out hx449_11
        replace hx449_12 := Gv.bx HB.out hx449_12
        replace hx449_13 := Gv.bx HB.out hx449_13
        replace hx449_14 := Gv.bx HB.out hx449_14
        replace hx449_15 := Gv.bx HB.out hx449_15
        replace p449 := eq_true p449
        replace q449 := eq_true q449
        go_wp2_with (first | ((with_reducible refine gate_dst (N := 4) rfl ?_); (try (refine gate_guard (by rfl) ?_; dsimp only)); refine Gv.bev 4 75 #[.bool false, .int .i64 0, .int .i64 0, .int .i64 0, .int .i64 0, .int .i64 0, .int .i64 0, .int .i64 0, .int .i64 0, .int .i64 0, .int .i64 0, .int .i64 0, .int .i64 0, .int .i64 0, .int .i64 0, .int .i64 0] ?_; intro gb450 hg w53 hbox hb; have BK450 := Gv.a0 (hbox); have GW450 := Gv.a0 ((Gv.ble hg Gv.bw : w.heap.size ≤ gb450)); have GE450 := Gv.a0 ((Gv.ble hg Gv.bw : w.heap.size ≤ gb450)); replace HB := Gv.a0 (below_step Gv.bw hb); have NB445_450 := Gv.a0 ((Gv.nlt hg (Gv.kb BK445.out) : gb445 ≠ gb450)); have NB450_445 := Gv.a0 ((Gv.ngt hg (Gv.kb BK445.out) : gb450 ≠ gb445)); replace BK445 := Gv.b1 BK445 hb; clear hb hbox hg; have hnb54 := NB450_445.out; have hnc54 := NB445_450.out; obtain ⟨hcz55_0, hcz55_1, hcz55_2, hcz55_3, hcz55_4, hcz55_5, hcz55_6, hcz55_7, hcz55_8, hcz55_9, hcz55_10, hcz55_11, hcz55_12, hcz55_13, hcz55_14, hcz55_15⟩ := Gv.c16 BK450.out) | ((with_reducible refine gate_store (t := 75) (p := 4) rfl ?_); refine Gv.store_event rfl rfl rfl rfl rfl (Gv.kb BK450.out) (by kernel_rfl) rfl (by simp; and_intros <;> rfl) ?_; intro w53s hbox hoth hbel; replace BK450 := Gv.a0 (hbox); replace HB := Gv.a0 (hbel w Gv.bw GE450.out); replace BK445 := Gv.a0 ((hoth gb445 NB445_450.out).trans (Gv.kb BK445.out)); clear hbox hoth hbel; (try clear hcz55_0 hcz55_1 hcz55_2 hcz55_3 hcz55_4 hcz55_5 hcz55_6 hcz55_7 hcz55_8 hcz55_9 hcz55_10 hcz55_11 hcz55_12 hcz55_13 hcz55_14 hcz55_15 hfz55_0 hfz55_1 hfz55_2 hfz55_3 hfz55_4 hfz55_5 hfz55_6 hfz55_7 hfz55_8 hfz55_9 hfz55_10 hfz55_11 hfz55_12 hfz55_13 hfz55_14 hfz55_15); obtain ⟨hcz55_0, hcz55_1, hcz55_2, hcz55_3, hcz55_4, hcz55_5, hcz55_6, hcz55_7, hcz55_8, hcz55_9, hcz55_10, hcz55_11, hcz55_12, hcz55_13, hcz55_14, hcz55_15⟩ := Gv.c16 BK450.out) | ((with_reducible refine Gv.gate_load (t := 75) rfl ?_); (try (refine gate_guard (by rfl) ?_; dsimp only)); refine wpList_load_row rfl 75 _ rfl gb450 rfl 75 _ _ _ (by first | exact Gv.kb0 BK450.out | exact Gv.kb1 (Gv.kb0 BK450.out)) Try.underlying75 rfl (by kernel_rfl) ?_) | ((with_reducible refine Gv.gate_load (t := 75) rfl ?_); refine Gv.load_event (cs := [_, _, _, _, _, _, _, _, _, _, _, _, _, _, _, _]) rfl rfl rfl ⟨hx449_0, hx449_1, hx449_2, hx449_3, hx449_4, hx449_5, hx449_6, hx449_7, hx449_8, hx449_9, hx449_10, hx449_11, hx449_12, hx449_13, hx449_14, hx449_15, trivial⟩ Try.underlying75 rfl (by kernel_rfl) ?_))
        go_roundg k2
        case measure => have := HJ1.out; have := HK2.out; omega
        case rel => exact ⟨(wrap64 (x29_2 + 1)), Gv.rq, H', ⟨by have := HJ1.out; have := HK2.out; omega⟩, ⟨by (with_reducible repeat (first | refine blk_drewN ?_ _ | refine blk_drew ?_ | refine blk_alloc ?_ _)); (repeat (refine blk_far ?_ NB445_450.out _; (with_reducible repeat (first | refine blk_drewN ?_ _ | refine blk_drew ?_ | refine blk_alloc ?_ _)))); (with_reducible repeat (first | refine blk_drewN ?_ _ | refine blk_drew ?_ | refine blk_alloc ?_ _)); exact BK445.out⟩, ⟨Gv.bw⟩⟩
/-! ### impl_Table_find: function 59 -/
def impl_Table_find.f (k : Nat) (a0_0 : Int) (l0_1 : List (S75)) (a1_0 : Int) (a1_1 : Int) (a1_2 : Int) (a1_3 : Int) (a1_4 : Int) (a1_5 : Int) (a1_6 : Int) (a1_7 : Int) (a1_8 : Int) (a1_9 : Int) (a1_10 : Int) (a1_11 : Int) (a1_12 : Int) (a1_13 : Int) : Option (Int × Bool) := (impl_Table_probe.f k a0_0 l0_1 a1_0 a1_1 a1_2 a1_3 a1_4 a1_5 a1_6 a1_7 a1_8 a1_9 a1_10 a1_11 a1_12 a1_13).bind fun t456 => (if t456 < 0 then (some (0, false)) else (if 0 ≤ t456 then (if t456 < (l0_1.length : Int) then (if ((rd_T75 l0_1 t456).f0 = true) then (some ((rd_T75 l0_1 t456).f2, true)) else (some (0, false))) else (none)) else (none)))
set_option maxHeartbeats 8000000 in
set_option maxRecDepth 100000 in
theorem impl_Table_find.calls (k : Nat) (a0_0 : Int) (A0_1 : Option Addr) (c0_1 : Nat) (l0_1 : List (S75)) (a1_0 : Int) (a1_1 : Int) (a1_2 : Int) (a1_3 : Int) (a1_4 : Int) (a1_5 : Int) (a1_6 : Int) (a1_7 : Int) (a1_8 : Int) (a1_9 : Int) (a1_10 : Int) (a1_11 : Int) (a1_12 : Int) (a1_13 : Int) (r1 : Int) (r2 : Bool) (w : World) (hr0_1 : Kd.C k75 w A0_1 l0_1.length l0_1) (hc0_1 : l0_1.length ≤ c0_1) (h : impl_Table_find.f k a0_0 l0_1 a1_0 a1_1 a1_2 a1_3 a1_4 a1_5 a1_6 a1_7 a1_8 a1_9 a1_10 a1_11 a1_12 a1_13 = some (r1, r2)) :
  Calls Try.prog 59 #[.agg #[.int .i64 a0_0, .slice A0_1 l0_1.length c0_1], .agg #[.int .i64 a1_0, .int .i64 a1_1, .int .i64 a1_2, .int .i64 a1_3, .int .i64 a1_4, .int .i64 a1_5, .int .i64 a1_6, .int .i64 a1_7, .int .i64 a1_8, .int .i64 a1_9, .int .i64 a1_10, .int .i64 a1_11, .int .i64 a1_12, .int .i64 a1_13]] w fun e w' => e = .returned (.tuple #[.int .i64 r1, .bool r2]) ∧ Below w.heap.size w w' := by
 have hu40 := Try.underlying40
 have hu33 := Try.underlying33
 have HR0_1 := Gv.a0 hr0_1
 have HC0_1 := Gv.a0 hc0_1
 clear hr0_1 hc0_1
 have HB := Gv.a0 (Below.refl w.heap.size w)
 have H : ((impl_Table_probe.f k a0_0 l0_1 a1_0 a1_1 a1_2 a1_3 a1_4 a1_5 a1_6 a1_7 a1_8 a1_9 a1_10 a1_11 a1_12 a1_13).bind fun t456 => (if t456 < 0 then (some (0, false)) else (if 0 ≤ t456 then (if t456 < (l0_1.length : Int) then (if ((rd_T75 l0_1 t456).f0 = true) then (some ((rd_T75 l0_1 t456).f2, true)) else (some (0, false))) else (none)) else (none)))) = some (r1, r2) := h
 clear h
 replace H := Option.bind_eq_some_iff.mp H
 obtain ⟨t456, A30, H⟩ := H
 (try dsimp only at H)
 have A3 := Gv.a0 A30
 clear A30
 by_cases c4 : t456 < 0
 ·rw [if_pos c4] at H
  have c4b0 : decide (t456 < 0) = true := decide_eq_true c4
  clear c4
  simp only [Option.some.injEq, Prod.mk.injEq] at H
  obtain ⟨rfl, rfl⟩ := H
  go_enter Try.func59, Try.ntmps59
  go_wp2_with (first | ((with_reducible refine gate_dst (N := 2) rfl ?_); refine Gv.bev 2 40 #[.int .i64 a0_0, .slice A0_1 l0_1.length c0_1] ?_; intro gb454 hg w5 hbox hb; have BK454 := Gv.a0 (hbox); have GW454 := Gv.a0 ((Gv.ble hg Gv.bw : w.heap.size ≤ gb454)); have GE454 := Gv.a0 ((Gv.ble hg Gv.bw : w.heap.size ≤ gb454)); replace HB := Gv.a0 (below_step Gv.bw hb); clear hb hbox hg) | ((with_reducible refine gate_dst (N := 3) rfl ?_); refine Gv.bev 3 33 #[.int .i64 a1_0, .int .i64 a1_1, .int .i64 a1_2, .int .i64 a1_3, .int .i64 a1_4, .int .i64 a1_5, .int .i64 a1_6, .int .i64 a1_7, .int .i64 a1_8, .int .i64 a1_9, .int .i64 a1_10, .int .i64 a1_11, .int .i64 a1_12, .int .i64 a1_13] ?_; intro gb455 hg w6 hbox hb; have BK455 := Gv.a0 (hbox); have GW455 := Gv.a0 ((Gv.ble hg Gv.bw : w.heap.size ≤ gb455)); have GE455 := Gv.a0 ((Gv.ble hg Gv.bw : w.heap.size ≤ gb455)); replace HB := Gv.a0 (below_step Gv.bw hb); have NB454_455 := Gv.a0 ((Gv.nlt hg (Gv.kb BK454.out) : gb454 ≠ gb455)); have NB455_454 := Gv.a0 ((Gv.ngt hg (Gv.kb BK454.out) : gb455 ≠ gb454)); replace BK454 := Gv.b1 BK454 hb; clear hb hbox hg; have hnb7 := NB454_455.out; have hnc7 := NB455_454.out; have hcz8_0 : w6.cell? ⟨gb454, 0, none⟩ = some (.int .i64 a0_0) := (blk_cell BK454.out 0).trans rfl; have hcz8_1 : w6.cell? ⟨gb454, 1, none⟩ = some (.slice A0_1 l0_1.length c0_1) := (blk_cell BK454.out 1).trans rfl; have hfz8_0 := blk_frozen BK454.out 0; have hfz8_1 := blk_frozen BK454.out 1; obtain ⟨hcz9_0, hcz9_1, hcz9_2, hcz9_3, hcz9_4, hcz9_5, hcz9_6, hcz9_7, hcz9_8, hcz9_9, hcz9_10, hcz9_11, hcz9_12, hcz9_13⟩ := Gv.c14 BK455.out; obtain ⟨hfz9_0, hfz9_1, hfz9_2, hfz9_3, hfz9_4, hfz9_5, hfz9_6, hfz9_7, hfz9_8, hfz9_9, hfz9_10, hfz9_11, hfz9_12, hfz9_13⟩ := Gv.f14 BK455.out) | ((with_reducible refine gate_callee (f := 58) rfl ?_); refine goesL_ (some 9) rfl rfl Try.func58 (by kernel_rfl) rfl #[.agg #[.int .i64 a0_0, .slice A0_1 l0_1.length c0_1], .agg #[.int .i64 a1_0, .int .i64 a1_1, .int .i64 a1_2, .int .i64 a1_3, .int .i64 a1_4, .int .i64 a1_5, .int .i64 a1_6, .int .i64 a1_7, .int .i64 a1_8, .int .i64 a1_9, .int .i64 a1_10, .int .i64 a1_11, .int .i64 a1_12, .int .i64 a1_13]] rfl Gv.lm ?_; (with_reducible refine (impl_Table_probe.calls k a0_0 _ _ l0_1 a1_0 a1_1 a1_2 a1_3 a1_4 a1_5 a1_6 a1_7 a1_8 a1_9 a1_10 a1_11 a1_12 a1_13 t456 _ ?side1 ?side2 A3.out).mono ?_); (case side1 => exact Gv.sd (Kd.C_below HR0_1.out HB.out)); (case side2 => exact HC0_1.out); rintro e w10 ⟨rfl, hb⟩; refine ⟨_, rfl, ?_⟩; replace BK454 := Gv.b1 BK454 hb; replace BK455 := Gv.b1 BK455 hb; replace HB := Gv.a0 (below_step Gv.bw hb); clear hb))
  go_ret2
  exact ⟨Gv.rt, Gv.bw⟩
 ·rw [if_neg c4] at H
  have c4b0 : decide (t456 < 0) = false := decide_eq_false c4
  clear c4
  by_cases c11 : 0 ≤ t456
  rotate_left
  ·rw [if_neg c11] at H
   exact absurd H (by simp)

  rw [if_pos c11] at H
  have c11b0 : decide (0 ≤ t456) = true := decide_eq_true c11
  clear c11
  by_cases c12 : t456 < (l0_1.length : Int)
  rotate_left
  ·rw [if_neg c12] at H
   exact absurd H (by simp)
  rw [if_pos c12] at H
  have c12b0 : decide (t456 < (l0_1.length : Int)) = true := decide_eq_true c12
  clear c12
  obtain ⟨bq13, hbq13⟩ : ∃ b_ : Bool, b_ = ((rd_T75 l0_1 t456).f0) := ⟨_, rfl⟩
  replace H : (if (bq13 = true) then (some ((rd_T75 l0_1 t456).f2, true)) else (some (0, false))) = some (r1, r2) := by rw [← hbq13] at H; exact H
  have Nbq13 := Gv.a0 hbq13
  clear hbq13
  by_cases c14 : (bq13 = true)
  ·subst c14
   rw [if_pos rfl] at H
   (try dsimp only at H)
   simp only [Option.some.injEq, Prod.mk.injEq] at H
   obtain ⟨rfl, rfl⟩ := H
   go_enter Try.func59, Try.ntmps59
   go_wp2_with (first | ((with_reducible refine gate_dst (N := 2) rfl ?_); refine Gv.bev 2 40 #[.int .i64 a0_0, .slice A0_1 l0_1.length c0_1] ?_; intro gb454 hg w15 hbox hb; have BK454 := Gv.a0 (hbox); have GW454 := Gv.a0 ((Gv.ble hg Gv.bw : w.heap.size ≤ gb454)); have GE454 := Gv.a0 ((Gv.ble hg Gv.bw : w.heap.size ≤ gb454)); replace HB := Gv.a0 (below_step Gv.bw hb); clear hb hbox hg) | ((with_reducible refine gate_dst (N := 3) rfl ?_); refine Gv.bev 3 33 #[.int .i64 a1_0, .int .i64 a1_1, .int .i64 a1_2, .int .i64 a1_3, .int .i64 a1_4, .int .i64 a1_5, .int .i64 a1_6, .int .i64 a1_7, .int .i64 a1_8, .int .i64 a1_9, .int .i64 a1_10, .int .i64 a1_11, .int .i64 a1_12, .int .i64 a1_13] ?_; intro gb455 hg w16 hbox hb; have BK455 := Gv.a0 (hbox); have GW455 := Gv.a0 ((Gv.ble hg Gv.bw : w.heap.size ≤ gb455)); have GE455 := Gv.a0 ((Gv.ble hg Gv.bw : w.heap.size ≤ gb455)); replace HB := Gv.a0 (below_step Gv.bw hb); have NB454_455 := Gv.a0 ((Gv.nlt hg (Gv.kb BK454.out) : gb454 ≠ gb455)); have NB455_454 := Gv.a0 ((Gv.ngt hg (Gv.kb BK454.out) : gb455 ≠ gb454)); replace BK454 := Gv.b1 BK454 hb; clear hb hbox hg; have hnb17 := NB454_455.out; have hnc17 := NB455_454.out; have hcz18_0 : w16.cell? ⟨gb454, 0, none⟩ = some (.int .i64 a0_0) := (blk_cell BK454.out 0).trans rfl; have hcz18_1 : w16.cell? ⟨gb454, 1, none⟩ = some (.slice A0_1 l0_1.length c0_1) := (blk_cell BK454.out 1).trans rfl; have hfz18_0 := blk_frozen BK454.out 0; have hfz18_1 := blk_frozen BK454.out 1; obtain ⟨hcz19_0, hcz19_1, hcz19_2, hcz19_3, hcz19_4, hcz19_5, hcz19_6, hcz19_7, hcz19_8, hcz19_9, hcz19_10, hcz19_11, hcz19_12, hcz19_13⟩ := Gv.c14 BK455.out; obtain ⟨hfz19_0, hfz19_1, hfz19_2, hfz19_3, hfz19_4, hfz19_5, hfz19_6, hfz19_7, hfz19_8, hfz19_9, hfz19_10, hfz19_11, hfz19_12, hfz19_13⟩ := Gv.f14 BK455.out) | ((with_reducible refine gate_callee (f := 58) rfl ?_); refine goesL_ (some 9) rfl rfl Try.func58 (by kernel_rfl) rfl #[.agg #[.int .i64 a0_0, .slice A0_1 l0_1.length c0_1], .agg #[.int .i64 a1_0, .int .i64 a1_1, .int .i64 a1_2, .int .i64 a1_3, .int .i64 a1_4, .int .i64 a1_5, .int .i64 a1_6, .int .i64 a1_7, .int .i64 a1_8, .int .i64 a1_9, .int .i64 a1_10, .int .i64 a1_11, .int .i64 a1_12, .int .i64 a1_13]] rfl Gv.lm ?_; (with_reducible refine (impl_Table_probe.calls k a0_0 _ _ l0_1 a1_0 a1_1 a1_2 a1_3 a1_4 a1_5 a1_6 a1_7 a1_8 a1_9 a1_10 a1_11 a1_12 a1_13 t456 _ ?side1 ?side2 A3.out).mono ?_); (case side1 => exact Gv.sd (Kd.C_below HR0_1.out HB.out)); (case side2 => exact HC0_1.out); rintro e w20 ⟨rfl, hb⟩; refine ⟨_, rfl, ?_⟩; replace BK454 := Gv.b1 BK454 hb; replace BK455 := Gv.b1 BK455 hb; replace HB := Gv.a0 (below_step Gv.bw hb); clear hb; have hcz21_0 : w20.cell? ⟨gb454, 0, none⟩ = some (.int .i64 a0_0) := (blk_cell BK454.out 0).trans rfl; have hcz21_1 : w20.cell? ⟨gb454, 1, none⟩ = some (.slice A0_1 l0_1.length c0_1) := (blk_cell BK454.out 1).trans rfl; have hfz21_0 := blk_frozen BK454.out 0; have hfz21_1 := blk_frozen BK454.out 1; have p457 : 0 ≤ (t456 : Int) := of_decide_eq_true (by first | (with_reducible assumption) | assumption); have q457 : t456 < (l0_1.length : Int) := of_decide_eq_true (by first | (with_reducible assumption) | assumption); obtain ⟨ad457, e457, hx457_0, hx457_1, hx457_2, hx457_3, hx457_4, hx457_5, hx457_6, hx457_7, hx457_8, hx457_9, hx457_10, hx457_11, hx457_12, hx457_13, hx457_14, hx457_15⟩ := at_T75 HR0_1.out t456 p457 q457; (try rw [← Nbq13.out] at hx457_0); cases e457; replace hx457_0 := Gv.bx HB.out hx457_0; replace hx457_1 := Gv.bx HB.out hx457_1; replace hx457_2 := Gv.bx HB.out hx457_2; replace hx457_3 := Gv.bx HB.out hx457_3; replace hx457_4 := Gv.bx HB.out hx457_4; replace hx457_5 := Gv.bx HB.out hx457_5; replace hx457_6 := Gv.bx HB.out hx457_6; replace hx457_7 := Gv.bx HB.out hx457_7; replace hx457_8 := Gv.bx HB.out hx457_8; replace hx457_9 := Gv.bx HB.out hx457_9; replace hx457_10 := Gv.bx HB.out hx457_10; replace hx457_11 := Gv.bx HB.out hx457_11; replace hx457_12 := Gv.bx HB.out hx457_12; replace hx457_13 := Gv.bx HB.out hx457_13; replace hx457_14 := Gv.bx HB.out hx457_14; replace hx457_15 := Gv.bx HB.out hx457_15; replace p457 := eq_true p457; replace q457 := eq_true q457; have p458 : 0 ≤ (t456 : Int) := of_decide_eq_true (by first | (with_reducible assumption) | assumption); have q458 : t456 < (l0_1.length : Int) := of_decide_eq_true (by first | (with_reducible assumption) | assumption); obtain ⟨ad458, e458, hx458_0, hx458_1, hx458_2, hx458_3, hx458_4, hx458_5, hx458_6, hx458_7, hx458_8, hx458_9, hx458_10, hx458_11, hx458_12, hx458_13, hx458_14, hx458_15⟩ := at_T75 HR0_1.out t456 p458 q458; (try rw [← Nbq13.out] at hx458_0); obtain rfl : ad457 = ad458 := (by injection e458); replace hx458_0 := Gv.bx HB.out hx458_0; replace hx458_1 := Gv.bx HB.out hx458_1; replace hx458_2 := Gv.bx HB.out hx458_2; replace hx458_3 := Gv.bx HB.out hx458_3; replace hx458_4 := Gv.bx HB.out hx458_4; replace hx458_5 := Gv.bx HB.out hx458_5; replace hx458_6 := Gv.bx HB.out hx458_6; replace hx458_7 := Gv.bx HB.out hx458_7; replace hx458_8 := Gv.bx HB.out hx458_8; replace hx458_9 := Gv.bx HB.out hx458_9; replace hx458_10 := Gv.bx HB.out hx458_10; replace hx458_11 := Gv.bx HB.out hx458_11; replace hx458_12 := Gv.bx HB.out hx458_12; replace hx458_13 := Gv.bx HB.out hx458_13; replace hx458_14 := Gv.bx HB.out hx458_14; replace hx458_15 := Gv.bx HB.out hx458_15; replace p458 := eq_true p458; replace q458 := eq_true q458))
   go_ret2
   exact ⟨Gv.rt, Gv.bw⟩
  ·replace c14 := Bool.eq_false_iff.mpr c14
   subst c14
   rw [if_neg (show ¬ (false = true) by decide)] at H
   (try dsimp only at H)
   simp only [Option.some.injEq, Prod.mk.injEq] at H
   obtain ⟨rfl, rfl⟩ := H
   go_enter Try.func59, Try.ntmps59
   go_wp2_with (first | ((with_reducible refine gate_dst (N := 2) rfl ?_); refine Gv.bev 2 40 #[.int .i64 a0_0, .slice A0_1 l0_1.length c0_1] ?_; intro gb454 hg w22 hbox hb; have BK454 := Gv.a0 (hbox); have GW454 := Gv.a0 ((Gv.ble hg Gv.bw : w.heap.size ≤ gb454)); have GE454 := Gv.a0 ((Gv.ble hg Gv.bw : w.heap.size ≤ gb454)); replace HB := Gv.a0 (below_step Gv.bw hb); clear hb hbox hg) | ((with_reducible refine gate_dst (N := 3) rfl ?_); refine Gv.bev 3 33 #[.int .i64 a1_0, .int .i64 a1_1, .int .i64 a1_2, .int .i64 a1_3, .int .i64 a1_4, .int .i64 a1_5, .int .i64 a1_6, .int .i64 a1_7, .int .i64 a1_8, .int .i64 a1_9, .int .i64 a1_10, .int .i64 a1_11, .int .i64 a1_12, .int .i64 a1_13] ?_; intro gb455 hg w23 hbox hb; have BK455 := Gv.a0 (hbox); have GW455 := Gv.a0 ((Gv.ble hg Gv.bw : w.heap.size ≤ gb455)); have GE455 := Gv.a0 ((Gv.ble hg Gv.bw : w.heap.size ≤ gb455)); replace HB := Gv.a0 (below_step Gv.bw hb); have NB454_455 := Gv.a0 ((Gv.nlt hg (Gv.kb BK454.out) : gb454 ≠ gb455)); have NB455_454 := Gv.a0 ((Gv.ngt hg (Gv.kb BK454.out) : gb455 ≠ gb454)); replace BK454 := Gv.b1 BK454 hb; clear hb hbox hg; have hnb24 := NB454_455.out; have hnc24 := NB455_454.out; have hcz25_0 : w23.cell? ⟨gb454, 0, none⟩ = some (.int .i64 a0_0) := (blk_cell BK454.out 0).trans rfl; have hcz25_1 : w23.cell? ⟨gb454, 1, none⟩ = some (.slice A0_1 l0_1.length c0_1) := (blk_cell BK454.out 1).trans rfl; have hfz25_0 := blk_frozen BK454.out 0; have hfz25_1 := blk_frozen BK454.out 1; obtain ⟨hcz26_0, hcz26_1, hcz26_2, hcz26_3, hcz26_4, hcz26_5, hcz26_6, hcz26_7, hcz26_8, hcz26_9, hcz26_10, hcz26_11, hcz26_12, hcz26_13⟩ := Gv.c14 BK455.out; obtain ⟨hfz26_0, hfz26_1, hfz26_2, hfz26_3, hfz26_4, hfz26_5, hfz26_6, hfz26_7, hfz26_8, hfz26_9, hfz26_10, hfz26_11, hfz26_12, hfz26_13⟩ := Gv.f14 BK455.out) | ((with_reducible refine gate_callee (f := 58) rfl ?_); refine goesL_ (some 9) rfl rfl Try.func58 (by kernel_rfl) rfl #[.agg #[.int .i64 a0_0, .slice A0_1 l0_1.length c0_1], .agg #[.int .i64 a1_0, .int .i64 a1_1, .int .i64 a1_2, .int .i64 a1_3, .int .i64 a1_4, .int .i64 a1_5, .int .i64 a1_6, .int .i64 a1_7, .int .i64 a1_8, .int .i64 a1_9, .int .i64 a1_10, .int .i64 a1_11, .int .i64 a1_12, .int .i64 a1_13]] rfl Gv.lm ?_; (with_reducible refine (impl_Table_probe.calls k a0_0 _ _ l0_1 a1_0 a1_1 a1_2 a1_3 a1_4 a1_5 a1_6 a1_7 a1_8 a1_9 a1_10 a1_11 a1_12 a1_13 t456 _ ?side1 ?side2 A3.out).mono ?_); (case side1 => exact Gv.sd (Kd.C_below HR0_1.out HB.out)); (case side2 => exact HC0_1.out); rintro e w27 ⟨rfl, hb⟩; refine ⟨_, rfl, ?_⟩; replace BK454 := Gv.b1 BK454 hb; replace BK455 := Gv.b1 BK455 hb; replace HB := Gv.a0 (below_step Gv.bw hb); clear hb; have hcz28_0 : w27.cell? ⟨gb454, 0, none⟩ = some (.int .i64 a0_0) := (blk_cell BK454.out 0).trans rfl; have hcz28_1 : w27.cell? ⟨gb454, 1, none⟩ = some (.slice A0_1 l0_1.length c0_1) := (blk_cell BK454.out 1).trans rfl; have hfz28_0 := blk_frozen BK454.out 0; have hfz28_1 := blk_frozen BK454.out 1; have p457 : 0 ≤ (t456 : Int) := of_decide_eq_true (by first | (with_reducible assumption) | assumption); have q457 : t456 < (l0_1.length : Int) := of_decide_eq_true (by first | (with_reducible assumption) | assumption); obtain ⟨ad457, e457, hx457_0, hx457_1, hx457_2, hx457_3, hx457_4, hx457_5, hx457_6, hx457_7, hx457_8, hx457_9, hx457_10, hx457_11, hx457_12, hx457_13, hx457_14, hx457_15⟩ := at_T75 HR0_1.out t456 p457 q457; (try rw [← Nbq13.out] at hx457_0); cases e457; replace hx457_0 := Gv.bx HB.out hx457_0; replace hx457_1 := Gv.bx HB.out hx457_1; replace hx457_2 := Gv.bx HB.out hx457_2; replace hx457_3 := Gv.bx HB.out hx457_3; replace hx457_4 := Gv.bx HB.out hx457_4; replace hx457_5 := Gv.bx HB.out hx457_5; replace hx457_6 := Gv.bx HB.out hx457_6; replace hx457_7 := Gv.bx HB.out hx457_7; replace hx457_8 := Gv.bx HB.out hx457_8; replace hx457_9 := Gv.bx HB.out hx457_9; replace hx457_10 := Gv.bx HB.out hx457_10; replace hx457_11 := Gv.bx HB.out hx457_11; replace hx457_12 := Gv.bx HB.out hx457_12; replace hx457_13 := Gv.bx HB.out hx457_13; replace hx457_14 := Gv.bx HB.out hx457_14; replace hx457_15 := Gv.bx HB.out hx457_15; replace p457 := eq_true p457; replace q457 := eq_true q457))
   go_ret2
   exact ⟨Gv.rt, Gv.bw⟩
/-! ### impl_Table_isFull: function 63 -/
def impl_Table_isFull.f (k : Nat) (a0_0 : Int) (l0_1 : List (S75)) : Option (Bool) := (impl_Table_used.f k a0_0 l0_1).bind fun t460 => (some ((wrap64 (4 * t460)) == (wrap64 (3 * (l0_1.length : Int)))))
def impl_Table_isFull.T1 : Bool × List (List Nat × List Nat) := (true, [([], []), ([0], [0]), ([1], [1]), ([], []), ([3], [3]), ([4], [4]), ([5], [5]), ([2, 6], [2, 6]), ([7, 1, 0, 1, 2, 3, 4, 5, 6, 7], [7])])
def impl_Table_isFull.B1 : List Nat := [0, 1, 3, 0, 8, 24, 56, 127, 255]
theorem impl_Table_isFull.tab1 : rtab .any (opsOf Try.f63 1) = impl_Table_isFull.T1 := by kernel_rfl
theorem impl_Table_isFull.bits1 : waitsOk impl_Table_isFull.T1.2 impl_Table_isFull.B1 = true := by kernel_rfl
set_option maxHeartbeats 8000000 in
set_option maxRecDepth 100000 in
theorem impl_Table_isFull.calls (k : Nat) (a0_0 : Int) (A0_1 : Option Addr) (c0_1 : Nat) (l0_1 : List (S75)) (r : Bool) (w : World) (hr0_1 : Kd.C k75 w A0_1 l0_1.length l0_1) (hc0_1 : l0_1.length ≤ c0_1) (h : impl_Table_isFull.f k a0_0 l0_1 = some r) :
  Calls Try.prog 63 #[.agg #[.int .i64 a0_0, .slice A0_1 l0_1.length c0_1]] w fun e w' => e = .returned (.bool r) ∧ Below w.heap.size w w' := by
 have hu40 := Try.underlying40
 have HR0_1 := Gv.a0 hr0_1
 have HC0_1 := Gv.a0 hc0_1
 clear hr0_1 hc0_1
 have HB := Gv.a0 (Below.refl w.heap.size w)
 have H : ((impl_Table_used.f k a0_0 l0_1).bind fun t460 => (some ((wrap64 (4 * t460)) == (wrap64 (3 * (l0_1.length : Int)))))) = some r := h
 clear h
 replace H := Option.bind_eq_some_iff.mp H
 obtain ⟨t460, A20, H⟩ := H
 (try dsimp only at H)
 have A2 := Gv.a0 A20
 clear A20
 obtain rfl := Option.some.inj H
 go_enter Try.func63, Try.ntmps63
 try go_wp2_with (first | ((with_reducible refine gate_dst (N := 1) rfl ?_); refine Gv.bev 1 40 #[.int .i64 a0_0, .slice A0_1 l0_1.length c0_1] ?_; intro gb459 hg w3 hbox hb; have BK459 := Gv.a0 (hbox); have GW459 := Gv.a0 ((Gv.ble hg Gv.bw : w.heap.size ≤ gb459)); have GE459 := Gv.a0 ((Gv.ble hg Gv.bw : w.heap.size ≤ gb459)); replace HB := Gv.a0 (below_step Gv.bw hb); clear hb hbox hg))
 replace BK459 := Gv.a0 (blk_drew BK459.out)
 replace HB := Gv.a0 (below_drew1 HB.out)
 refine start_ (n := 9) (S := fun w' => w'.cell? ⟨gb459, 0, none⟩ = some (.int .i64 a0_0) ∧ w'.cell? ⟨gb459, 1, none⟩ = some (.slice A0_1 l0_1.length c0_1)) (ds := []) #[false, false, false, false, false, false, false, false, false] (by kernel_rfl) rfl rfl ⟨Gv.q BK459.out, Gv.q BK459.out⟩ (fun hHeld => ?_); refine with_tabW impl_Table_isFull.tab1 impl_Table_isFull.bits1 (fun HT_ HW_ => ?_)
 generalize w3.drew = w4 at BK459 HB hHeld ⊢
 refine Gv.pu 3 (some 6) HT_ ?_
 refine take_ (i := 0) (N := some 3) (v := ?_) (a' := ?_) #[true, false, false, true, false, false, false, false, false] rfl rfl (take_ofW HT_.out HW_.out (by kernel_rfl)) (fun _ _ _ h => h) (Or.inl ⟨by rfl, ?_⟩) hHeld ?_ ?_
 rotate_left
 ·rintro w' ⟨s0, s1⟩
  go_simp
  with_reducible rfl
 rotate_left
 ·simp only [Act.put, List.setIfInBounds_toArray, List.set_cons_zero, List.set_cons_succ, i64_w, i32_w]
  rfl
 refine take_ (i := 4) (N := some 7) (v := ?_) (a' := ?_) #[true, false, false, true, true, false, false, false, false] rfl rfl (take_ofW HT_.out HW_.out (by kernel_rfl)) (fun _ _ _ h => h) (Or.inl ⟨by rfl, ?_⟩) hHeld ?_ ?_
 rotate_left
 ·rintro w' ⟨s0, s1⟩
  go_simp
  with_reducible rfl
 rotate_left
 ·simp only [Act.put, List.setIfInBounds_toArray, List.set_cons_zero, List.set_cons_succ, i64_w, i32_w]
  rfl
 refine Gv.pu 5 (some 8) HT_ ?_
 refine Gv.pu 6 (some 9) HT_ ?_
 refine one_ (i := 1) (N := some 4) #[true, true, false, true, true, true, true, false, false] rfl rfl (one_of HT_.out (by kernel_rfl)) (by decide) (fun K hK => ?_)
 refine goes_ Try.func57 (by kernel_rfl) rfl #[.agg #[.int .i64 a0_0, .slice A0_1 l0_1.length c0_1]] (by rfl) rfl rfl Gv.lm ?_
 with_reducible refine (impl_Table_used.calls k a0_0 _ _ l0_1 t460 _ ?side1 ?side2 A2.out).mono ?_
 (case side1 => exact Gv.sd (Kd.C_below HR0_1.out HB.out))
 (case side2 => exact HC0_1.out)
 rintro e w5 ⟨rfl, hb⟩
 refine ⟨_, rfl, ?_⟩
 replace BK459 := Gv.b1 BK459 hb
 replace HB := Gv.a0 (below_step Gv.bw hb)
 (try clear hb)
 (try clear hb2)
 (try clear hk)
 (try clear hi)
 refine hK.out _ _ ⟨Gv.q BK459.out, Gv.q BK459.out⟩ (fun hHeld => ?_)
 clear hK K
 refine norm_ (a' := ?_) ?_ ?_
 rotate_left
 ·show Act.put _ (some 4) _ = _
  simp only [Act.put, List.setIfInBounds_toArray, List.set_cons_zero, List.set_cons_succ, i64_w, i32_w]
  rfl
 refine Gv.pu 2 (some 5) HT_ ?_
 refine Gv.pu 7 (some 10) HT_ ?_
 refine Gv.pu 8 (some 2) HT_ ?_
 refine done_ (done_of HT_.out (by kernel_rfl)) ?_
 try go_wp2
 go_ret
 exact ⟨Gv.rt, Gv.bw⟩

/-! ### impl_Cell: function 79 -/
def impl_Cell.f (l0 : List (S75)) : Option ((List (S75))) := (some (([] : List (S75)) : List (S75))).bind fun y461 => (if y461.length + l0.length < 1099511627776 then (some (y461 ++ l0)) else (none))
set_option maxHeartbeats 8000000 in
set_option maxRecDepth 100000 in
theorem impl_Cell.calls (A0 : Option Addr) (c0 : Nat) (l0 : List (S75)) (r : List (S75)) (w : World) (hr0 : Kd.C k75 w A0 l0.length l0) (hc0 : l0.length ≤ c0) (h : impl_Cell.f l0 = some r) :
  Calls Try.prog 79 #[.slice A0 l0.length c0] w fun e w' => ∃ v0_ : Value, e = .returned (v0_) ∧ Kd.R k75 75 w' w.heap.size (fun _ => True) v0_ r ∧ Below w.heap.size w w' := by
 have HR0 := Gv.a0 hr0
 have HC0 := Gv.a0 hc0
 clear hr0 hc0
 have HB := Gv.a0 (Below.refl w.heap.size w)
 have H : ((some (([] : List (S75)) : List (S75))).bind fun y461 => (if y461.length + l0.length < 1099511627776 then (some (y461 ++ l0)) else (none))) = some r := h
 clear h
 obtain ⟨y461, hy461⟩ : ∃ y_ : List (S75), y_ = (([] : List (S75))) := ⟨_, rfl⟩
 replace H : (if y461.length + l0.length < 1099511627776 then (some (y461 ++ l0)) else (none)) = some r := by first | (rw [hy461]; with_reducible exact H) | (have H2_ := (Option.bind_some _ _).symm.trans H; rw [hy461]; with_reducible exact H2_) | (have H2_ := (Option.bind_some _ _).symm.trans H; with_reducible exact H2_) | with_reducible exact H | (rw [hy461]; exact H) | exact H
 have Ny461 := Gv.a0 hy461
 clear hy461
 by_cases c2 : y461.length + l0.length < 1099511627776
 rotate_left
 ·rw [if_neg c2] at H
  exact absurd H (by simp)

 rw [if_pos c2] at H
 have LMc2 := Gv.a0 c2
 clear c2
 obtain ⟨y464, hy464⟩ : ∃ y_ : List (S75), y_ = (y461 ++ l0) := ⟨_, rfl⟩
 replace H : (some y464) = some r := by first | (rw [hy464]; with_reducible exact H) | (have H2_ := (Option.bind_some _ _).symm.trans H; rw [hy464]; with_reducible exact H2_) | (have H2_ := (Option.bind_some _ _).symm.trans H; with_reducible exact H2_) | with_reducible exact H | (rw [hy464]; exact H) | exact H
 have Ny464 := Gv.a0 hy464
 clear hy464
 obtain rfl := Option.some.inj H
 have q_ : ∀ (w : World) (a : Option Addr) (n c n' c' : Nat), (binOp .eql 38 (.slice a n c) (.slice none n' c')).run Try.prog w = .ok (.bool a.isNone) w := fun w a n c n' c' => Lib.run_eql_slice_nil w _ _ a n c n' c' Try.underlying38
 rcases A0 with _ | a0_
 ·have hl : l0 = [] := by
   rcases Nat.eq_zero_or_pos l0.length with h0 | h0
   ·exact List.length_eq_zero_iff.1 h0
   ·obtain ⟨ad, e, _⟩ := HR0.out.2.2 h0
    cases e
  have e_ : y464 = [] := by rw [Ny464.out, Ny461.out, hl]; rfl
  rw [e_]
  clear e_ hl
  go_enter Try.func79, Try.ntmps79
  go_wp2
  go_ret
  exact ⟨_, rfl, Kd.R_nil _ _ _ _ _, HB.out⟩
 go_enter Try.func79, Try.ntmps79
 go_wp2_with (first | ((with_reducible refine gate_dst (N := 5) rfl ?_); refine Kd.R_lit k75 _ 75 ?hg (N := 5) ?hd (xs := ([] : List (S75))) (inner := []) (ok := fun _ => True) (okp := fun _ => True) ?hr ?hp (fun _ hk => hk) trivial (Below.refl _ _) (Nat.le_refl _) (by simp) ?_; (case hd => rfl); (case hg => rfl); (case hr => first | (go_simp; done) | (go_simp; rfl)); (case hp => exact (Reps.none _ _)); intro v462 w3 ho4 hb hg_ hnew_; clear hg_ hnew_; (first | rw [← Ny461.out] at ho4 | (simp only [Int.reduceToNat] at ho4; rw [← Ny461.out] at ho4)); have HO463 := Gv.a0 (Kd.R_lower ho4 (below_size Gv.bw)); replace HB := Gv.a0 (below_step Gv.bw hb); clear hb ho4) | ((with_reducible refine gate_builtin (b := .append) (xs := #[.tmp 5, .tmp 6]) rfl ?_); at_builtin; refine Kd.R_append_rows k75 (w0 := w) w.heap.size rfl (.tmp 5) (.tmp 6) 38 75 (.agg #[(.bool false), (.int .i64 0), (.int .i64 0), (.int .i64 0), (.int .i64 0), (.int .i64 0), (.int .i64 0), (.int .i64 0), (.int .i64 0), (.int .i64 0), (.int .i64 0), (.int .i64 0), (.int .i64 0), (.int .i64 0), (.int .i64 0), (.int .i64 0)]) 128 rfl Try.underlying38 info75 rfl (by decide) (by omega) v462 y461 l0 _ _ _ (fun _ => True) (fun _ => False) rfl rfl ?aO ?aR (fun _ _ h => h) (fun _ h => h.elim) ?aF ?aB ?aS ?aL ?_; (case aR => repeat (first | exact (Kd.C_below HR0.out HB.out) | (with_reducible refine Kd.C_alloc ?_ _) | (with_reducible refine Kd.C_drewN ?_ _) | (with_reducible refine Kd.C_drew ?_))); (case aB => exact Gv.bw); (case aF => exact (fun _ _ => trivial)); (case aO => exact (Gv.kr HO463.out)); (case aS => exact (below_size Gv.bw)); (case aL => have := LMc2.out; omega); intro v465 w5 ho hb hg hat; rw [← Ny464.out] at ho; replace HB := Gv.a0 (hb); have HO466 := Gv.a0 (ho); clear HO463 ho hb hg hat))
 go_ret
 exact ⟨_, Gv.rt, Gv.kr HO466.out, Gv.bw⟩
/-! ### impl_copyTable: function 64 -/
def impl_copyTable.f (a0_0 : Int) (l0_1 : List (S75)) : Option (Int × (List (S75))) := (impl_Cell.f l0_1).bind fun t469 => (some (a0_0, t469))
set_option maxHeartbeats 8000000 in
set_option maxRecDepth 100000 in
theorem impl_copyTable.calls (a0_0 : Int) (A0_1 : Option Addr) (c0_1 : Nat) (l0_1 : List (S75)) (r1 : Int) (r2 : List (S75)) (w : World) (hr0_1 : Kd.C k75 w A0_1 l0_1.length l0_1) (hc0_1 : l0_1.length ≤ c0_1) (h : impl_copyTable.f a0_0 l0_1 = some (r1, r2)) :
  Calls Try.prog 64 #[.agg #[.int .i64 a0_0, .slice A0_1 l0_1.length c0_1]] w fun e w' => ∃ v1_ : Value, e = .returned (.agg #[.int .i64 r1, v1_]) ∧ Kd.R k75 75 w' w.heap.size (fun _ => True) v1_ r2 ∧ Below w.heap.size w w' := by
 have hu40 := Try.underlying40
 have HR0_1 := Gv.a0 hr0_1
 have HC0_1 := Gv.a0 hc0_1
 clear hr0_1 hc0_1
 have HB := Gv.a0 (Below.refl w.heap.size w)
 have H : ((impl_Cell.f l0_1).bind fun t469 => (some (a0_0, t469))) = some (r1, r2) := h
 clear h
 replace H := Option.bind_eq_some_iff.mp H
 obtain ⟨t469, A20, H⟩ := H
 (try dsimp only at H)
 have A2 := Gv.a0 A20
 clear A20
 simp only [Option.some.injEq, Prod.mk.injEq] at H
 obtain ⟨rfl, rfl⟩ := H
 go_enter Try.func64, Try.ntmps64
 try go_wp2_with (first | ((with_reducible refine gate_dst (N := 1) rfl ?_); refine Gv.bev 1 40 #[.int .i64 a0_0, .slice A0_1 l0_1.length c0_1] ?_; intro gb467 hg w3 hbox hb; have BK467 := Gv.a0 (hbox); have GW467 := Gv.a0 ((Gv.ble hg Gv.bw : w.heap.size ≤ gb467)); have GE467 := Gv.a0 ((Gv.ble hg Gv.bw : w.heap.size ≤ gb467)); replace HB := Gv.a0 (below_step Gv.bw hb); clear hb hbox hg) | ((with_reducible refine gate_dst (N := 2) rfl ?_); refine Gv.bev 2 40 #[.int .i64 0, .slice none 0 0] ?_; intro gb468 hg w4 hbox hb; have BK468 := Gv.a0 (hbox); have GW468 := Gv.a0 ((Gv.ble hg Gv.bw : w.heap.size ≤ gb468)); have GE468 := Gv.a0 ((Gv.ble hg Gv.bw : w.heap.size ≤ gb468)); replace HB := Gv.a0 (below_step Gv.bw hb); have NB467_468 := Gv.a0 ((Gv.nlt hg (Gv.kb BK467.out) : gb467 ≠ gb468)); have NB468_467 := Gv.a0 ((Gv.ngt hg (Gv.kb BK467.out) : gb468 ≠ gb467)); replace BK467 := Gv.b1 BK467 hb; clear hb hbox hg))
 replace BK467 := Gv.a0 (blk_drew BK467.out)
 replace BK468 := Gv.a0 (blk_drew BK468.out)
 replace HB := Gv.a0 (below_drew1 HB.out)
 refine start_ (n := 7) (S := fun w' => w'.cell? ⟨gb467, 0, none⟩ = some (.int .i64 a0_0) ∧ w'.cell? ⟨gb467, 1, none⟩ = some (.slice A0_1 l0_1.length c0_1)) (ds := []) #[false, false, false, false, false, false, false] (by kernel_rfl) rfl rfl ⟨Gv.q BK467.out, Gv.q BK467.out⟩ (fun hHeld => ?_)
 generalize w4.drew = w5 at BK467 BK468 HB hHeld ⊢
 refine pure_ (i := 0) (N := some 3) (v := ?_) (a' := ?_) #[true, false, false, false, false, false, false] rfl rfl (by kernel_rfl) (fun _ _ _ h => h) (Or.inl ⟨by rfl, ?_⟩) ?_ ?_
 rotate_left
 ·intro w'
  go_simp
  with_reducible rfl
 rotate_left
 ·simp only [Act.put, List.setIfInBounds_toArray, List.set_cons_zero, List.set_cons_succ, i64_w, i32_w]
  rfl
 refine pure_ (i := 2) (N := some 5) (v := ?_) (a' := ?_) #[true, false, true, false, false, false, false] rfl rfl (by kernel_rfl) (fun _ _ _ h => h) (Or.inl ⟨by rfl, ?_⟩) ?_ ?_
 rotate_left
 ·intro w'
  go_simp
  with_reducible rfl
 rotate_left
 ·simp only [Act.put, List.setIfInBounds_toArray, List.set_cons_zero, List.set_cons_succ, i64_w, i32_w]
  rfl
 refine take_ (i := 1) (N := some 4) (v := ?_) (a' := ?_) #[true, true, true, false, false, false, false] rfl rfl (by kernel_rfl) (fun _ _ _ h => h) (Or.inl ⟨by rfl, ?_⟩) hHeld ?_ ?_
 rotate_left
 ·rintro w' ⟨s0, s1⟩
  go_simp
  with_reducible rfl
 rotate_left
 ·simp only [Act.put, List.setIfInBounds_toArray, List.set_cons_zero, List.set_cons_succ, i64_w, i32_w]
  rfl
 refine take_ (i := 3) (N := some 6) (v := ?_) (a' := ?_) #[true, true, true, true, false, false, false] rfl rfl (by kernel_rfl) (fun _ _ _ h => h) (Or.inl ⟨by rfl, ?_⟩) hHeld ?_ ?_
 rotate_left
 ·rintro w' ⟨s0, s1⟩
  go_simp
  with_reducible rfl
 rotate_left
 ·simp only [Act.put, List.setIfInBounds_toArray, List.set_cons_zero, List.set_cons_succ, i64_w, i32_w]
  rfl
 refine one_ (i := 4) (N := some 7) #[true, true, true, true, true, false, false] rfl rfl (by kernel_rfl) (by decide) (fun K hK => ?_)
 refine goes_ Try.func79 (by kernel_rfl) rfl #[.slice A0_1 l0_1.length c0_1] (by rfl) rfl rfl Gv.lm ?_
 with_reducible refine (impl_Cell.calls _ _ l0_1 t469 _ ?side1 ?side2 A2.out).mono ?_
 (case side1 => exact Gv.sd (Kd.C_below HR0_1.out HB.out))
 (case side2 => exact HC0_1.out)
 rintro e w6 ⟨v470, rfl, ho0, hb⟩
 refine ⟨_, rfl, ?_⟩
 have HO471 := Gv.a0 (Kd.R_lower ho0 (below_size Gv.bw))
 replace BK467 := Gv.b1 BK467 hb
 replace BK468 := Gv.b1 BK468 hb
 replace HB := Gv.a0 (below_step Gv.bw hb)
 (try clear hb)
 (try clear hb2)
 (try clear hk)
 (try clear hi)
 (try clear ho0)
 obtain ⟨Ao7, co7, eo7⟩ := Kd.R_slice HO471.out
 (first | subst eo7 | (injection eo7 with f1_ f2_ f3_; have f4_ := f1_.symm; have f5_ := f3_.symm; clear f1_ f2_ f3_; subst f4_; subst f5_))
 refine hK.out _ _ ⟨Gv.q BK467.out, Gv.q BK467.out⟩ (fun hHeld => ?_)
 clear hK K
 refine norm_ (a' := ?_) ?_ ?_
 rotate_left
 ·show Act.put _ (some 7) _ = _
  simp only [Act.put, List.setIfInBounds_toArray, List.set_cons_zero, List.set_cons_succ, i64_w, i32_w]
  rfl
 refine pure_ (i := 5) (N := some 8) (v := ?_) (a' := ?_) #[true, true, true, true, true, true, false] rfl rfl (by kernel_rfl) (fun _ _ _ h => h) (Or.inl ⟨by rfl, ?_⟩) ?_ ?_
 rotate_left
 ·intro w'
  go_simp
  with_reducible rfl
 rotate_left
 ·simp only [Act.put, List.setIfInBounds_toArray, List.set_cons_zero, List.set_cons_succ, i64_w, i32_w]
  rfl
 refine one_ (i := 6) (N := none) #[true, true, true, true, true, true, true] rfl rfl (by kernel_rfl) (by decide) (fun K hK => ?_)
 have hs8 : w6.cell? ⟨gb468, 0, none⟩ = some (.int .i64 0) := (blk_cell BK468.out 0).trans rfl
 have hfs8 := blk_frozen BK468.out 0
 have hns8_0 := NB467_468.out
 have hms8_0 := NB468_467.out
 have hs9 : w6.cell? ⟨gb468, 1, none⟩ = some (.slice none 0 0) := (blk_cell BK468.out 1).trans rfl
 have hfs9 := blk_frozen BK468.out 1
 have hns9_0 := NB467_468.out
 have hms9_0 := NB468_467.out
 refine skip_ (w1 := ?_) (by rfl) rfl ?_ ?_
 rotate_left
 ·go_simp
  rfl
 refine hK.out _ _ ⟨((cell_far (p := ⟨gb468, _, none⟩) NB467_468.out _).trans (((cell_far (p := ⟨gb468, _, none⟩) NB467_468.out _).trans (hHeld.1)))), ((cell_far (p := ⟨gb468, _, none⟩) NB467_468.out _).trans (((cell_far (p := ⟨gb468, _, none⟩) NB467_468.out _).trans (hHeld.2))))⟩ (fun hHeld => ?_)
 clear hK K
 refine done_ (by kernel_rfl) ?_
 try go_wp2
 refine bodyPost_ret (results_cell_row rfl _ _ gb468 40 #[.int .i64 a0_0, .slice Ao7 t469.length co7] (0, 0) _ rfl (by (with_reducible repeat (first | refine blk_drewN ?_ _ | refine blk_drew ?_ | refine blk_alloc ?_ _)); refine blk_put (cs := #[.int .i64 a0_0, .slice none 0 0]) ?_ 1 _ rfl; (with_reducible repeat (first | refine blk_drewN ?_ _ | refine blk_drew ?_ | refine blk_alloc ?_ _)); refine blk_put (cs := #[.int .i64 0, .slice none 0 0]) ?_ 0 _ rfl; (with_reducible repeat (first | refine blk_drewN ?_ _ | refine blk_drew ?_ | refine blk_alloc ?_ _)); exact BK468.out) Try.underlying40 rfl (by kernel_rfl)) rfl ?_
 exact ⟨_, Gv.rt, by (with_reducible repeat (first | apply Kd.R_alloc | apply Kd.R_drewN | apply Kd.R_drew)); exact Kd.R_mono (Kd.R_far (p := ⟨gb468, 1, none⟩) (Kd.R_far (p := ⟨gb468, 0, none⟩) (Kd.R_types HO471.out BK468.out (by decide)) (fun _ hk => hk.2) (.int .i64 a0_0)) (fun _ hk => hk.2) (.slice Ao7 t469.length co7)) (fun _ hk => trivial), Gv.bw⟩

/-! ### impl_TablePut: function 39 -/
mutual
def impl_TablePut.j0 : Nat → Int → Bool → Int → List (S75) → Int → Int → Int → Int → Int → Int → Int → Int → Int → Int → Int → Int → Int → Int → Option (Int × (List (S75)) × Int)
 | 0, _, _, _, _, _, _, _, _, _, _, _, _, _, _, _, _, _, _ => none
 | k + 1, x2, x23, x473000, x473001, x474000, x474001, x474002, x474003, x474004, x474005, x474006, x474007, x474008, x474009, x474010, x474011, x474012, x474013 => if x23 = true then (some (0, ([] : List (S75)), 1)) else ((impl_Table_find.f k x473000 x473001 x474000 x474001 x474002 x474003 x474004 x474005 x474006 x474007 x474008 x474009 x474010 x474011 x474012 x474013).bind fun bt478 => (if bt478.2 = true then (impl_TablePut.j1 k x2 false x473000 x473001 x474000 x474001 x474002 x474003 x474004 x474005 x474006 x474007 x474008 x474009 x474010 x474011 x474012 x474013) else ((impl_Table_isFull.f k x473000 x473001).bind fun t480 => (impl_TablePut.j1 k x2 t480 x473000 x473001 x474000 x474001 x474002 x474003 x474004 x474005 x474006 x474007 x474008 x474009 x474010 x474011 x474012 x474013))))
def impl_TablePut.j1 : Nat → Int → Bool → Int → List (S75) → Int → Int → Int → Int → Int → Int → Int → Int → Int → Int → Int → Int → Int → Int → Option (Int × (List (S75)) × Int)
 | 0, _, _, _, _, _, _, _, _, _, _, _, _, _, _, _, _, _, _ => none
 | k + 1, x2, x36, x473000, x473001, x474000, x474001, x474002, x474003, x474004, x474005, x474006, x474007, x474008, x474009, x474010, x474011, x474012, x474013 => if x36 = true then (some (0, ([] : List (S75)), 2)) else ((impl_copyTable.f x473000 x473001).bind fun bt481 => ((impl_Table_probe.f k bt481.1 bt481.2 x474000 x474001 x474002 x474003 x474004 x474005 x474006 x474007 x474008 x474009 x474010 x474011 x474012 x474013).bind fun t486 => (if 0 ≤ t486 then (if t486 < (bt481.2.length : Int) then (some (bt481.1, (bt481.2.set (t486 : Int).toNat (⟨true, (⟨x474000, (⟨(⟨x474001, x474002, x474003, x474004, x474005⟩ : S29), (⟨x474006, x474007, x474008, x474009, x474010⟩ : S29), x474011, x474012, x474013⟩ : S31)⟩ : S33), x2⟩ : S75)), 0)) else (none)) else (none))))
end
def impl_TablePut.f (k : Nat) (a0_0 : Int) (l0_1 : List (S75)) (a1_0 : Int) (a1_1 : Int) (a1_2 : Int) (a1_3 : Int) (a1_4 : Int) (a1_5 : Int) (a1_6 : Int) (a1_7 : Int) (a1_8 : Int) (a1_9 : Int) (a1_10 : Int) (a1_11 : Int) (a1_12 : Int) (a1_13 : Int) (a2 : Int) : Option (Int × (List (S75)) × Int) := (impl_TableOk.f k a0_0 l0_1).bind fun t475 => (if t475 = true then ((impl_FlowKeyOk.f k a1_0 a1_1 a1_2 a1_3 a1_4 a1_5 a1_6 a1_7 a1_8 a1_9 a1_10 a1_11 a1_12 a1_13).bind fun t476 => (if t476 = true then ((impl_within.f a2 0 1000000000000).bind fun t477 => (impl_TablePut.j0 k a2 (!t477) a0_0 l0_1 a1_0 a1_1 a1_2 a1_3 a1_4 a1_5 a1_6 a1_7 a1_8 a1_9 a1_10 a1_11 a1_12 a1_13)) else (impl_TablePut.j0 k a2 true a0_0 l0_1 a1_0 a1_1 a1_2 a1_3 a1_4 a1_5 a1_6 a1_7 a1_8 a1_9 a1_10 a1_11 a1_12 a1_13))) else (impl_TablePut.j0 k a2 true a0_0 l0_1 a1_0 a1_1 a1_2 a1_3 a1_4 a1_5 a1_6 a1_7 a1_8 a1_9 a1_10 a1_11 a1_12 a1_13))
def impl_TablePut.T7 : Bool × List (List Nat × List Nat) := (true, [([], []), ([0], [0]), ([], []), ([], []), ([2, 3], [2, 3]), ([], []), ([], []), ([5, 6], [5, 6]), ([1, 4, 0, 1, 2, 3, 4, 5, 6, 7], [1, 4]), ([8, 7, 4, 0, 1, 2, 3, 4, 5, 6, 7], [7, 8])])
def impl_TablePut.B7 : List Nat := [0, 1, 0, 0, 12, 0, 0, 96, 255, 511]
theorem impl_TablePut.tab7 : rtab .any (opsOf Try.f39 7) = impl_TablePut.T7 := by kernel_rfl
theorem impl_TablePut.bits7 : waitsOk impl_TablePut.T7.2 impl_TablePut.B7 = true := by kernel_rfl
set_option maxHeartbeats 8000000 in
set_option maxRecDepth 100000 in
theorem impl_TablePut.calls (k : Nat) (a0_0 : Int) (A0_1 : Option Addr) (c0_1 : Nat) (l0_1 : List (S75)) (a1_0 : Int) (a1_1 : Int) (a1_2 : Int) (a1_3 : Int) (a1_4 : Int) (a1_5 : Int) (a1_6 : Int) (a1_7 : Int) (a1_8 : Int) (a1_9 : Int) (a1_10 : Int) (a1_11 : Int) (a1_12 : Int) (a1_13 : Int) (a2 : Int) (r1 : Int) (r2 : List (S75)) (r3 : Int) (w : World) (hr0_1 : Kd.C k75 w A0_1 l0_1.length l0_1) (hc0_1 : l0_1.length ≤ c0_1) (h : impl_TablePut.f k a0_0 l0_1 a1_0 a1_1 a1_2 a1_3 a1_4 a1_5 a1_6 a1_7 a1_8 a1_9 a1_10 a1_11 a1_12 a1_13 a2 = some (r1, r2, r3)) :
  Calls Try.prog 39 #[.agg #[.int .i64 a0_0, .slice A0_1 l0_1.length c0_1], .agg #[.int .i64 a1_0, .int .i64 a1_1, .int .i64 a1_2, .int .i64 a1_3, .int .i64 a1_4, .int .i64 a1_5, .int .i64 a1_6, .int .i64 a1_7, .int .i64 a1_8, .int .i64 a1_9, .int .i64 a1_10, .int .i64 a1_11, .int .i64 a1_12, .int .i64 a1_13], .int .i64 a2] w fun e w' => ∃ v1_ : Value, e = .returned (.tuple #[.agg #[.int .i64 r1, v1_], .int .i64 r3]) ∧ Kd.R k75 75 w' w.heap.size (fun _ => True) v1_ r2 ∧ Below w.heap.size w w' := by
 have hu40 := Try.underlying40
 have hu33 := Try.underlying33
 have hu75 := Try.underlying75
 have HR0_1 := Gv.a0 hr0_1
 have HC0_1 := Gv.a0 hc0_1
 clear hr0_1 hc0_1
 have HB := Gv.a0 (Below.refl w.heap.size w)
 have H : ((impl_TableOk.f k a0_0 l0_1).bind fun t475 => (if t475 = true then ((impl_FlowKeyOk.f k a1_0 a1_1 a1_2 a1_3 a1_4 a1_5 a1_6 a1_7 a1_8 a1_9 a1_10 a1_11 a1_12 a1_13).bind fun t476 => (if t476 = true then ((impl_within.f a2 0 1000000000000).bind fun t477 => (impl_TablePut.j0 k a2 (!t477) a0_0 l0_1 a1_0 a1_1 a1_2 a1_3 a1_4 a1_5 a1_6 a1_7 a1_8 a1_9 a1_10 a1_11 a1_12 a1_13)) else (impl_TablePut.j0 k a2 true a0_0 l0_1 a1_0 a1_1 a1_2 a1_3 a1_4 a1_5 a1_6 a1_7 a1_8 a1_9 a1_10 a1_11 a1_12 a1_13))) else (impl_TablePut.j0 k a2 true a0_0 l0_1 a1_0 a1_1 a1_2 a1_3 a1_4 a1_5 a1_6 a1_7 a1_8 a1_9 a1_10 a1_11 a1_12 a1_13))) = some (r1, r2, r3) := h
 clear h
 have HC4 := Gv.a0 H
 clear H
 go_enter Try.func39, Try.ntmps39
 go_upto_region 1 with (first | ((with_reducible refine gate_dst (N := 3) rfl ?_); refine Gv.bev 3 40 #[.int .i64 a0_0, .slice A0_1 l0_1.length c0_1] ?_; intro gb472 hg w5 hbox hb; have BK472 := Gv.a0 (hbox); have GW472 := Gv.a0 ((Gv.ble hg Gv.bw : w.heap.size ≤ gb472)); have GE472 := Gv.a0 ((Gv.ble hg Gv.bw : w.heap.size ≤ gb472)); replace HB := Gv.a0 (below_step Gv.bw hb); clear hb hbox hg) | ((with_reducible refine gate_dst (N := 4) rfl ?_); refine Gv.bev 4 33 #[.int .i64 a1_0, .int .i64 a1_1, .int .i64 a1_2, .int .i64 a1_3, .int .i64 a1_4, .int .i64 a1_5, .int .i64 a1_6, .int .i64 a1_7, .int .i64 a1_8, .int .i64 a1_9, .int .i64 a1_10, .int .i64 a1_11, .int .i64 a1_12, .int .i64 a1_13] ?_; intro gb473 hg w6 hbox hb; have BK473 := Gv.a0 (hbox); have GW473 := Gv.a0 ((Gv.ble hg Gv.bw : w.heap.size ≤ gb473)); have GE473 := Gv.a0 ((Gv.ble hg Gv.bw : w.heap.size ≤ gb473)); replace HB := Gv.a0 (below_step Gv.bw hb); have NB472_473 := Gv.a0 ((Gv.nlt hg (Gv.kb BK472.out) : gb472 ≠ gb473)); have NB473_472 := Gv.a0 ((Gv.ngt hg (Gv.kb BK472.out) : gb473 ≠ gb472)); replace BK472 := Gv.b1 BK472 hb; clear hb hbox hg) | ((with_reducible refine gate_store (t := 33) (p := 4) rfl ?_); refine Gv.store_event rfl rfl rfl rfl rfl (Gv.kb BK473.out) (by kernel_rfl) rfl (by simp; and_intros <;> rfl) ?_; intro w6s hbox hoth hbel; replace BK473 := Gv.a0 (hbox); replace HB := Gv.a0 (hbel w Gv.bw GE473.out); replace BK472 := Gv.a0 ((hoth gb472 NB472_473.out).trans (Gv.kb BK472.out)); clear hbox hoth hbel) | ((with_reducible refine gate_dst (N := 6) rfl ?_); refine Gv.bev 6 40 #[.int .i64 0, .slice none 0 0] ?_; intro gb474 hg w7 hbox hb; have BK474 := Gv.a0 (hbox); have GW474 := Gv.a0 ((Gv.ble hg Gv.bw : w.heap.size ≤ gb474)); have GE474 := Gv.a0 ((Gv.ble hg Gv.bw : w.heap.size ≤ gb474)); replace HB := Gv.a0 (below_step Gv.bw hb); have NB472_474 := Gv.a0 ((Gv.nlt hg (Gv.kb BK472.out) : gb472 ≠ gb474)); have NB474_472 := Gv.a0 ((Gv.ngt hg (Gv.kb BK472.out) : gb474 ≠ gb472)); replace BK472 := Gv.b1 BK472 hb; have NB473_474 := Gv.a0 ((Gv.nlt hg (Gv.kb BK473.out) : gb473 ≠ gb474)); have NB474_473 := Gv.a0 ((Gv.ngt hg (Gv.kb BK473.out) : gb474 ≠ gb473)); replace BK473 := Gv.b1 BK473 hb; clear hb hbox hg) | ((with_reducible refine Gv.gate_load (t := 33) rfl ?_); (try (refine gate_guard (by rfl) ?_; dsimp only)); refine wpList_load_row rfl 33 _ rfl gb473 rfl 33 _ _ _ (by first | exact Gv.kb0 BK473.out | exact Gv.kb1 (Gv.kb0 BK473.out)) Try.underlying33 rfl (by kernel_rfl) ?_) | ((with_reducible refine Gv.gate_load (t := 31) rfl ?_); (try (refine gate_guard (by rfl) ?_; dsimp only)); refine Gv.sub_event (g := gb473) 13 rfl rfl rfl (by first | exact Gv.kb0 BK473.out | exact Gv.kb1 (Gv.kb0 BK473.out)) Try.underlying31 rfl (by kernel_rfl) ?_))
 (try simp only [Act.put, List.setIfInBounds_toArray, List.set_cons_zero, List.set_cons_succ])
 go_cut [23] (fun v23 wc => ∃ (kq : Nat) (x23_3 : Bool), v23 = .bool x23_3 ∧ Aside0 (impl_TablePut.j0 kq a2 x23_3 a0_0 l0_1 a1_0 a1_1 a1_2 a1_3 a1_4 a1_5 a1_6 a1_7 a1_8 a1_9 a1_10 a1_11 a1_12 a1_13 = some (r1, r2, r3)) ∧ Aside0 (kq ≤ k) ∧ Aside0 (wc.heap[gb472]? = some (.cells #[.int .i64 a0_0, (.slice A0_1 l0_1.length c0_1)] 40 (0, 0))) ∧ Aside0 (wc.heap[gb473]? = some (.cells #[.int .i64 a1_0, .int .i64 a1_1, .int .i64 a1_2, .int .i64 a1_3, .int .i64 a1_4, .int .i64 a1_5, .int .i64 a1_6, .int .i64 a1_7, .int .i64 a1_8, .int .i64 a1_9, .int .i64 a1_10, .int .i64 a1_11, .int .i64 a1_12, .int .i64 a1_13] 33 (0, 0))) ∧ Aside0 (wc.heap[gb474]? = some (.cells #[.int .i64 0, (.slice none 0 0)] 40 (0, 0))) ∧ Aside0 (Below w.heap.size w wc))
 case first =>
  have H := HC4.out
  clear HC4
  replace H := Option.bind_eq_some_iff.mp H
  obtain ⟨t475, A80, H⟩ := H
  (try dsimp only at H)
  have A8 := Gv.a0 A80
  clear A80
  by_cases c9 : t475 = true
  ·subst c9
   rw [if_pos rfl] at H
   (try dsimp only at H)
   replace H := Option.bind_eq_some_iff.mp H
   obtain ⟨t476, A100, H⟩ := H
   (try dsimp only at H)
   have A10 := Gv.a0 A100
   clear A100
   by_cases c11 : t476 = true
   ·subst c11
    rw [if_pos rfl] at H
    (try dsimp only at H)
    replace H := Option.bind_eq_some_iff.mp H
    obtain ⟨t477, A120, H⟩ := H
    (try dsimp only at H)
    have A12 := Gv.a0 A120
    clear A120
    have H' := Gv.a0 H
    clear H
    have hnb13 := NB472_473.out
    have hnc13 := NB473_472.out
    have hnb14 := NB472_474.out
    have hnc14 := NB474_472.out
    have hcz15_0 : w7.cell? ⟨gb472, 0, none⟩ = some (.int .i64 a0_0) := (blk_cell BK472.out 0).trans rfl
    have hcz15_1 : w7.cell? ⟨gb472, 1, none⟩ = some (.slice A0_1 l0_1.length c0_1) := (blk_cell BK472.out 1).trans rfl
    have hfz15_0 := blk_frozen BK472.out 0
    have hfz15_1 := blk_frozen BK472.out 1
    go_wp2_with (first | ((with_reducible refine gate_callee (f := 26) rfl ?_); refine goesL_ (some 12) rfl rfl Try.func26 (by kernel_rfl) rfl #[.agg #[.int .i64 a0_0, .slice A0_1 l0_1.length c0_1]] rfl Gv.lm ?_; (with_reducible refine (impl_TableOk.calls k a0_0 _ _ l0_1 true _ ?side1 ?side2 A8.out).mono ?_); (case side1 => exact Gv.sd (Kd.C_below HR0_1.out HB.out)); (case side2 => exact HC0_1.out); rintro e w16 ⟨rfl, hb⟩; refine ⟨_, rfl, ?_⟩; replace BK472 := Gv.b1 BK472 hb; replace BK473 := Gv.b1 BK473 hb; replace BK474 := Gv.b1 BK474 hb; replace HB := Gv.a0 (below_step Gv.bw hb); clear hb; have hnb17 := NB473_474.out; have hnc17 := NB474_473.out; obtain ⟨hcz18_0, hcz18_1, hcz18_2, hcz18_3, hcz18_4, hcz18_5, hcz18_6, hcz18_7, hcz18_8, hcz18_9, hcz18_10, hcz18_11, hcz18_12, hcz18_13⟩ := Gv.c14 BK473.out; obtain ⟨hfz18_0, hfz18_1, hfz18_2, hfz18_3, hfz18_4, hfz18_5, hfz18_6, hfz18_7, hfz18_8, hfz18_9, hfz18_10, hfz18_11, hfz18_12, hfz18_13⟩ := Gv.f14 BK473.out) | (go_at_call 15; (with_reducible refine (impl_FlowKeyOk.calls k a1_0 a1_1 a1_2 a1_3 a1_4 a1_5 a1_6 a1_7 a1_8 a1_9 a1_10 a1_11 a1_12 a1_13 true _ A10.out).mono ?_); rintro e w19 ⟨rfl, hb⟩; replace BK472 := Gv.b1 BK472 hb; replace BK473 := Gv.b1 BK473 hb; replace BK474 := Gv.b1 BK474 hb; replace HB := Gv.a0 (below_step Gv.bw hb); clear hb) | (go_at_call 44; (with_reducible refine (impl_within.calls a2 0 1000000000000 t477 _ A12.out).mono ?_); rintro e w' ⟨rfl, ⟨nd, rfl⟩⟩) | ((with_reducible refine Gv.gate_load (t := 33) rfl ?_); (try (refine gate_guard (by rfl) ?_; dsimp only)); refine wpList_load_row rfl 33 _ rfl gb473 rfl 33 _ _ _ (by first | exact Gv.kb0 BK473.out | exact Gv.kb1 (Gv.kb0 BK473.out)) Try.underlying33 rfl (by kernel_rfl) ?_) | ((with_reducible refine Gv.gate_load (t := 31) rfl ?_); (try (refine gate_guard (by rfl) ?_; dsimp only)); refine Gv.sub_event (g := gb473) 13 rfl rfl rfl (by first | exact Gv.kb0 BK473.out | exact Gv.kb1 (Gv.kb0 BK473.out)) Try.underlying31 rfl (by kernel_rfl) ?_))
    go_meet
    case rel => exact ⟨_, (!t477), Gv.rq, H', ⟨by first | omega | exact Nat.le_refl _⟩, ⟨by (with_reducible repeat (first | refine blk_drewN ?_ _ | refine blk_drew ?_ | refine blk_alloc ?_ _)); exact BK472.out⟩, ⟨by (with_reducible repeat (first | refine blk_drewN ?_ _ | refine blk_drew ?_ | refine blk_alloc ?_ _)); exact BK473.out⟩, ⟨by (with_reducible repeat (first | refine blk_drewN ?_ _ | refine blk_drew ?_ | refine blk_alloc ?_ _)); exact BK474.out⟩, ⟨Gv.bw⟩⟩
   ·replace c11 := Bool.eq_false_iff.mpr c11
    subst c11
    rw [if_neg (show ¬ (false = true) by decide)] at H
    (try dsimp only at H)
    have H' := Gv.a0 H
    clear H
    have hnb20 := NB472_473.out
    have hnc20 := NB473_472.out
    have hnb21 := NB472_474.out
    have hnc21 := NB474_472.out
    have hcz22_0 : w7.cell? ⟨gb472, 0, none⟩ = some (.int .i64 a0_0) := (blk_cell BK472.out 0).trans rfl
    have hcz22_1 : w7.cell? ⟨gb472, 1, none⟩ = some (.slice A0_1 l0_1.length c0_1) := (blk_cell BK472.out 1).trans rfl
    have hfz22_0 := blk_frozen BK472.out 0
    have hfz22_1 := blk_frozen BK472.out 1
    go_wp2_with (first | ((with_reducible refine gate_callee (f := 26) rfl ?_); refine goesL_ (some 12) rfl rfl Try.func26 (by kernel_rfl) rfl #[.agg #[.int .i64 a0_0, .slice A0_1 l0_1.length c0_1]] rfl Gv.lm ?_; (with_reducible refine (impl_TableOk.calls k a0_0 _ _ l0_1 true _ ?side1 ?side2 A8.out).mono ?_); (case side1 => exact Gv.sd (Kd.C_below HR0_1.out HB.out)); (case side2 => exact HC0_1.out); rintro e w23 ⟨rfl, hb⟩; refine ⟨_, rfl, ?_⟩; replace BK472 := Gv.b1 BK472 hb; replace BK473 := Gv.b1 BK473 hb; replace BK474 := Gv.b1 BK474 hb; replace HB := Gv.a0 (below_step Gv.bw hb); clear hb; have hnb24 := NB473_474.out; have hnc24 := NB474_473.out; obtain ⟨hcz25_0, hcz25_1, hcz25_2, hcz25_3, hcz25_4, hcz25_5, hcz25_6, hcz25_7, hcz25_8, hcz25_9, hcz25_10, hcz25_11, hcz25_12, hcz25_13⟩ := Gv.c14 BK473.out; obtain ⟨hfz25_0, hfz25_1, hfz25_2, hfz25_3, hfz25_4, hfz25_5, hfz25_6, hfz25_7, hfz25_8, hfz25_9, hfz25_10, hfz25_11, hfz25_12, hfz25_13⟩ := Gv.f14 BK473.out) | (go_at_call 15; (with_reducible refine (impl_FlowKeyOk.calls k a1_0 a1_1 a1_2 a1_3 a1_4 a1_5 a1_6 a1_7 a1_8 a1_9 a1_10 a1_11 a1_12 a1_13 false _ A10.out).mono ?_); rintro e w26 ⟨rfl, hb⟩; replace BK472 := Gv.b1 BK472 hb; replace BK473 := Gv.b1 BK473 hb; replace BK474 := Gv.b1 BK474 hb; replace HB := Gv.a0 (below_step Gv.bw hb); clear hb) | ((with_reducible refine Gv.gate_load (t := 33) rfl ?_); (try (refine gate_guard (by rfl) ?_; dsimp only)); refine wpList_load_row rfl 33 _ rfl gb473 rfl 33 _ _ _ (by first | exact Gv.kb0 BK473.out | exact Gv.kb1 (Gv.kb0 BK473.out)) Try.underlying33 rfl (by kernel_rfl) ?_) | ((with_reducible refine Gv.gate_load (t := 31) rfl ?_); (try (refine gate_guard (by rfl) ?_; dsimp only)); refine Gv.sub_event (g := gb473) 13 rfl rfl rfl (by first | exact Gv.kb0 BK473.out | exact Gv.kb1 (Gv.kb0 BK473.out)) Try.underlying31 rfl (by kernel_rfl) ?_))
    go_meet
    case rel => exact ⟨_, (true), Gv.rq, H', ⟨by first | omega | exact Nat.le_refl _⟩, ⟨by (with_reducible repeat (first | refine blk_drewN ?_ _ | refine blk_drew ?_ | refine blk_alloc ?_ _)); exact BK472.out⟩, ⟨by (with_reducible repeat (first | refine blk_drewN ?_ _ | refine blk_drew ?_ | refine blk_alloc ?_ _)); exact BK473.out⟩, ⟨by (with_reducible repeat (first | refine blk_drewN ?_ _ | refine blk_drew ?_ | refine blk_alloc ?_ _)); exact BK474.out⟩, ⟨Gv.bw⟩⟩
  ·replace c9 := Bool.eq_false_iff.mpr c9
   subst c9
   rw [if_neg (show ¬ (false = true) by decide)] at H
   (try dsimp only at H)
   have H' := Gv.a0 H
   clear H
   have hnb27 := NB472_473.out
   have hnc27 := NB473_472.out
   have hnb28 := NB472_474.out
   have hnc28 := NB474_472.out
   have hcz29_0 : w7.cell? ⟨gb472, 0, none⟩ = some (.int .i64 a0_0) := (blk_cell BK472.out 0).trans rfl
   have hcz29_1 : w7.cell? ⟨gb472, 1, none⟩ = some (.slice A0_1 l0_1.length c0_1) := (blk_cell BK472.out 1).trans rfl
   have hfz29_0 := blk_frozen BK472.out 0
   have hfz29_1 := blk_frozen BK472.out 1
   go_wp2_with (first | ((with_reducible refine gate_callee (f := 26) rfl ?_); refine goesL_ (some 12) rfl rfl Try.func26 (by kernel_rfl) rfl #[.agg #[.int .i64 a0_0, .slice A0_1 l0_1.length c0_1]] rfl Gv.lm ?_; (with_reducible refine (impl_TableOk.calls k a0_0 _ _ l0_1 false _ ?side1 ?side2 A8.out).mono ?_); (case side1 => exact Gv.sd (Kd.C_below HR0_1.out HB.out)); (case side2 => exact HC0_1.out); rintro e w30 ⟨rfl, hb⟩; refine ⟨_, rfl, ?_⟩; replace BK472 := Gv.b1 BK472 hb; replace BK473 := Gv.b1 BK473 hb; replace BK474 := Gv.b1 BK474 hb; replace HB := Gv.a0 (below_step Gv.bw hb); clear hb) | ((with_reducible refine Gv.gate_load (t := 33) rfl ?_); (try (refine gate_guard (by rfl) ?_; dsimp only)); refine wpList_load_row rfl 33 _ rfl gb473 rfl 33 _ _ _ (by first | exact Gv.kb0 BK473.out | exact Gv.kb1 (Gv.kb0 BK473.out)) Try.underlying33 rfl (by kernel_rfl) ?_) | ((with_reducible refine Gv.gate_load (t := 31) rfl ?_); (try (refine gate_guard (by rfl) ?_; dsimp only)); refine Gv.sub_event (g := gb473) 13 rfl rfl rfl (by first | exact Gv.kb0 BK473.out | exact Gv.kb1 (Gv.kb0 BK473.out)) Try.underlying31 rfl (by kernel_rfl) ?_))
   go_meet
   case rel => exact ⟨_, (true), Gv.rq, H', ⟨by first | omega | exact Nat.le_refl _⟩, ⟨by (with_reducible repeat (first | refine blk_drewN ?_ _ | refine blk_drew ?_ | refine blk_alloc ?_ _)); exact BK472.out⟩, ⟨by (with_reducible repeat (first | refine blk_drewN ?_ _ | refine blk_drew ?_ | refine blk_alloc ?_ _)); exact BK473.out⟩, ⟨by (with_reducible repeat (first | refine blk_drewN ?_ _ | refine blk_drew ?_ | refine blk_alloc ?_ _)); exact BK474.out⟩, ⟨Gv.bw⟩⟩
 case rest =>
  clear HC4
  try clear c1
  try clear c2
  try clear p2
  try clear c3
  try clear c9
  try clear c11
  try clear c13
  try clear c14
  try clear c17
  try clear c20
  try clear c21
  try clear c24
  try clear c26
  try clear c27
  try clear c28
  try clear hcz15_0 hcz15_1
  try clear hcz18_0 hcz18_1
  try clear hcz18_10 hcz18_11 hcz18_12 hcz18_13
  try clear hcz18_2 hcz18_3 hcz18_4 hcz18_5 hcz18_6 hcz18_7 hcz18_8 hcz18_9
  try clear hcz22_0 hcz22_1
  try clear hcz25_0 hcz25_1
  try clear hcz25_10 hcz25_11 hcz25_12 hcz25_13
  try clear hcz25_2 hcz25_3 hcz25_4 hcz25_5 hcz25_6 hcz25_7 hcz25_8 hcz25_9
  try clear hcz29_0 hcz29_1
  try clear hfz15_0 hfz15_1
  try clear hfz18_0 hfz18_1
  try clear hfz18_10 hfz18_11 hfz18_12 hfz18_13
  try clear hfz18_2 hfz18_3 hfz18_4 hfz18_5 hfz18_6 hfz18_7 hfz18_8 hfz18_9
  try clear hfz22_0 hfz22_1
  try clear hfz25_0 hfz25_1
  try clear hfz25_10 hfz25_11 hfz25_12 hfz25_13
  try clear hfz25_2 hfz25_3 hfz25_4 hfz25_5 hfz25_6 hfz25_7 hfz25_8 hfz25_9
  try clear hfz29_0 hfz29_1
  obtain ⟨kq, x23_3, rfl, HA, HJ3, BK472, BK473, BK474, HB⟩ := hcut
  cases kq with
  | zero => exact absurd HA.out (by simp [impl_TablePut.j0])
  | succ kj3 =>
   have H := HA.out
   clear HA
   simp only [impl_TablePut.j0] at H
   by_cases c31 : x23_3 = true
   ·subst c31
    rw [if_pos rfl] at H
    (try dsimp only at H)
    simp only [Option.some.injEq, Prod.mk.injEq] at H
    obtain ⟨rfl, rfl, rfl⟩ := H
    have hnb32 := NB474_472.out
    have hnc32 := NB472_474.out
    have hnb33 := NB474_473.out
    have hnc33 := NB473_474.out
    have hcz34_0 : wc.cell? ⟨gb474, 0, none⟩ = some (.int .i64 0) := (blk_cell BK474.out 0).trans rfl
    have hcz34_1 : wc.cell? ⟨gb474, 1, none⟩ = some (.slice none 0 0) := (blk_cell BK474.out 1).trans rfl
    have hfz34_0 := blk_frozen BK474.out 0
    have hfz34_1 := blk_frozen BK474.out 1
    go_wp2_with (first | ((with_reducible refine Gv.gate_load (t := 33) rfl ?_); (try (refine gate_guard (by rfl) ?_; dsimp only)); refine wpList_load_row rfl 33 _ rfl gb473 rfl 33 _ _ _ (by first | exact Gv.kb0 BK473.out | exact Gv.kb1 (Gv.kb0 BK473.out)) Try.underlying33 rfl (by kernel_rfl) ?_) | ((with_reducible refine Gv.gate_load (t := 31) rfl ?_); (try (refine gate_guard (by rfl) ?_; dsimp only)); refine Gv.sub_event (g := gb473) 13 rfl rfl rfl (by first | exact Gv.kb0 BK473.out | exact Gv.kb1 (Gv.kb0 BK473.out)) Try.underlying31 rfl (by kernel_rfl) ?_))
    refine bodyPost_ret (results_ct rfl _ _ gb474 40 #[.int .i64 0, .slice none 0 0] (0, 0) _ rfl (by (with_reducible repeat (first | refine blk_drewN ?_ _ | refine blk_drew ?_ | refine blk_alloc ?_ _)); refine blk_put (cs := #[.int .i64 0, .slice none 0 0]) ?_ 1 _ rfl; (with_reducible repeat (first | refine blk_drewN ?_ _ | refine blk_drew ?_ | refine blk_alloc ?_ _)); refine blk_put (cs := #[.int .i64 0, .slice none 0 0]) ?_ 0 _ rfl; (with_reducible repeat (first | refine blk_drewN ?_ _ | refine blk_drew ?_ | refine blk_alloc ?_ _)); exact BK474.out) Try.underlying40 rfl (by kernel_rfl)) rfl ?_
    exact ⟨_, Gv.rt, by first | exact Kd.R_nil _ _ _ _ _ | exact Kd.N_nil _ _ _ _ _ | exact Kd.V_nil _ _ _ _ _ | exact Kd.Q_nil _ _ _ _ _ | exact Kd.S_nil _ _ _ _ _, Gv.bw⟩
   ·replace c31 := Bool.eq_false_iff.mpr c31
    subst c31
    rw [if_neg (show ¬ (false = true) by decide)] at H
    (try dsimp only at H)
    replace H := Option.bind_eq_some_iff.mp H
    obtain ⟨⟨t478, t479⟩, A350, H⟩ := H
    (try dsimp only at H)
    have A35 := Gv.a0 A350
    clear A350
    have HC36 := Gv.a0 H
    clear H
    have hnb37 := NB472_473.out
    have hnc37 := NB473_472.out
    have hnb38 := NB472_474.out
    have hnc38 := NB474_472.out
    have hcz39_0 : wc.cell? ⟨gb472, 0, none⟩ = some (.int .i64 a0_0) := (blk_cell BK472.out 0).trans rfl
    have hcz39_1 : wc.cell? ⟨gb472, 1, none⟩ = some (.slice A0_1 l0_1.length c0_1) := (blk_cell BK472.out 1).trans rfl
    have hfz39_0 := blk_frozen BK472.out 0
    have hfz39_1 := blk_frozen BK472.out 1
    have hnb40 := NB473_474.out
    have hnc40 := NB474_473.out
    obtain ⟨hcz41_0, hcz41_1, hcz41_2, hcz41_3, hcz41_4, hcz41_5, hcz41_6, hcz41_7, hcz41_8, hcz41_9, hcz41_10, hcz41_11, hcz41_12, hcz41_13⟩ := Gv.c14 BK473.out
    obtain ⟨hfz41_0, hfz41_1, hfz41_2, hfz41_3, hfz41_4, hfz41_5, hfz41_6, hfz41_7, hfz41_8, hfz41_9, hfz41_10, hfz41_11, hfz41_12, hfz41_13⟩ := Gv.f14 BK473.out
    go_upto_region 4 with (first | ((with_reducible refine gate_callee (f := 59) rfl ?_); refine goesL_ (some 28) rfl rfl Try.func59 (by kernel_rfl) rfl #[.agg #[.int .i64 a0_0, .slice A0_1 l0_1.length c0_1], .agg #[.int .i64 a1_0, .int .i64 a1_1, .int .i64 a1_2, .int .i64 a1_3, .int .i64 a1_4, .int .i64 a1_5, .int .i64 a1_6, .int .i64 a1_7, .int .i64 a1_8, .int .i64 a1_9, .int .i64 a1_10, .int .i64 a1_11, .int .i64 a1_12, .int .i64 a1_13]] rfl Gv.lm ?_; (with_reducible refine (impl_Table_find.calls kj3 a0_0 _ _ l0_1 a1_0 a1_1 a1_2 a1_3 a1_4 a1_5 a1_6 a1_7 a1_8 a1_9 a1_10 a1_11 a1_12 a1_13 t478 t479 _ ?side1 ?side2 A35.out).mono ?_); (case side1 => exact Gv.sd (Kd.C_below HR0_1.out HB.out)); (case side2 => exact HC0_1.out); rintro e w42 ⟨rfl, hb⟩; refine ⟨_, rfl, ?_⟩; replace BK472 := Gv.b1 BK472 hb; replace BK473 := Gv.b1 BK473 hb; replace BK474 := Gv.b1 BK474 hb; replace HB := Gv.a0 (below_step Gv.bw hb); clear hb) | ((with_reducible refine Gv.gate_load (t := 33) rfl ?_); (try (refine gate_guard (by rfl) ?_; dsimp only)); refine wpList_load_row rfl 33 _ rfl gb473 rfl 33 _ _ _ (by first | exact Gv.kb0 BK473.out | exact Gv.kb1 (Gv.kb0 BK473.out)) Try.underlying33 rfl (by kernel_rfl) ?_) | ((with_reducible refine Gv.gate_load (t := 31) rfl ?_); (try (refine gate_guard (by rfl) ?_; dsimp only)); refine Gv.sub_event (g := gb473) 13 rfl rfl rfl (by first | exact Gv.kb0 BK473.out | exact Gv.kb1 (Gv.kb0 BK473.out)) Try.underlying31 rfl (by kernel_rfl) ?_))
    (try simp only [Act.put, List.setIfInBounds_toArray, List.set_cons_zero, List.set_cons_succ])
    go_cut [36] (fun v36 wc => ∃ (kq : Nat) (x36_35 : Bool), v36 = .bool x36_35 ∧ Aside0 (impl_TablePut.j1 kq a2 x36_35 a0_0 l0_1 a1_0 a1_1 a1_2 a1_3 a1_4 a1_5 a1_6 a1_7 a1_8 a1_9 a1_10 a1_11 a1_12 a1_13 = some (r1, r2, r3)) ∧ Aside0 (kq ≤ kj3) ∧ Aside0 (wc.heap[gb472]? = some (.cells #[.int .i64 a0_0, (.slice A0_1 l0_1.length c0_1)] 40 (0, 0))) ∧ Aside0 (wc.heap[gb473]? = some (.cells #[.int .i64 a1_0, .int .i64 a1_1, .int .i64 a1_2, .int .i64 a1_3, .int .i64 a1_4, .int .i64 a1_5, .int .i64 a1_6, .int .i64 a1_7, .int .i64 a1_8, .int .i64 a1_9, .int .i64 a1_10, .int .i64 a1_11, .int .i64 a1_12, .int .i64 a1_13] 33 (0, 0))) ∧ Aside0 (wc.heap[gb474]? = some (.cells #[.int .i64 0, (.slice none 0 0)] 40 (0, 0))) ∧ Aside0 (Below w.heap.size w wc))
    case first =>
     have H := HC36.out
     clear HC36
     by_cases c43 : t479 = true
     ·subst c43
      rw [if_pos rfl] at H
      (try dsimp only at H)
      have H' := Gv.a0 H
      clear H
      go_wp2_with (first | ((with_reducible refine Gv.gate_load (t := 33) rfl ?_); (try (refine gate_guard (by rfl) ?_; dsimp only)); refine wpList_load_row rfl 33 _ rfl gb473 rfl 33 _ _ _ (by first | exact Gv.kb0 BK473.out | exact Gv.kb1 (Gv.kb0 BK473.out)) Try.underlying33 rfl (by kernel_rfl) ?_) | ((with_reducible refine Gv.gate_load (t := 31) rfl ?_); (try (refine gate_guard (by rfl) ?_; dsimp only)); refine Gv.sub_event (g := gb473) 13 rfl rfl rfl (by first | exact Gv.kb0 BK473.out | exact Gv.kb1 (Gv.kb0 BK473.out)) Try.underlying31 rfl (by kernel_rfl) ?_))
      go_meet
      case rel => exact ⟨_, (false), Gv.rq, H', ⟨by have := HJ3.out; first | omega | exact Nat.le_refl _⟩, ⟨by (with_reducible repeat (first | refine blk_drewN ?_ _ | refine blk_drew ?_ | refine blk_alloc ?_ _)); exact BK472.out⟩, ⟨by (with_reducible repeat (first | refine blk_drewN ?_ _ | refine blk_drew ?_ | refine blk_alloc ?_ _)); exact BK473.out⟩, ⟨by (with_reducible repeat (first | refine blk_drewN ?_ _ | refine blk_drew ?_ | refine blk_alloc ?_ _)); exact BK474.out⟩, ⟨Gv.bw⟩⟩
     ·replace c43 := Bool.eq_false_iff.mpr c43
      subst c43
      rw [if_neg (show ¬ (false = true) by decide)] at H
      (try dsimp only at H)
      replace H := Option.bind_eq_some_iff.mp H
      obtain ⟨t480, A440, H⟩ := H
      (try dsimp only at H)
      have A44 := Gv.a0 A440
      clear A440
      have H' := Gv.a0 H
      clear H
      have hnb45 := NB472_473.out
      have hnc45 := NB473_472.out
      have hnb46 := NB472_474.out
      have hnc46 := NB474_472.out
      have hcz47_0 : w42.cell? ⟨gb472, 0, none⟩ = some (.int .i64 a0_0) := (blk_cell BK472.out 0).trans rfl
      have hcz47_1 : w42.cell? ⟨gb472, 1, none⟩ = some (.slice A0_1 l0_1.length c0_1) := (blk_cell BK472.out 1).trans rfl
      have hfz47_0 := blk_frozen BK472.out 0
      have hfz47_1 := blk_frozen BK472.out 1
      go_wp2_with (first | (go_at_call 63; (with_reducible refine (impl_Table_isFull.calls kj3 a0_0 _ _ l0_1 t480 _ ?side1 ?side2 A44.out).mono ?_); (case side1 => exact Gv.sd (Kd.C_below HR0_1.out HB.out)); (case side2 => exact HC0_1.out); rintro e w48 ⟨rfl, hb⟩; replace BK472 := Gv.b1 BK472 hb; replace BK473 := Gv.b1 BK473 hb; replace BK474 := Gv.b1 BK474 hb; replace HB := Gv.a0 (below_step Gv.bw hb); clear hb) | ((with_reducible refine Gv.gate_load (t := 33) rfl ?_); (try (refine gate_guard (by rfl) ?_; dsimp only)); refine wpList_load_row rfl 33 _ rfl gb473 rfl 33 _ _ _ (by first | exact Gv.kb0 BK473.out | exact Gv.kb1 (Gv.kb0 BK473.out)) Try.underlying33 rfl (by kernel_rfl) ?_) | ((with_reducible refine Gv.gate_load (t := 31) rfl ?_); (try (refine gate_guard (by rfl) ?_; dsimp only)); refine Gv.sub_event (g := gb473) 13 rfl rfl rfl (by first | exact Gv.kb0 BK473.out | exact Gv.kb1 (Gv.kb0 BK473.out)) Try.underlying31 rfl (by kernel_rfl) ?_))
      go_meet
      case rel => exact ⟨_, (t480), Gv.rq, H', ⟨by have := HJ3.out; first | omega | exact Nat.le_refl _⟩, ⟨by (with_reducible repeat (first | refine blk_drewN ?_ _ | refine blk_drew ?_ | refine blk_alloc ?_ _)); exact BK472.out⟩, ⟨by (with_reducible repeat (first | refine blk_drewN ?_ _ | refine blk_drew ?_ | refine blk_alloc ?_ _)); exact BK473.out⟩, ⟨by (with_reducible repeat (first | refine blk_drewN ?_ _ | refine blk_drew ?_ | refine blk_alloc ?_ _)); exact BK474.out⟩, ⟨Gv.bw⟩⟩
    case rest =>
     clear HC36
     try clear c1
     try clear c2
     try clear p2
     try clear c3
     try clear c4
     try clear c5
     try clear c9
     try clear c11
     try clear c13
     try clear c14
     try clear c17
     try clear c20
     try clear c21
     try clear c24
     try clear c26
     try clear c27
     try clear c28
     try clear c31
     try clear c32
     try clear c33
     try clear c37
     try clear c38
     try clear c39
     try clear c40
     try clear c43
     try clear c45
     try clear c46
     try clear hcz15_0 hcz15_1
     try clear hcz18_0 hcz18_1
     try clear hcz18_10 hcz18_11 hcz18_12 hcz18_13
     try clear hcz18_2 hcz18_3 hcz18_4 hcz18_5 hcz18_6 hcz18_7 hcz18_8 hcz18_9
     try clear hcz22_0 hcz22_1
     try clear hcz25_0 hcz25_1
     try clear hcz25_10 hcz25_11 hcz25_12 hcz25_13
     try clear hcz25_2 hcz25_3 hcz25_4 hcz25_5 hcz25_6 hcz25_7 hcz25_8 hcz25_9
     try clear hcz29_0 hcz29_1
     try clear hcz34_0 hcz34_1
     try clear hcz39_0 hcz39_1
     try clear hcz41_0 hcz41_1
     try clear hcz41_10 hcz41_11 hcz41_12 hcz41_13
     try clear hcz41_2 hcz41_3 hcz41_4 hcz41_5 hcz41_6 hcz41_7 hcz41_8 hcz41_9
     try clear hcz47_0 hcz47_1
     try clear hfz15_0 hfz15_1
     try clear hfz18_0 hfz18_1
     try clear hfz18_10 hfz18_11 hfz18_12 hfz18_13
     try clear hfz18_2 hfz18_3 hfz18_4 hfz18_5 hfz18_6 hfz18_7 hfz18_8 hfz18_9
     try clear hfz22_0 hfz22_1
     try clear hfz25_0 hfz25_1
     try clear hfz25_10 hfz25_11 hfz25_12 hfz25_13
     try clear hfz25_2 hfz25_3 hfz25_4 hfz25_5 hfz25_6 hfz25_7 hfz25_8 hfz25_9
     try clear hfz29_0 hfz29_1
     try clear hfz34_0 hfz34_1
     try clear hfz39_0 hfz39_1
     try clear hfz41_0 hfz41_1
     try clear hfz41_10 hfz41_11 hfz41_12 hfz41_13
     try clear hfz41_2 hfz41_3 hfz41_4 hfz41_5 hfz41_6 hfz41_7 hfz41_8 hfz41_9
     try clear hfz47_0 hfz47_1
     try clear p2
     obtain ⟨kq, x36_35, rfl, HA, HJ35, BK472, BK473, BK474, HB⟩ := hcut
     cases kq with
     | zero => exact absurd HA.out (by simp [impl_TablePut.j1])
     | succ kj35 =>
      have H := HA.out
      clear HA
      simp only [impl_TablePut.j1] at H
      by_cases c49 : x36_35 = true
      ·subst c49
       rw [if_pos rfl] at H
       (try dsimp only at H)
       simp only [Option.some.injEq, Prod.mk.injEq] at H
       obtain ⟨rfl, rfl, rfl⟩ := H
       have hnb50 := NB474_472.out
       have hnc50 := NB472_474.out
       have hnb51 := NB474_473.out
       have hnc51 := NB473_474.out
       have hcz52_0 : wc.cell? ⟨gb474, 0, none⟩ = some (.int .i64 0) := (blk_cell BK474.out 0).trans rfl
       have hcz52_1 : wc.cell? ⟨gb474, 1, none⟩ = some (.slice none 0 0) := (blk_cell BK474.out 1).trans rfl
       have hfz52_0 := blk_frozen BK474.out 0
       have hfz52_1 := blk_frozen BK474.out 1
       go_wp2_with (first | ((with_reducible refine Gv.gate_load (t := 33) rfl ?_); (try (refine gate_guard (by rfl) ?_; dsimp only)); refine wpList_load_row rfl 33 _ rfl gb473 rfl 33 _ _ _ (by first | exact Gv.kb0 BK473.out | exact Gv.kb1 (Gv.kb0 BK473.out)) Try.underlying33 rfl (by kernel_rfl) ?_) | ((with_reducible refine Gv.gate_load (t := 31) rfl ?_); (try (refine gate_guard (by rfl) ?_; dsimp only)); refine Gv.sub_event (g := gb473) 13 rfl rfl rfl (by first | exact Gv.kb0 BK473.out | exact Gv.kb1 (Gv.kb0 BK473.out)) Try.underlying31 rfl (by kernel_rfl) ?_))
       refine bodyPost_ret (results_ct rfl _ _ gb474 40 #[.int .i64 0, .slice none 0 0] (0, 0) _ rfl (by (with_reducible repeat (first | refine blk_drewN ?_ _ | refine blk_drew ?_ | refine blk_alloc ?_ _)); refine blk_put (cs := #[.int .i64 0, .slice none 0 0]) ?_ 1 _ rfl; (with_reducible repeat (first | refine blk_drewN ?_ _ | refine blk_drew ?_ | refine blk_alloc ?_ _)); refine blk_put (cs := #[.int .i64 0, .slice none 0 0]) ?_ 0 _ rfl; (with_reducible repeat (first | refine blk_drewN ?_ _ | refine blk_drew ?_ | refine blk_alloc ?_ _)); exact BK474.out) Try.underlying40 rfl (by kernel_rfl)) rfl ?_
       exact ⟨_, Gv.rt, by first | exact Kd.R_nil _ _ _ _ _ | exact Kd.N_nil _ _ _ _ _ | exact Kd.V_nil _ _ _ _ _ | exact Kd.Q_nil _ _ _ _ _ | exact Kd.S_nil _ _ _ _ _, Gv.bw⟩
      ·replace c49 := Bool.eq_false_iff.mpr c49
       subst c49
       rw [if_neg (show ¬ (false = true) by decide)] at H
       (try dsimp only at H)
       replace H := Option.bind_eq_some_iff.mp H
       obtain ⟨⟨t481, t482⟩, A530, H⟩ := H
       (try dsimp only at H)
       have A53 := Gv.a0 A530
       clear A530
       replace H := Option.bind_eq_some_iff.mp H
       obtain ⟨t486, A540, H⟩ := H
       (try dsimp only at H)
       have A54 := Gv.a0 A540
       clear A540
       by_cases c55 : 0 ≤ t486
       rotate_left
       ·rw [if_neg c55] at H
        exact absurd H (by simp)

       rw [if_pos c55] at H
       have c55b0 : decide (0 ≤ t486) = true := decide_eq_true c55
       clear c55
       by_cases c56 : t486 < (t482.length : Int)
       rotate_left
       ·rw [if_neg c56] at H
        exact absurd H (by simp)
       rw [if_pos c56] at H
       have c56b0 : decide (t486 < (t482.length : Int)) = true := decide_eq_true c56
       clear c56
       obtain ⟨y487, hy487⟩ : ∃ y_ : List (S75), y_ = (t482.set (t486 : Int).toNat (⟨true, (⟨a1_0, (⟨(⟨a1_1, a1_2, a1_3, a1_4, a1_5⟩ : S29), (⟨a1_6, a1_7, a1_8, a1_9, a1_10⟩ : S29), a1_11, a1_12, a1_13⟩ : S31)⟩ : S33), a2⟩ : S75)) := ⟨_, rfl⟩
       replace H : (some (t481, y487, 0)) = some (r1, r2, r3) := by first | (rw [hy487]; with_reducible exact H) | (have H2_ := (Option.bind_some _ _).symm.trans H; rw [hy487]; with_reducible exact H2_) | (have H2_ := (Option.bind_some _ _).symm.trans H; with_reducible exact H2_) | with_reducible exact H | (rw [hy487]; exact H) | exact H
       have Ny487 := Gv.a0 hy487
       clear hy487
       simp only [Option.some.injEq, Prod.mk.injEq] at H
       obtain ⟨rfl, rfl, rfl⟩ := H
       have hnb58 := NB472_473.out
       have hnc58 := NB473_472.out
       have hnb59 := NB472_474.out
       have hnc59 := NB474_472.out
       have hcz60_0 : wc.cell? ⟨gb472, 0, none⟩ = some (.int .i64 a0_0) := (blk_cell BK472.out 0).trans rfl
       have hcz60_1 : wc.cell? ⟨gb472, 1, none⟩ = some (.slice A0_1 l0_1.length c0_1) := (blk_cell BK472.out 1).trans rfl
       have hfz60_0 := blk_frozen BK472.out 0
       have hfz60_1 := blk_frozen BK472.out 1
       try go_wp2_with (first | ((with_reducible refine gate_callee (f := 64) rfl ?_); refine goesL_ (some 39) rfl rfl Try.func64 (by kernel_rfl) rfl #[.agg #[.int .i64 a0_0, .slice A0_1 l0_1.length c0_1]] rfl Gv.lm ?_; (with_reducible refine (impl_copyTable.calls a0_0 _ _ l0_1 t481 t482 _ ?side1 ?side2 A53.out).mono ?_); (case side1 => exact Gv.sd (Kd.C_below HR0_1.out HB.out)); (case side2 => exact HC0_1.out); rintro e w61 ⟨v483, rfl, ho0, hb⟩; refine ⟨_, rfl, ?_⟩; have HO484 := Gv.a0 (Kd.R_lower ho0 (below_size Gv.bw)); replace BK472 := Gv.b1 BK472 hb; replace BK473 := Gv.b1 BK473 hb; replace BK474 := Gv.b1 BK474 hb; replace HB := Gv.a0 (below_step Gv.bw hb); clear hb ho0) | ((with_reducible refine gate_dst (N := 10) rfl ?_); refine Gv.bev 10 40 #[.int .i64 0, .slice none 0 0] ?_; intro gb485 hg w62 hbox hb; replace HO484 := Gv.a0 (Kd.R_below (Gv.kr HO484.out) hb); have BK485 := Gv.a0 (hbox); have GW485 := Gv.a0 ((Gv.ble hg Gv.bw : w.heap.size ≤ gb485)); have GE485 := Gv.a0 ((Gv.ble hg Gv.bw : w.heap.size ≤ gb485)); replace HB := Gv.a0 (below_step Gv.bw hb); have NB472_485 := Gv.a0 ((Gv.nlt hg (Gv.kb BK472.out) : gb472 ≠ gb485)); have NB485_472 := Gv.a0 ((Gv.ngt hg (Gv.kb BK472.out) : gb485 ≠ gb472)); replace BK472 := Gv.b1 BK472 hb; have NB473_485 := Gv.a0 ((Gv.nlt hg (Gv.kb BK473.out) : gb473 ≠ gb485)); have NB485_473 := Gv.a0 ((Gv.ngt hg (Gv.kb BK473.out) : gb485 ≠ gb473)); replace BK473 := Gv.b1 BK473 hb; have NB474_485 := Gv.a0 ((Gv.nlt hg (Gv.kb BK474.out) : gb474 ≠ gb485)); have NB485_474 := Gv.a0 ((Gv.ngt hg (Gv.kb BK474.out) : gb485 ≠ gb474)); replace BK474 := Gv.b1 BK474 hb; clear hb hbox hg; have hnb63 := NB485_472.out; have hnc63 := NB472_485.out; have hnb64 := NB485_473.out; have hnc64 := NB473_485.out; have hnb65 := NB485_474.out; have hnc65 := NB474_485.out; have hcz66_0 : w62.cell? ⟨gb485, 0, none⟩ = some (.int .i64 0) := (blk_cell BK485.out 0).trans rfl; have hcz66_1 : w62.cell? ⟨gb485, 1, none⟩ = some (.slice none 0 0) := (blk_cell BK485.out 1).trans rfl; have hfz66_0 := blk_frozen BK485.out 0; have hfz66_1 := blk_frozen BK485.out 1; obtain ⟨Ao67, co67, eo67⟩ := Kd.R_slice HO484.out; subst eo67) | ((with_reducible refine Gv.gate_load (t := 33) rfl ?_); (try (refine gate_guard (by rfl) ?_; dsimp only)); refine wpList_load_row rfl 33 _ rfl gb473 rfl 33 _ _ _ (by first | exact Gv.kb0 BK473.out | exact Gv.kb1 (Gv.kb0 BK473.out)) Try.underlying33 rfl (by kernel_rfl) ?_) | ((with_reducible refine Gv.gate_load (t := 31) rfl ?_); (try (refine gate_guard (by rfl) ?_; dsimp only)); refine Gv.sub_event (g := gb473) 13 rfl rfl rfl (by first | exact Gv.kb0 BK473.out | exact Gv.kb1 (Gv.kb0 BK473.out)) Try.underlying31 rfl (by kernel_rfl) ?_))
       have n0_ : Aside0 (Kd.R k75 75 ((w62.setCell ⟨gb485, 0, none⟩ (.int .i64 t481)).setCell ⟨gb485, 1, none⟩ (.slice Ao67 t482.length co67)) w.heap.size (fun _ => True) (.slice Ao67 t482.length co67) t482) := ⟨by (with_reducible repeat (first | apply Kd.R_alloc | apply Kd.R_drewN | apply Kd.R_drew)); exact Kd.R_mono (Kd.R_far (p := ⟨gb485, 1, none⟩) (Kd.R_far (p := ⟨gb485, 0, none⟩) (Kd.R_types HO484.out BK485.out (by decide)) (fun _ hk => hk.2) (.int .i64 t481)) (fun _ hk => hk.2) (.slice Ao67 t482.length co67)) (fun _ hk => trivial)⟩
       have n1_ : Aside0 (((w62.setCell ⟨gb485, 0, none⟩ (.int .i64 t481)).setCell ⟨gb485, 1, none⟩ (.slice Ao67 t482.length co67)).heap[gb472]? = some (.cells #[.int .i64 a0_0, .slice A0_1 l0_1.length c0_1] 40 (0, 0))) := ⟨by (with_reducible repeat (first | refine blk_drewN ?_ _ | refine blk_drew ?_ | refine blk_alloc ?_ _)); (repeat (refine blk_far ?_ NB472_485.out _; (with_reducible repeat (first | refine blk_drewN ?_ _ | refine blk_drew ?_ | refine blk_alloc ?_ _)))); (with_reducible repeat (first | refine blk_drewN ?_ _ | refine blk_drew ?_ | refine blk_alloc ?_ _)); exact BK472.out⟩
       have n2_ : Aside0 (((w62.setCell ⟨gb485, 0, none⟩ (.int .i64 t481)).setCell ⟨gb485, 1, none⟩ (.slice Ao67 t482.length co67)).heap[gb473]? = some (.cells #[.int .i64 a1_0, .int .i64 a1_1, .int .i64 a1_2, .int .i64 a1_3, .int .i64 a1_4, .int .i64 a1_5, .int .i64 a1_6, .int .i64 a1_7, .int .i64 a1_8, .int .i64 a1_9, .int .i64 a1_10, .int .i64 a1_11, .int .i64 a1_12, .int .i64 a1_13] 33 (0, 0))) := ⟨by (with_reducible repeat (first | refine blk_drewN ?_ _ | refine blk_drew ?_ | refine blk_alloc ?_ _)); (repeat (refine blk_far ?_ NB473_485.out _; (with_reducible repeat (first | refine blk_drewN ?_ _ | refine blk_drew ?_ | refine blk_alloc ?_ _)))); (with_reducible repeat (first | refine blk_drewN ?_ _ | refine blk_drew ?_ | refine blk_alloc ?_ _)); exact BK473.out⟩
       have n3_ : Aside0 (((w62.setCell ⟨gb485, 0, none⟩ (.int .i64 t481)).setCell ⟨gb485, 1, none⟩ (.slice Ao67 t482.length co67)).heap[gb474]? = some (.cells #[.int .i64 0, .slice none 0 0] 40 (0, 0))) := ⟨by (with_reducible repeat (first | refine blk_drewN ?_ _ | refine blk_drew ?_ | refine blk_alloc ?_ _)); (repeat (refine blk_far ?_ NB474_485.out _; (with_reducible repeat (first | refine blk_drewN ?_ _ | refine blk_drew ?_ | refine blk_alloc ?_ _)))); (with_reducible repeat (first | refine blk_drewN ?_ _ | refine blk_drew ?_ | refine blk_alloc ?_ _)); exact BK474.out⟩
       have n4_ : Aside0 (((w62.setCell ⟨gb485, 0, none⟩ (.int .i64 t481)).setCell ⟨gb485, 1, none⟩ (.slice Ao67 t482.length co67)).heap[gb485]? = some (.cells #[.int .i64 t481, .slice Ao67 t482.length co67] 40 (0, 0))) := ⟨by (with_reducible repeat (first | refine blk_drewN ?_ _ | refine blk_drew ?_ | refine blk_alloc ?_ _)); refine blk_put (cs := #[.int .i64 t481, .slice none 0 0]) ?_ 1 _ rfl; (with_reducible repeat (first | refine blk_drewN ?_ _ | refine blk_drew ?_ | refine blk_alloc ?_ _)); refine blk_put (cs := #[.int .i64 0, .slice none 0 0]) ?_ 0 _ rfl; (with_reducible repeat (first | refine blk_drewN ?_ _ | refine blk_drew ?_ | refine blk_alloc ?_ _)); exact BK485.out⟩
       have n5_ : Aside0 (Below w.heap.size w ((w62.setCell ⟨gb485, 0, none⟩ (.int .i64 t481)).setCell ⟨gb485, 1, none⟩ (.slice Ao67 t482.length co67))) := ⟨Gv.bw⟩
       (try clear HO484)
       (try clear BK472)
       (try clear BK473)
       (try clear BK474)
       (try clear BK485)
       (try clear HB)
       generalize ((w62.setCell ⟨gb485, 0, none⟩ (.int .i64 t481)).setCell ⟨gb485, 1, none⟩ (.slice Ao67 t482.length co67)) = w68 at n0_ n1_ n2_ n3_ n4_ n5_ ⊢
       have HO484 := n0_
       have BK472 := n1_
       have BK473 := n2_
       have BK474 := n3_
       have BK485 := n4_
       have HB := n5_
       clear n0_ n1_ n2_ n3_ n4_ n5_
       replace HO484 := Gv.a0 (Kd.R_drew HO484.out)
       replace BK472 := Gv.a0 (blk_drew BK472.out)
       replace BK473 := Gv.a0 (blk_drew BK473.out)
       replace BK474 := Gv.a0 (blk_drew BK474.out)
       replace BK485 := Gv.a0 (blk_drew BK485.out)
       replace HB := Gv.a0 (below_drew1 HB.out)
       refine start_ (n := 10) (S := fun w' => w'.cell? ⟨gb485, 0, none⟩ = some (.int .i64 t481) ∧ w'.cell? ⟨gb485, 1, none⟩ = some (.slice Ao67 t482.length co67) ∧ w'.cell? ⟨gb473, 0, none⟩ = some (.int .i64 a1_0) ∧ w'.cell? ⟨gb473, 1, none⟩ = some (.int .i64 a1_1) ∧ w'.cell? ⟨gb473, 2, none⟩ = some (.int .i64 a1_2) ∧ w'.cell? ⟨gb473, 3, none⟩ = some (.int .i64 a1_3) ∧ w'.cell? ⟨gb473, 4, none⟩ = some (.int .i64 a1_4) ∧ w'.cell? ⟨gb473, 5, none⟩ = some (.int .i64 a1_5) ∧ w'.cell? ⟨gb473, 6, none⟩ = some (.int .i64 a1_6) ∧ w'.cell? ⟨gb473, 7, none⟩ = some (.int .i64 a1_7) ∧ w'.cell? ⟨gb473, 8, none⟩ = some (.int .i64 a1_8) ∧ w'.cell? ⟨gb473, 9, none⟩ = some (.int .i64 a1_9) ∧ w'.cell? ⟨gb473, 10, none⟩ = some (.int .i64 a1_10) ∧ w'.cell? ⟨gb473, 11, none⟩ = some (.int .i64 a1_11) ∧ w'.cell? ⟨gb473, 12, none⟩ = some (.int .i64 a1_12) ∧ w'.cell? ⟨gb473, 13, none⟩ = some (.int .i64 a1_13)) (ds := [9]) #[false, false, false, false, false, false, false, false, false, false] (by kernel_rfl) rfl rfl ⟨Gv.q BK485.out, Gv.q BK485.out, Gv.q BK473.out, Gv.q BK473.out, Gv.q BK473.out, Gv.q BK473.out, Gv.q BK473.out, Gv.q BK473.out, Gv.q BK473.out, Gv.q BK473.out, Gv.q BK473.out, Gv.q BK473.out, Gv.q BK473.out, Gv.q BK473.out, Gv.q BK473.out, Gv.q BK473.out⟩ (fun hHeld => ?_); refine with_tabW impl_TablePut.tab7 impl_TablePut.bits7 (fun HT_ HW_ => ?_)
       generalize w68.drew = w69 at HO484 BK472 BK473 BK474 BK485 HB hHeld ⊢
       refine Gv.pu 0 (some 40) HT_ ?_
       refine Gv.pu 6 (some 46) HT_ ?_
       refine take_ (i := 1) (N := some 41) (v := ?_) (a' := ?_) #[true, true, false, false, false, false, true, false, false, false] rfl rfl (take_ofW HT_.out HW_.out (by kernel_rfl)) (fun _ _ _ h => h) (Or.inl ⟨by rfl, ?_⟩) hHeld ?_ ?_
       rotate_left
       ·rintro w' ⟨s0, s1, s2, s3, s4, s5, s6, s7, s8, s9, s10, s11, s12, s13, s14, s15⟩
        first | ((refine Gv.load_run (t := 33) (A := ⟨gb473, 0, none⟩) (cs := [_, _, _, _, _, _, _, _, _, _, _, _, _, _]) (x := ?xx21_) ?ho21_ ?hx21_ ⟨s2, s3, s4, s5, s6, s7, s8, s9, s10, s11, s12, s13, s14, s15, trivial⟩ Try.underlying33 rfl (by kernel_rfl)); (case ho21_ => rfl); (case hx21_ => rfl)) | (go_simp; with_reducible rfl)
       rotate_left
       ·simp only [Act.put, List.setIfInBounds_toArray, List.set_cons_zero, List.set_cons_succ, i64_w, i32_w]
        rfl
       refine take_ (i := 2) (N := some 42) (v := ?_) (a' := ?_) #[true, true, true, false, false, false, true, false, false, false] rfl rfl (take_ofW HT_.out HW_.out (by kernel_rfl)) (fun _ _ _ h => h) (Or.inl ⟨by rfl, ?_⟩) hHeld ?_ ?_
       rotate_left
       ·rintro w' ⟨s0, s1, s2, s3, s4, s5, s6, s7, s8, s9, s10, s11, s12, s13, s14, s15⟩
        first | ((refine Gv.load_run (t := 33) (A := ⟨gb473, 0, none⟩) (cs := [_, _, _, _, _, _, _, _, _, _, _, _, _, _]) (x := ?xx23_) ?ho23_ ?hx23_ ⟨s2, s3, s4, s5, s6, s7, s8, s9, s10, s11, s12, s13, s14, s15, trivial⟩ Try.underlying33 rfl (by kernel_rfl)); (case ho23_ => rfl); (case hx23_ => rfl)) | (go_simp; with_reducible rfl)
       rotate_left
       ·simp only [Act.put, List.setIfInBounds_toArray, List.set_cons_zero, List.set_cons_succ, i64_w, i32_w]
        rfl
       refine take_ (i := 3) (N := some 43) (v := ?_) (a' := ?_) #[true, true, true, true, false, false, true, false, false, false] rfl rfl (take_ofW HT_.out HW_.out (by kernel_rfl)) (fun _ _ _ h => h) (Or.inl ⟨by rfl, ?_⟩) hHeld ?_ ?_
       rotate_left
       ·rintro w' ⟨s0, s1, s2, s3, s4, s5, s6, s7, s8, s9, s10, s11, s12, s13, s14, s15⟩
        first | ((refine Gv.load_run (t := 33) (A := ⟨gb473, 0, none⟩) (cs := [_, _, _, _, _, _, _, _, _, _, _, _, _, _]) (x := ?xx25_) ?ho25_ ?hx25_ ⟨s2, s3, s4, s5, s6, s7, s8, s9, s10, s11, s12, s13, s14, s15, trivial⟩ Try.underlying33 rfl (by kernel_rfl)); (case ho25_ => rfl); (case hx25_ => rfl)) | (go_simp; with_reducible rfl)
       rotate_left
       ·simp only [Act.put, List.setIfInBounds_toArray, List.set_cons_zero, List.set_cons_succ, i64_w, i32_w]
        rfl
       refine take_ (i := 5) (N := some 45) (v := ?_) (a' := ?_) #[true, true, true, true, false, true, true, false, false, false] rfl rfl (take_ofW HT_.out HW_.out (by kernel_rfl)) (fun _ _ _ h => h) (Or.inl ⟨by rfl, ?_⟩) hHeld ?_ ?_
       rotate_left
       ·rintro w' ⟨s0, s1, s2, s3, s4, s5, s6, s7, s8, s9, s10, s11, s12, s13, s14, s15⟩
        first | ((refine Gv.load_run (t := 33) (A := ⟨gb473, 0, none⟩) (cs := [_, _, _, _, _, _, _, _, _, _, _, _, _, _]) (x := ?xx27_) ?ho27_ ?hx27_ ⟨s2, s3, s4, s5, s6, s7, s8, s9, s10, s11, s12, s13, s14, s15, trivial⟩ Try.underlying33 rfl (by kernel_rfl)); (case ho27_ => rfl); (case hx27_ => rfl)) | (go_simp; with_reducible rfl)
       rotate_left
       ·simp only [Act.put, List.setIfInBounds_toArray, List.set_cons_zero, List.set_cons_succ, i64_w, i32_w]
        rfl
       refine Gv.pu 7 (some 47) HT_ ?_
       refine one_ (i := 4) (N := some 44) #[true, true, true, true, true, true, true, true, false, false] rfl rfl (one_of HT_.out (by kernel_rfl)) (by decide) (fun K hK => ?_)
       refine goes_ Try.func58 (by kernel_rfl) rfl #[.agg #[.int .i64 t481, .slice Ao67 t482.length co67], .agg #[.int .i64 a1_0, .int .i64 a1_1, .int .i64 a1_2, .int .i64 a1_3, .int .i64 a1_4, .int .i64 a1_5, .int .i64 a1_6, .int .i64 a1_7, .int .i64 a1_8, .int .i64 a1_9, .int .i64 a1_10, .int .i64 a1_11, .int .i64 a1_12, .int .i64 a1_13]] (by rfl) rfl rfl Gv.lm ?_
       with_reducible refine (impl_Table_probe.calls kj35 t481 _ _ t482 a1_0 a1_1 a1_2 a1_3 a1_4 a1_5 a1_6 a1_7 a1_8 a1_9 a1_10 a1_11 a1_12 a1_13 t486 _ ?side1 ?side2 A54.out).mono ?_
       (case side1 => repeat (first | exact (Kd.R_reads' HO484.out).2.2 | (with_reducible refine Kd.C_alloc ?_ _) | (with_reducible refine Kd.C_drewN ?_ _) | (with_reducible refine Kd.C_drew ?_)))
       (case side2 => exact (Kd.R_reads' HO484.out).2.1)
       rintro e w70 ⟨rfl, hb⟩
       refine ⟨_, rfl, ?_⟩
       replace HO484 := Gv.a0 (Kd.R_below (Gv.kr HO484.out) hb)
       replace BK472 := Gv.b1 BK472 hb
       replace BK473 := Gv.b1 BK473 hb
       replace BK474 := Gv.b1 BK474 hb
       replace BK485 := Gv.b1 BK485 hb
       replace HB := Gv.a0 (below_step Gv.bw hb)
       (try clear hb)
       (try clear hb2)
       (try clear hk)
       (try clear hi)
       have p57 : 0 ≤ (t486 : Int) := of_decide_eq_true (by first | (with_reducible assumption) | assumption)
       have q57 : (t486 : Int) < ((t482.length : Int) : Int) := of_decide_eq_true (by first | (with_reducible assumption) | assumption)
       obtain ⟨go57, co57, eo57, gb57, gl57, cl57, HG57⟩ := Kd.R_form HO484.out (by omega)
       (first | cases eo57 | (injection eo57 with ea_ en_ ec_; (first | subst ea_ | (injection ea_ with ea_; subst ea_)); subst ec_; clear en_))
       have GB57 := Gv.a0 gb57
       have GG57 := Gv.a0 HG57
       clear gb57 gl57 HG57
       obtain ⟨ce57, hcl57, hM57, hcc57, hfr57⟩ := Kd.R_elem HO484.out z75 (t486 : Int) p57 q57
       obtain rfl := k75_openM hM57
       have hx57_0 : World.cell? _ ⟨go57, (t486 : Int).toNat * 16, none⟩ = some (.bool ((rd_T75 t482 t486).f0)) := hcc57 0 _ rfl
       have hx57_1 : World.cell? _ ⟨go57, (t486 : Int).toNat * 16 + 1, none⟩ = some (.int .i64 ((rd_T75 t482 t486).f1.f0)) := hcc57 1 _ rfl
       have hx57_2 : World.cell? _ ⟨go57, (t486 : Int).toNat * 16 + 2, none⟩ = some (.int .i64 ((rd_T75 t482 t486).f1.f1.f0.f0)) := hcc57 2 _ rfl
       have hx57_3 : World.cell? _ ⟨go57, (t486 : Int).toNat * 16 + 3, none⟩ = some (.int .i64 ((rd_T75 t482 t486).f1.f1.f0.f1)) := hcc57 3 _ rfl
       have hx57_4 : World.cell? _ ⟨go57, (t486 : Int).toNat * 16 + 4, none⟩ = some (.int .i64 ((rd_T75 t482 t486).f1.f1.f0.f2)) := hcc57 4 _ rfl
       have hx57_5 : World.cell? _ ⟨go57, (t486 : Int).toNat * 16 + 5, none⟩ = some (.int .i64 ((rd_T75 t482 t486).f1.f1.f0.f3)) := hcc57 5 _ rfl
       have hx57_6 : World.cell? _ ⟨go57, (t486 : Int).toNat * 16 + 6, none⟩ = some (.int .i64 ((rd_T75 t482 t486).f1.f1.f0.f4)) := hcc57 6 _ rfl
       have hx57_7 : World.cell? _ ⟨go57, (t486 : Int).toNat * 16 + 7, none⟩ = some (.int .i64 ((rd_T75 t482 t486).f1.f1.f1.f0)) := hcc57 7 _ rfl
       have hx57_8 : World.cell? _ ⟨go57, (t486 : Int).toNat * 16 + 8, none⟩ = some (.int .i64 ((rd_T75 t482 t486).f1.f1.f1.f1)) := hcc57 8 _ rfl
       have hx57_9 : World.cell? _ ⟨go57, (t486 : Int).toNat * 16 + 9, none⟩ = some (.int .i64 ((rd_T75 t482 t486).f1.f1.f1.f2)) := hcc57 9 _ rfl
       have hx57_10 : World.cell? _ ⟨go57, (t486 : Int).toNat * 16 + 10, none⟩ = some (.int .i64 ((rd_T75 t482 t486).f1.f1.f1.f3)) := hcc57 10 _ rfl
       have hx57_11 : World.cell? _ ⟨go57, (t486 : Int).toNat * 16 + 11, none⟩ = some (.int .i64 ((rd_T75 t482 t486).f1.f1.f1.f4)) := hcc57 11 _ rfl
       have hx57_12 : World.cell? _ ⟨go57, (t486 : Int).toNat * 16 + 12, none⟩ = some (.int .i64 ((rd_T75 t482 t486).f1.f1.f2)) := hcc57 12 _ rfl
       have hx57_13 : World.cell? _ ⟨go57, (t486 : Int).toNat * 16 + 13, none⟩ = some (.int .i64 ((rd_T75 t482 t486).f1.f1.f3)) := hcc57 13 _ rfl
       have hx57_14 : World.cell? _ ⟨go57, (t486 : Int).toNat * 16 + 14, none⟩ = some (.int .i64 ((rd_T75 t482 t486).f1.f1.f4)) := hcc57 14 _ rfl
       have hx57_15 : World.cell? _ ⟨go57, (t486 : Int).toNat * 16 + 15, none⟩ = some (.int .i64 ((rd_T75 t482 t486).f2)) := hcc57 15 _ rfl
       have hf57_0 : World.frozen? _ ⟨go57, (t486 : Int).toNat * 16, none⟩ = false := hfr57 0
       have hf57_1 : World.frozen? _ ⟨go57, (t486 : Int).toNat * 16 + 1, none⟩ = false := hfr57 1
       have hf57_2 : World.frozen? _ ⟨go57, (t486 : Int).toNat * 16 + 2, none⟩ = false := hfr57 2
       have hf57_3 : World.frozen? _ ⟨go57, (t486 : Int).toNat * 16 + 3, none⟩ = false := hfr57 3
       have hf57_4 : World.frozen? _ ⟨go57, (t486 : Int).toNat * 16 + 4, none⟩ = false := hfr57 4
       have hf57_5 : World.frozen? _ ⟨go57, (t486 : Int).toNat * 16 + 5, none⟩ = false := hfr57 5
       have hf57_6 : World.frozen? _ ⟨go57, (t486 : Int).toNat * 16 + 6, none⟩ = false := hfr57 6
       have hf57_7 : World.frozen? _ ⟨go57, (t486 : Int).toNat * 16 + 7, none⟩ = false := hfr57 7
       have hf57_8 : World.frozen? _ ⟨go57, (t486 : Int).toNat * 16 + 8, none⟩ = false := hfr57 8
       have hf57_9 : World.frozen? _ ⟨go57, (t486 : Int).toNat * 16 + 9, none⟩ = false := hfr57 9
       have hf57_10 : World.frozen? _ ⟨go57, (t486 : Int).toNat * 16 + 10, none⟩ = false := hfr57 10
       have hf57_11 : World.frozen? _ ⟨go57, (t486 : Int).toNat * 16 + 11, none⟩ = false := hfr57 11
       have hf57_12 : World.frozen? _ ⟨go57, (t486 : Int).toNat * 16 + 12, none⟩ = false := hfr57 12
       have hf57_13 : World.frozen? _ ⟨go57, (t486 : Int).toNat * 16 + 13, none⟩ = false := hfr57 13
       have hf57_14 : World.frozen? _ ⟨go57, (t486 : Int).toNat * 16 + 14, none⟩ = false := hfr57 14
       have hf57_15 : World.frozen? _ ⟨go57, (t486 : Int).toNat * 16 + 15, none⟩ = false := hfr57 15
       clear hcl57 hcc57 hfr57 hM57
       replace p57 := eq_true p57
       replace q57 := eq_true q57
       obtain ⟨ce71, hcl71, hM71, hcc71, hfr71⟩ := Kd.R_elem HO484.out z75 (t486 : Int) (of_decide_eq_true (by first | (with_reducible assumption) | assumption)) (by have h_ : (t486 : Int) < ((t482.length : Int) : Int) := of_decide_eq_true (by first | (with_reducible assumption) | assumption); first | exact h_ | (have e_ := (Kd.R_reads' HO484.out).1; omega) | simpa using h_)
       obtain rfl := k75_openM hM71
       have HP71 := (Kd.R_seg HO484.out (t486 : Int) (of_decide_eq_true (by first | (with_reducible assumption) | assumption)) (by have h_ : (t486 : Int) < ((t482.length : Int) : Int) := of_decide_eq_true (by first | (with_reducible assumption) | assumption); first | exact h_ | (have e_ := (Kd.R_reads' HO484.out).1; omega) | simpa using h_) (seg := [.bool true, .int .i64 a1_0, .int .i64 a1_1, .int .i64 a1_2, .int .i64 a1_3, .int .i64 a1_4, .int .i64 a1_5, .int .i64 a1_6, .int .i64 a1_7, .int .i64 a1_8, .int .i64 a1_9, .int .i64 a1_10, .int .i64 a1_11, .int .i64 a1_12, .int .i64 a1_13, .int .i64 a2]) (j := 0) hcl71 hcc71 (show 16 ≤ 16 from by decide) (x' := (⟨true, (⟨a1_0, (⟨(⟨a1_1, a1_2, a1_3, a1_4, a1_5⟩ : S29), (⟨a1_6, a1_7, a1_8, a1_9, a1_10⟩ : S29), a1_11, a1_12, a1_13⟩ : S31)⟩ : S33), a2⟩ : S75)) (k75_mkM _ _ _ (⟨true, (⟨a1_0, (⟨(⟨a1_1, a1_2, a1_3, a1_4, a1_5⟩ : S29), (⟨a1_6, a1_7, a1_8, a1_9, a1_10⟩ : S29), a1_11, a1_12, a1_13⟩ : S31)⟩ : S33), a2⟩ : S75) ) (fun _ hk => hk)).1
       rw [← Ny487.out] at HP71
       have HQ71 := Gv.a0 HP71
       clear hcl71 hcc71 hfr71 hM71 HP71
       refine hK.out _ _ ⟨Gv.q BK485.out, Gv.q BK485.out, Gv.q BK473.out, Gv.q BK473.out, Gv.q BK473.out, Gv.q BK473.out, Gv.q BK473.out, Gv.q BK473.out, Gv.q BK473.out, Gv.q BK473.out, Gv.q BK473.out, Gv.q BK473.out, Gv.q BK473.out, Gv.q BK473.out, Gv.q BK473.out, Gv.q BK473.out⟩ (fun hHeld => ?_)
       clear hK K
       refine norm_ (a' := ?_) ?_ ?_
       rotate_left
       ·show Act.put _ (some 44) _ = _
        simp only [Act.put, List.setIfInBounds_toArray, List.set_cons_zero, List.set_cons_succ, i64_w, i32_w]
        rfl
       refine Gv.pu 8 (some 48) HT_ ?_
       refine last_ (i := 9) (N := none) #[true, true, true, true, true, true, true, true, true, true] rfl rfl (one_of HT_.out (by kernel_rfl)) (by decide) (fun K hK => ?_)
       refine skip_ (w1 := ?_) (by rfl) rfl ?_ ?_
       rotate_left
       ·go_simp
        rfl
       refine hK.out _ _ ?_
       clear hK K
       refine done_ (done_of HT_.out (by kernel_rfl)) ?_
       have n0_ : Aside0 (Kd.R k75 75 ((((((((((((((((w70.setCell ⟨go57, (t486 : Int).toNat * 16, none⟩ (.bool true)).setCell ⟨go57, (t486 : Int).toNat * 16 + 1, none⟩ (.int .i64 a1_0)).setCell ⟨go57, (t486 : Int).toNat * 16 + 2, none⟩ (.int .i64 a1_1)).setCell ⟨go57, (t486 : Int).toNat * 16 + 3, none⟩ (.int .i64 a1_2)).setCell ⟨go57, (t486 : Int).toNat * 16 + 4, none⟩ (.int .i64 a1_3)).setCell ⟨go57, (t486 : Int).toNat * 16 + 5, none⟩ (.int .i64 a1_4)).setCell ⟨go57, (t486 : Int).toNat * 16 + 6, none⟩ (.int .i64 a1_5)).setCell ⟨go57, (t486 : Int).toNat * 16 + 7, none⟩ (.int .i64 a1_6)).setCell ⟨go57, (t486 : Int).toNat * 16 + 8, none⟩ (.int .i64 a1_7)).setCell ⟨go57, (t486 : Int).toNat * 16 + 9, none⟩ (.int .i64 a1_8)).setCell ⟨go57, (t486 : Int).toNat * 16 + 10, none⟩ (.int .i64 a1_9)).setCell ⟨go57, (t486 : Int).toNat * 16 + 11, none⟩ (.int .i64 a1_10)).setCell ⟨go57, (t486 : Int).toNat * 16 + 12, none⟩ (.int .i64 a1_11)).setCell ⟨go57, (t486 : Int).toNat * 16 + 13, none⟩ (.int .i64 a1_12)).setCell ⟨go57, (t486 : Int).toNat * 16 + 14, none⟩ (.int .i64 a1_13)).setCell ⟨go57, (t486 : Int).toNat * 16 + 15, none⟩ (.int .i64 a2)) w.heap.size (fun _ => True) (.slice (some ⟨go57, 0, none⟩) t482.length co67) y487) := ⟨Gv.kr HQ71.out⟩
       have n1_ : Aside0 (((((((((((((((((w70.setCell ⟨go57, (t486 : Int).toNat * 16, none⟩ (.bool true)).setCell ⟨go57, (t486 : Int).toNat * 16 + 1, none⟩ (.int .i64 a1_0)).setCell ⟨go57, (t486 : Int).toNat * 16 + 2, none⟩ (.int .i64 a1_1)).setCell ⟨go57, (t486 : Int).toNat * 16 + 3, none⟩ (.int .i64 a1_2)).setCell ⟨go57, (t486 : Int).toNat * 16 + 4, none⟩ (.int .i64 a1_3)).setCell ⟨go57, (t486 : Int).toNat * 16 + 5, none⟩ (.int .i64 a1_4)).setCell ⟨go57, (t486 : Int).toNat * 16 + 6, none⟩ (.int .i64 a1_5)).setCell ⟨go57, (t486 : Int).toNat * 16 + 7, none⟩ (.int .i64 a1_6)).setCell ⟨go57, (t486 : Int).toNat * 16 + 8, none⟩ (.int .i64 a1_7)).setCell ⟨go57, (t486 : Int).toNat * 16 + 9, none⟩ (.int .i64 a1_8)).setCell ⟨go57, (t486 : Int).toNat * 16 + 10, none⟩ (.int .i64 a1_9)).setCell ⟨go57, (t486 : Int).toNat * 16 + 11, none⟩ (.int .i64 a1_10)).setCell ⟨go57, (t486 : Int).toNat * 16 + 12, none⟩ (.int .i64 a1_11)).setCell ⟨go57, (t486 : Int).toNat * 16 + 13, none⟩ (.int .i64 a1_12)).setCell ⟨go57, (t486 : Int).toNat * 16 + 14, none⟩ (.int .i64 a1_13)).setCell ⟨go57, (t486 : Int).toNat * 16 + 15, none⟩ (.int .i64 a2)).heap[gb472]? = some (.cells #[.int .i64 a0_0, .slice A0_1 l0_1.length c0_1] 40 (0, 0))) := ⟨by (with_reducible repeat (first | refine blk_drewN ?_ _ | refine blk_drew ?_ | refine blk_alloc ?_ _)); refine blk_far ?_ (by have h_ := Kd.R_ne HO484.out BK472.out (by decide); intro e_; exact h_ (by rw [e_]; rfl)) _; (with_reducible repeat (first | refine blk_drewN ?_ _ | refine blk_drew ?_ | refine blk_alloc ?_ _)); refine blk_far ?_ (by have h_ := Kd.R_ne HO484.out BK472.out (by decide); intro e_; exact h_ (by rw [e_]; rfl)) _; (with_reducible repeat (first | refine blk_drewN ?_ _ | refine blk_drew ?_ | refine blk_alloc ?_ _)); refine blk_far ?_ (by have h_ := Kd.R_ne HO484.out BK472.out (by decide); intro e_; exact h_ (by rw [e_]; rfl)) _; (with_reducible repeat (first | refine blk_drewN ?_ _ | refine blk_drew ?_ | refine blk_alloc ?_ _)); refine blk_far ?_ (by have h_ := Kd.R_ne HO484.out BK472.out (by decide); intro e_; exact h_ (by rw [e_]; rfl)) _; (with_reducible repeat (first | refine blk_drewN ?_ _ | refine blk_drew ?_ | refine blk_alloc ?_ _)); refine blk_far ?_ (by have h_ := Kd.R_ne HO484.out BK472.out (by decide); intro e_; exact h_ (by rw [e_]; rfl)) _; (with_reducible repeat (first | refine blk_drewN ?_ _ | refine blk_drew ?_ | refine blk_alloc ?_ _)); refine blk_far ?_ (by have h_ := Kd.R_ne HO484.out BK472.out (by decide); intro e_; exact h_ (by rw [e_]; rfl)) _; (with_reducible repeat (first | refine blk_drewN ?_ _ | refine blk_drew ?_ | refine blk_alloc ?_ _)); refine blk_far ?_ (by have h_ := Kd.R_ne HO484.out BK472.out (by decide); intro e_; exact h_ (by rw [e_]; rfl)) _; (with_reducible repeat (first | refine blk_drewN ?_ _ | refine blk_drew ?_ | refine blk_alloc ?_ _)); refine blk_far ?_ (by have h_ := Kd.R_ne HO484.out BK472.out (by decide); intro e_; exact h_ (by rw [e_]; rfl)) _; (with_reducible repeat (first | refine blk_drewN ?_ _ | refine blk_drew ?_ | refine blk_alloc ?_ _)); refine blk_far ?_ (by have h_ := Kd.R_ne HO484.out BK472.out (by decide); intro e_; exact h_ (by rw [e_]; rfl)) _; (with_reducible repeat (first | refine blk_drewN ?_ _ | refine blk_drew ?_ | refine blk_alloc ?_ _)); refine blk_far ?_ (by have h_ := Kd.R_ne HO484.out BK472.out (by decide); intro e_; exact h_ (by rw [e_]; rfl)) _; (with_reducible repeat (first | refine blk_drewN ?_ _ | refine blk_drew ?_ | refine blk_alloc ?_ _)); refine blk_far ?_ (by have h_ := Kd.R_ne HO484.out BK472.out (by decide); intro e_; exact h_ (by rw [e_]; rfl)) _; (with_reducible repeat (first | refine blk_drewN ?_ _ | refine blk_drew ?_ | refine blk_alloc ?_ _)); refine blk_far ?_ (by have h_ := Kd.R_ne HO484.out BK472.out (by decide); intro e_; exact h_ (by rw [e_]; rfl)) _; (with_reducible repeat (first | refine blk_drewN ?_ _ | refine blk_drew ?_ | refine blk_alloc ?_ _)); refine blk_far ?_ (by have h_ := Kd.R_ne HO484.out BK472.out (by decide); intro e_; exact h_ (by rw [e_]; rfl)) _; (with_reducible repeat (first | refine blk_drewN ?_ _ | refine blk_drew ?_ | refine blk_alloc ?_ _)); refine blk_far ?_ (by have h_ := Kd.R_ne HO484.out BK472.out (by decide); intro e_; exact h_ (by rw [e_]; rfl)) _; (with_reducible repeat (first | refine blk_drewN ?_ _ | refine blk_drew ?_ | refine blk_alloc ?_ _)); refine blk_far ?_ (by have h_ := Kd.R_ne HO484.out BK472.out (by decide); intro e_; exact h_ (by rw [e_]; rfl)) _; (with_reducible repeat (first | refine blk_drewN ?_ _ | refine blk_drew ?_ | refine blk_alloc ?_ _)); refine blk_far ?_ (by have h_ := Kd.R_ne HO484.out BK472.out (by decide); intro e_; exact h_ (by rw [e_]; rfl)) _; (with_reducible repeat (first | refine blk_drewN ?_ _ | refine blk_drew ?_ | refine blk_alloc ?_ _)); exact BK472.out⟩
       have n2_ : Aside0 (((((((((((((((((w70.setCell ⟨go57, (t486 : Int).toNat * 16, none⟩ (.bool true)).setCell ⟨go57, (t486 : Int).toNat * 16 + 1, none⟩ (.int .i64 a1_0)).setCell ⟨go57, (t486 : Int).toNat * 16 + 2, none⟩ (.int .i64 a1_1)).setCell ⟨go57, (t486 : Int).toNat * 16 + 3, none⟩ (.int .i64 a1_2)).setCell ⟨go57, (t486 : Int).toNat * 16 + 4, none⟩ (.int .i64 a1_3)).setCell ⟨go57, (t486 : Int).toNat * 16 + 5, none⟩ (.int .i64 a1_4)).setCell ⟨go57, (t486 : Int).toNat * 16 + 6, none⟩ (.int .i64 a1_5)).setCell ⟨go57, (t486 : Int).toNat * 16 + 7, none⟩ (.int .i64 a1_6)).setCell ⟨go57, (t486 : Int).toNat * 16 + 8, none⟩ (.int .i64 a1_7)).setCell ⟨go57, (t486 : Int).toNat * 16 + 9, none⟩ (.int .i64 a1_8)).setCell ⟨go57, (t486 : Int).toNat * 16 + 10, none⟩ (.int .i64 a1_9)).setCell ⟨go57, (t486 : Int).toNat * 16 + 11, none⟩ (.int .i64 a1_10)).setCell ⟨go57, (t486 : Int).toNat * 16 + 12, none⟩ (.int .i64 a1_11)).setCell ⟨go57, (t486 : Int).toNat * 16 + 13, none⟩ (.int .i64 a1_12)).setCell ⟨go57, (t486 : Int).toNat * 16 + 14, none⟩ (.int .i64 a1_13)).setCell ⟨go57, (t486 : Int).toNat * 16 + 15, none⟩ (.int .i64 a2)).heap[gb473]? = some (.cells #[.int .i64 a1_0, .int .i64 a1_1, .int .i64 a1_2, .int .i64 a1_3, .int .i64 a1_4, .int .i64 a1_5, .int .i64 a1_6, .int .i64 a1_7, .int .i64 a1_8, .int .i64 a1_9, .int .i64 a1_10, .int .i64 a1_11, .int .i64 a1_12, .int .i64 a1_13] 33 (0, 0))) := ⟨by (with_reducible repeat (first | refine blk_drewN ?_ _ | refine blk_drew ?_ | refine blk_alloc ?_ _)); refine blk_far ?_ (by have h_ := Kd.R_ne HO484.out BK473.out (by decide); intro e_; exact h_ (by rw [e_]; rfl)) _; (with_reducible repeat (first | refine blk_drewN ?_ _ | refine blk_drew ?_ | refine blk_alloc ?_ _)); refine blk_far ?_ (by have h_ := Kd.R_ne HO484.out BK473.out (by decide); intro e_; exact h_ (by rw [e_]; rfl)) _; (with_reducible repeat (first | refine blk_drewN ?_ _ | refine blk_drew ?_ | refine blk_alloc ?_ _)); refine blk_far ?_ (by have h_ := Kd.R_ne HO484.out BK473.out (by decide); intro e_; exact h_ (by rw [e_]; rfl)) _; (with_reducible repeat (first | refine blk_drewN ?_ _ | refine blk_drew ?_ | refine blk_alloc ?_ _)); refine blk_far ?_ (by have h_ := Kd.R_ne HO484.out BK473.out (by decide); intro e_; exact h_ (by rw [e_]; rfl)) _; (with_reducible repeat (first | refine blk_drewN ?_ _ | refine blk_drew ?_ | refine blk_alloc ?_ _)); refine blk_far ?_ (by have h_ := Kd.R_ne HO484.out BK473.out (by decide); intro e_; exact h_ (by rw [e_]; rfl)) _; (with_reducible repeat (first | refine blk_drewN ?_ _ | refine blk_drew ?_ | refine blk_alloc ?_ _)); refine blk_far ?_ (by have h_ := Kd.R_ne HO484.out BK473.out (by decide); intro e_; exact h_ (by rw [e_]; rfl)) _; (with_reducible repeat (first | refine blk_drewN ?_ _ | refine blk_drew ?_ | refine blk_alloc ?_ _)); refine blk_far ?_ (by have h_ := Kd.R_ne HO484.out BK473.out (by decide); intro e_; exact h_ (by rw [e_]; rfl)) _; (with_reducible repeat (first | refine blk_drewN ?_ _ | refine blk_drew ?_ | refine blk_alloc ?_ _)); refine blk_far ?_ (by have h_ := Kd.R_ne HO484.out BK473.out (by decide); intro e_; exact h_ (by rw [e_]; rfl)) _; (with_reducible repeat (first | refine blk_drewN ?_ _ | refine blk_drew ?_ | refine blk_alloc ?_ _)); refine blk_far ?_ (by have h_ := Kd.R_ne HO484.out BK473.out (by decide); intro e_; exact h_ (by rw [e_]; rfl)) _; (with_reducible repeat (first | refine blk_drewN ?_ _ | refine blk_drew ?_ | refine blk_alloc ?_ _)); refine blk_far ?_ (by have h_ := Kd.R_ne HO484.out BK473.out (by decide); intro e_; exact h_ (by rw [e_]; rfl)) _; (with_reducible repeat (first | refine blk_drewN ?_ _ | refine blk_drew ?_ | refine blk_alloc ?_ _)); refine blk_far ?_ (by have h_ := Kd.R_ne HO484.out BK473.out (by decide); intro e_; exact h_ (by rw [e_]; rfl)) _; (with_reducible repeat (first | refine blk_drewN ?_ _ | refine blk_drew ?_ | refine blk_alloc ?_ _)); refine blk_far ?_ (by have h_ := Kd.R_ne HO484.out BK473.out (by decide); intro e_; exact h_ (by rw [e_]; rfl)) _; (with_reducible repeat (first | refine blk_drewN ?_ _ | refine blk_drew ?_ | refine blk_alloc ?_ _)); refine blk_far ?_ (by have h_ := Kd.R_ne HO484.out BK473.out (by decide); intro e_; exact h_ (by rw [e_]; rfl)) _; (with_reducible repeat (first | refine blk_drewN ?_ _ | refine blk_drew ?_ | refine blk_alloc ?_ _)); refine blk_far ?_ (by have h_ := Kd.R_ne HO484.out BK473.out (by decide); intro e_; exact h_ (by rw [e_]; rfl)) _; (with_reducible repeat (first | refine blk_drewN ?_ _ | refine blk_drew ?_ | refine blk_alloc ?_ _)); refine blk_far ?_ (by have h_ := Kd.R_ne HO484.out BK473.out (by decide); intro e_; exact h_ (by rw [e_]; rfl)) _; (with_reducible repeat (first | refine blk_drewN ?_ _ | refine blk_drew ?_ | refine blk_alloc ?_ _)); refine blk_far ?_ (by have h_ := Kd.R_ne HO484.out BK473.out (by decide); intro e_; exact h_ (by rw [e_]; rfl)) _; (with_reducible repeat (first | refine blk_drewN ?_ _ | refine blk_drew ?_ | refine blk_alloc ?_ _)); exact BK473.out⟩
       have n3_ : Aside0 (((((((((((((((((w70.setCell ⟨go57, (t486 : Int).toNat * 16, none⟩ (.bool true)).setCell ⟨go57, (t486 : Int).toNat * 16 + 1, none⟩ (.int .i64 a1_0)).setCell ⟨go57, (t486 : Int).toNat * 16 + 2, none⟩ (.int .i64 a1_1)).setCell ⟨go57, (t486 : Int).toNat * 16 + 3, none⟩ (.int .i64 a1_2)).setCell ⟨go57, (t486 : Int).toNat * 16 + 4, none⟩ (.int .i64 a1_3)).setCell ⟨go57, (t486 : Int).toNat * 16 + 5, none⟩ (.int .i64 a1_4)).setCell ⟨go57, (t486 : Int).toNat * 16 + 6, none⟩ (.int .i64 a1_5)).setCell ⟨go57, (t486 : Int).toNat * 16 + 7, none⟩ (.int .i64 a1_6)).setCell ⟨go57, (t486 : Int).toNat * 16 + 8, none⟩ (.int .i64 a1_7)).setCell ⟨go57, (t486 : Int).toNat * 16 + 9, none⟩ (.int .i64 a1_8)).setCell ⟨go57, (t486 : Int).toNat * 16 + 10, none⟩ (.int .i64 a1_9)).setCell ⟨go57, (t486 : Int).toNat * 16 + 11, none⟩ (.int .i64 a1_10)).setCell ⟨go57, (t486 : Int).toNat * 16 + 12, none⟩ (.int .i64 a1_11)).setCell ⟨go57, (t486 : Int).toNat * 16 + 13, none⟩ (.int .i64 a1_12)).setCell ⟨go57, (t486 : Int).toNat * 16 + 14, none⟩ (.int .i64 a1_13)).setCell ⟨go57, (t486 : Int).toNat * 16 + 15, none⟩ (.int .i64 a2)).heap[gb474]? = some (.cells #[.int .i64 0, .slice none 0 0] 40 (0, 0))) := ⟨by (with_reducible repeat (first | refine blk_drewN ?_ _ | refine blk_drew ?_ | refine blk_alloc ?_ _)); refine blk_far ?_ (by have h_ := Kd.R_ne HO484.out BK474.out (by decide); intro e_; exact h_ (by rw [e_]; rfl)) _; (with_reducible repeat (first | refine blk_drewN ?_ _ | refine blk_drew ?_ | refine blk_alloc ?_ _)); refine blk_far ?_ (by have h_ := Kd.R_ne HO484.out BK474.out (by decide); intro e_; exact h_ (by rw [e_]; rfl)) _; (with_reducible repeat (first | refine blk_drewN ?_ _ | refine blk_drew ?_ | refine blk_alloc ?_ _)); refine blk_far ?_ (by have h_ := Kd.R_ne HO484.out BK474.out (by decide); intro e_; exact h_ (by rw [e_]; rfl)) _; (with_reducible repeat (first | refine blk_drewN ?_ _ | refine blk_drew ?_ | refine blk_alloc ?_ _)); refine blk_far ?_ (by have h_ := Kd.R_ne HO484.out BK474.out (by decide); intro e_; exact h_ (by rw [e_]; rfl)) _; (with_reducible repeat (first | refine blk_drewN ?_ _ | refine blk_drew ?_ | refine blk_alloc ?_ _)); refine blk_far ?_ (by have h_ := Kd.R_ne HO484.out BK474.out (by decide); intro e_; exact h_ (by rw [e_]; rfl)) _; (with_reducible repeat (first | refine blk_drewN ?_ _ | refine blk_drew ?_ | refine blk_alloc ?_ _)); refine blk_far ?_ (by have h_ := Kd.R_ne HO484.out BK474.out (by decide); intro e_; exact h_ (by rw [e_]; rfl)) _; (with_reducible repeat (first | refine blk_drewN ?_ _ | refine blk_drew ?_ | refine blk_alloc ?_ _)); refine blk_far ?_ (by have h_ := Kd.R_ne HO484.out BK474.out (by decide); intro e_; exact h_ (by rw [e_]; rfl)) _; (with_reducible repeat (first | refine blk_drewN ?_ _ | refine blk_drew ?_ | refine blk_alloc ?_ _)); refine blk_far ?_ (by have h_ := Kd.R_ne HO484.out BK474.out (by decide); intro e_; exact h_ (by rw [e_]; rfl)) _; (with_reducible repeat (first | refine blk_drewN ?_ _ | refine blk_drew ?_ | refine blk_alloc ?_ _)); refine blk_far ?_ (by have h_ := Kd.R_ne HO484.out BK474.out (by decide); intro e_; exact h_ (by rw [e_]; rfl)) _; (with_reducible repeat (first | refine blk_drewN ?_ _ | refine blk_drew ?_ | refine blk_alloc ?_ _)); refine blk_far ?_ (by have h_ := Kd.R_ne HO484.out BK474.out (by decide); intro e_; exact h_ (by rw [e_]; rfl)) _; (with_reducible repeat (first | refine blk_drewN ?_ _ | refine blk_drew ?_ | refine blk_alloc ?_ _)); refine blk_far ?_ (by have h_ := Kd.R_ne HO484.out BK474.out (by decide); intro e_; exact h_ (by rw [e_]; rfl)) _; (with_reducible repeat (first | refine blk_drewN ?_ _ | refine blk_drew ?_ | refine blk_alloc ?_ _)); refine blk_far ?_ (by have h_ := Kd.R_ne HO484.out BK474.out (by decide); intro e_; exact h_ (by rw [e_]; rfl)) _; (with_reducible repeat (first | refine blk_drewN ?_ _ | refine blk_drew ?_ | refine blk_alloc ?_ _)); refine blk_far ?_ (by have h_ := Kd.R_ne HO484.out BK474.out (by decide); intro e_; exact h_ (by rw [e_]; rfl)) _; (with_reducible repeat (first | refine blk_drewN ?_ _ | refine blk_drew ?_ | refine blk_alloc ?_ _)); refine blk_far ?_ (by have h_ := Kd.R_ne HO484.out BK474.out (by decide); intro e_; exact h_ (by rw [e_]; rfl)) _; (with_reducible repeat (first | refine blk_drewN ?_ _ | refine blk_drew ?_ | refine blk_alloc ?_ _)); refine blk_far ?_ (by have h_ := Kd.R_ne HO484.out BK474.out (by decide); intro e_; exact h_ (by rw [e_]; rfl)) _; (with_reducible repeat (first | refine blk_drewN ?_ _ | refine blk_drew ?_ | refine blk_alloc ?_ _)); refine blk_far ?_ (by have h_ := Kd.R_ne HO484.out BK474.out (by decide); intro e_; exact h_ (by rw [e_]; rfl)) _; (with_reducible repeat (first | refine blk_drewN ?_ _ | refine blk_drew ?_ | refine blk_alloc ?_ _)); exact BK474.out⟩
       have n4_ : Aside0 (((((((((((((((((w70.setCell ⟨go57, (t486 : Int).toNat * 16, none⟩ (.bool true)).setCell ⟨go57, (t486 : Int).toNat * 16 + 1, none⟩ (.int .i64 a1_0)).setCell ⟨go57, (t486 : Int).toNat * 16 + 2, none⟩ (.int .i64 a1_1)).setCell ⟨go57, (t486 : Int).toNat * 16 + 3, none⟩ (.int .i64 a1_2)).setCell ⟨go57, (t486 : Int).toNat * 16 + 4, none⟩ (.int .i64 a1_3)).setCell ⟨go57, (t486 : Int).toNat * 16 + 5, none⟩ (.int .i64 a1_4)).setCell ⟨go57, (t486 : Int).toNat * 16 + 6, none⟩ (.int .i64 a1_5)).setCell ⟨go57, (t486 : Int).toNat * 16 + 7, none⟩ (.int .i64 a1_6)).setCell ⟨go57, (t486 : Int).toNat * 16 + 8, none⟩ (.int .i64 a1_7)).setCell ⟨go57, (t486 : Int).toNat * 16 + 9, none⟩ (.int .i64 a1_8)).setCell ⟨go57, (t486 : Int).toNat * 16 + 10, none⟩ (.int .i64 a1_9)).setCell ⟨go57, (t486 : Int).toNat * 16 + 11, none⟩ (.int .i64 a1_10)).setCell ⟨go57, (t486 : Int).toNat * 16 + 12, none⟩ (.int .i64 a1_11)).setCell ⟨go57, (t486 : Int).toNat * 16 + 13, none⟩ (.int .i64 a1_12)).setCell ⟨go57, (t486 : Int).toNat * 16 + 14, none⟩ (.int .i64 a1_13)).setCell ⟨go57, (t486 : Int).toNat * 16 + 15, none⟩ (.int .i64 a2)).heap[gb485]? = some (.cells #[.int .i64 t481, .slice (some ⟨go57, 0, none⟩) t482.length co67] 40 (0, 0))) := ⟨by (with_reducible repeat (first | refine blk_drewN ?_ _ | refine blk_drew ?_ | refine blk_alloc ?_ _)); refine blk_far ?_ (by have h_ := Kd.R_ne HO484.out BK485.out (by decide); intro e_; exact h_ (by rw [e_]; rfl)) _; (with_reducible repeat (first | refine blk_drewN ?_ _ | refine blk_drew ?_ | refine blk_alloc ?_ _)); refine blk_far ?_ (by have h_ := Kd.R_ne HO484.out BK485.out (by decide); intro e_; exact h_ (by rw [e_]; rfl)) _; (with_reducible repeat (first | refine blk_drewN ?_ _ | refine blk_drew ?_ | refine blk_alloc ?_ _)); refine blk_far ?_ (by have h_ := Kd.R_ne HO484.out BK485.out (by decide); intro e_; exact h_ (by rw [e_]; rfl)) _; (with_reducible repeat (first | refine blk_drewN ?_ _ | refine blk_drew ?_ | refine blk_alloc ?_ _)); refine blk_far ?_ (by have h_ := Kd.R_ne HO484.out BK485.out (by decide); intro e_; exact h_ (by rw [e_]; rfl)) _; (with_reducible repeat (first | refine blk_drewN ?_ _ | refine blk_drew ?_ | refine blk_alloc ?_ _)); refine blk_far ?_ (by have h_ := Kd.R_ne HO484.out BK485.out (by decide); intro e_; exact h_ (by rw [e_]; rfl)) _; (with_reducible repeat (first | refine blk_drewN ?_ _ | refine blk_drew ?_ | refine blk_alloc ?_ _)); refine blk_far ?_ (by have h_ := Kd.R_ne HO484.out BK485.out (by decide); intro e_; exact h_ (by rw [e_]; rfl)) _; (with_reducible repeat (first | refine blk_drewN ?_ _ | refine blk_drew ?_ | refine blk_alloc ?_ _)); refine blk_far ?_ (by have h_ := Kd.R_ne HO484.out BK485.out (by decide); intro e_; exact h_ (by rw [e_]; rfl)) _; (with_reducible repeat (first | refine blk_drewN ?_ _ | refine blk_drew ?_ | refine blk_alloc ?_ _)); refine blk_far ?_ (by have h_ := Kd.R_ne HO484.out BK485.out (by decide); intro e_; exact h_ (by rw [e_]; rfl)) _; (with_reducible repeat (first | refine blk_drewN ?_ _ | refine blk_drew ?_ | refine blk_alloc ?_ _)); refine blk_far ?_ (by have h_ := Kd.R_ne HO484.out BK485.out (by decide); intro e_; exact h_ (by rw [e_]; rfl)) _; (with_reducible repeat (first | refine blk_drewN ?_ _ | refine blk_drew ?_ | refine blk_alloc ?_ _)); refine blk_far ?_ (by have h_ := Kd.R_ne HO484.out BK485.out (by decide); intro e_; exact h_ (by rw [e_]; rfl)) _; (with_reducible repeat (first | refine blk_drewN ?_ _ | refine blk_drew ?_ | refine blk_alloc ?_ _)); refine blk_far ?_ (by have h_ := Kd.R_ne HO484.out BK485.out (by decide); intro e_; exact h_ (by rw [e_]; rfl)) _; (with_reducible repeat (first | refine blk_drewN ?_ _ | refine blk_drew ?_ | refine blk_alloc ?_ _)); refine blk_far ?_ (by have h_ := Kd.R_ne HO484.out BK485.out (by decide); intro e_; exact h_ (by rw [e_]; rfl)) _; (with_reducible repeat (first | refine blk_drewN ?_ _ | refine blk_drew ?_ | refine blk_alloc ?_ _)); refine blk_far ?_ (by have h_ := Kd.R_ne HO484.out BK485.out (by decide); intro e_; exact h_ (by rw [e_]; rfl)) _; (with_reducible repeat (first | refine blk_drewN ?_ _ | refine blk_drew ?_ | refine blk_alloc ?_ _)); refine blk_far ?_ (by have h_ := Kd.R_ne HO484.out BK485.out (by decide); intro e_; exact h_ (by rw [e_]; rfl)) _; (with_reducible repeat (first | refine blk_drewN ?_ _ | refine blk_drew ?_ | refine blk_alloc ?_ _)); refine blk_far ?_ (by have h_ := Kd.R_ne HO484.out BK485.out (by decide); intro e_; exact h_ (by rw [e_]; rfl)) _; (with_reducible repeat (first | refine blk_drewN ?_ _ | refine blk_drew ?_ | refine blk_alloc ?_ _)); refine blk_far ?_ (by have h_ := Kd.R_ne HO484.out BK485.out (by decide); intro e_; exact h_ (by rw [e_]; rfl)) _; (with_reducible repeat (first | refine blk_drewN ?_ _ | refine blk_drew ?_ | refine blk_alloc ?_ _)); exact BK485.out⟩
       have n5_ : Aside0 (Below w.heap.size w ((((((((((((((((w70.setCell ⟨go57, (t486 : Int).toNat * 16, none⟩ (.bool true)).setCell ⟨go57, (t486 : Int).toNat * 16 + 1, none⟩ (.int .i64 a1_0)).setCell ⟨go57, (t486 : Int).toNat * 16 + 2, none⟩ (.int .i64 a1_1)).setCell ⟨go57, (t486 : Int).toNat * 16 + 3, none⟩ (.int .i64 a1_2)).setCell ⟨go57, (t486 : Int).toNat * 16 + 4, none⟩ (.int .i64 a1_3)).setCell ⟨go57, (t486 : Int).toNat * 16 + 5, none⟩ (.int .i64 a1_4)).setCell ⟨go57, (t486 : Int).toNat * 16 + 6, none⟩ (.int .i64 a1_5)).setCell ⟨go57, (t486 : Int).toNat * 16 + 7, none⟩ (.int .i64 a1_6)).setCell ⟨go57, (t486 : Int).toNat * 16 + 8, none⟩ (.int .i64 a1_7)).setCell ⟨go57, (t486 : Int).toNat * 16 + 9, none⟩ (.int .i64 a1_8)).setCell ⟨go57, (t486 : Int).toNat * 16 + 10, none⟩ (.int .i64 a1_9)).setCell ⟨go57, (t486 : Int).toNat * 16 + 11, none⟩ (.int .i64 a1_10)).setCell ⟨go57, (t486 : Int).toNat * 16 + 12, none⟩ (.int .i64 a1_11)).setCell ⟨go57, (t486 : Int).toNat * 16 + 13, none⟩ (.int .i64 a1_12)).setCell ⟨go57, (t486 : Int).toNat * 16 + 14, none⟩ (.int .i64 a1_13)).setCell ⟨go57, (t486 : Int).toNat * 16 + 15, none⟩ (.int .i64 a2))) := ⟨Gv.bw⟩
       (try clear HO484)
       (try clear BK472)
       (try clear BK473)
       (try clear BK474)
       (try clear BK485)
       (try clear HB)
       generalize ((((((((((((((((w70.setCell ⟨go57, (t486 : Int).toNat * 16, none⟩ (.bool true)).setCell ⟨go57, (t486 : Int).toNat * 16 + 1, none⟩ (.int .i64 a1_0)).setCell ⟨go57, (t486 : Int).toNat * 16 + 2, none⟩ (.int .i64 a1_1)).setCell ⟨go57, (t486 : Int).toNat * 16 + 3, none⟩ (.int .i64 a1_2)).setCell ⟨go57, (t486 : Int).toNat * 16 + 4, none⟩ (.int .i64 a1_3)).setCell ⟨go57, (t486 : Int).toNat * 16 + 5, none⟩ (.int .i64 a1_4)).setCell ⟨go57, (t486 : Int).toNat * 16 + 6, none⟩ (.int .i64 a1_5)).setCell ⟨go57, (t486 : Int).toNat * 16 + 7, none⟩ (.int .i64 a1_6)).setCell ⟨go57, (t486 : Int).toNat * 16 + 8, none⟩ (.int .i64 a1_7)).setCell ⟨go57, (t486 : Int).toNat * 16 + 9, none⟩ (.int .i64 a1_8)).setCell ⟨go57, (t486 : Int).toNat * 16 + 10, none⟩ (.int .i64 a1_9)).setCell ⟨go57, (t486 : Int).toNat * 16 + 11, none⟩ (.int .i64 a1_10)).setCell ⟨go57, (t486 : Int).toNat * 16 + 12, none⟩ (.int .i64 a1_11)).setCell ⟨go57, (t486 : Int).toNat * 16 + 13, none⟩ (.int .i64 a1_12)).setCell ⟨go57, (t486 : Int).toNat * 16 + 14, none⟩ (.int .i64 a1_13)).setCell ⟨go57, (t486 : Int).toNat * 16 + 15, none⟩ (.int .i64 a2)) = w72 at n0_ n1_ n2_ n3_ n4_ n5_ ⊢
       have HO484 := n0_
       have BK472 := n1_
       have BK473 := n2_
       have BK474 := n3_
       have BK485 := n4_
       have HB := n5_
       clear n0_ n1_ n2_ n3_ n4_ n5_
       have hcz73_0 : w72.cell? ⟨gb485, 0, none⟩ = some (.int .i64 t481) := (blk_cell BK485.out 0).trans rfl
       have hcz73_1 : w72.cell? ⟨gb485, 1, none⟩ = some (.slice (some ⟨go57, 0, none⟩) t482.length co67) := (blk_cell BK485.out 1).trans rfl
       have hfz73_0 := blk_frozen BK485.out 0
       have hfz73_1 := blk_frozen BK485.out 1
       have hnb74 := NB474_473.out
       have hnc74 := NB473_474.out
       have hcz75_0 : w72.cell? ⟨gb474, 0, none⟩ = some (.int .i64 0) := (blk_cell BK474.out 0).trans rfl
       have hcz75_1 : w72.cell? ⟨gb474, 1, none⟩ = some (.slice none 0 0) := (blk_cell BK474.out 1).trans rfl
       have hfz75_0 := blk_frozen BK474.out 0
       have hfz75_1 := blk_frozen BK474.out 1
       try go_wp2
       refine bodyPost_ret (results_ct rfl _ _ gb474 40 #[.int .i64 t481, .slice (some ⟨go57, 0, none⟩) t482.length co67] (0, 0) _ rfl (by (with_reducible repeat (first | refine blk_drewN ?_ _ | refine blk_drew ?_ | refine blk_alloc ?_ _)); refine blk_put (cs := #[.int .i64 t481, .slice none 0 0]) ?_ 1 _ rfl; (with_reducible repeat (first | refine blk_drewN ?_ _ | refine blk_drew ?_ | refine blk_alloc ?_ _)); refine blk_put (cs := #[.int .i64 0, .slice none 0 0]) ?_ 0 _ rfl; (with_reducible repeat (first | refine blk_drewN ?_ _ | refine blk_drew ?_ | refine blk_alloc ?_ _)); exact BK474.out) Try.underlying40 rfl (by kernel_rfl)) rfl ?_
       exact ⟨_, Gv.rt, by (with_reducible repeat (first | apply Kd.R_alloc | apply Kd.R_drewN | apply Kd.R_drew)); exact Kd.R_mono (Kd.R_far (p := ⟨gb474, 1, none⟩) (Kd.R_far (p := ⟨gb474, 0, none⟩) (Kd.R_types HO484.out BK474.out (by decide)) (fun _ hk => hk.2) (.int .i64 t481)) (fun _ hk => hk.2) (.slice (some ⟨go57, 0, none⟩) t482.length co67)) (fun _ hk => trivial), Gv.bw⟩
end Go.Proofs.Ytfnpodebjejhpaa.PTp
