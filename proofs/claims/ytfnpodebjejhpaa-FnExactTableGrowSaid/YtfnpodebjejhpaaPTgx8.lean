/- Plain Lean functions of a law's Go functions, their contracts, by a program of this session (wip/pr.py over the kit's print). -/
import Derived.Test.YtfnpodebjejhpaaPTgx0
import Derived.Test.YtfnpodebjejhpaaPTgx2
import Derived.Test.YtfnpodebjejhpaaPTgx3
import Derived.Test.YtfnpodebjejhpaaPTgx6
import Derived.Test.YtfnpodebjejhpaaPTgx7
namespace Go.Proofs.Ytfnpodebjejhpaa.PTg
open Go.RowKit Go.Proofs.YtfnpodebjejhpaaW.PrintWords Go.Proofs.YtfnpodebjejhpaaW.PrintLast Go.Proofs.YtfnpodebjejhpaaW.PrintMore
attribute [local go_sem] max2_int min2_int max_two min_two max_three min_three max_four min_four   -- for this text's walks alone
set_option linter.unusedVariables false
set_option linter.unusedSimpArgs false

attribute [local go_sem high] eqA75
/-! ### impl_TableOk: function 26 -/
mutual
def impl_TableOk.j0 : Nat → Bool → Int → List (S75) → Option (Bool)
 | 0, _, _, _ => none
 | k + 1, x25, x441000, x441001 => if x25 = true then (some false) else (impl_TableOk.l0 k x441001 (x441001.length : Int) 0 x441000 x441001)
def impl_TableOk.l0 : Nat → List (S75) → Int → Int → Int → List (S75) → Option (Bool)
 | 0, _, _, _, _, _ => none
 | k + 1, x27, x28, x29, x441000, x441001 => if x29 < x28 then (if 0 ≤ x29 then (if x29 < (x27.length : Int) then (if ((rd_T75 x27 x29).f0 = true) then ((impl_FlowKeyOk.f k ((rd_T75 x27 x29).f1.f0) ((rd_T75 x27 x29).f1.f1.f0.f0) ((rd_T75 x27 x29).f1.f1.f0.f1) ((rd_T75 x27 x29).f1.f1.f0.f2) ((rd_T75 x27 x29).f1.f1.f0.f3) ((rd_T75 x27 x29).f1.f1.f0.f4) ((rd_T75 x27 x29).f1.f1.f1.f0) ((rd_T75 x27 x29).f1.f1.f1.f1) ((rd_T75 x27 x29).f1.f1.f1.f2) ((rd_T75 x27 x29).f1.f1.f1.f3) ((rd_T75 x27 x29).f1.f1.f1.f4) ((rd_T75 x27 x29).f1.f1.f2) ((rd_T75 x27 x29).f1.f1.f3) ((rd_T75 x27 x29).f1.f1.f4)).bind fun t446 => (if t446 = true then ((impl_within.f ((rd_T75 x27 x29).f2) 0 1000000000000).bind fun t447 => (if t447 = true then ((impl_Table_probe.f k x441000 x441001 ((rd_T75 x27 x29).f1.f0) ((rd_T75 x27 x29).f1.f1.f0.f0) ((rd_T75 x27 x29).f1.f1.f0.f1) ((rd_T75 x27 x29).f1.f1.f0.f2) ((rd_T75 x27 x29).f1.f1.f0.f3) ((rd_T75 x27 x29).f1.f1.f0.f4) ((rd_T75 x27 x29).f1.f1.f1.f0) ((rd_T75 x27 x29).f1.f1.f1.f1) ((rd_T75 x27 x29).f1.f1.f1.f2) ((rd_T75 x27 x29).f1.f1.f1.f3) ((rd_T75 x27 x29).f1.f1.f1.f4) ((rd_T75 x27 x29).f1.f1.f2) ((rd_T75 x27 x29).f1.f1.f3) ((rd_T75 x27 x29).f1.f1.f4)).bind fun t448 => (if t448 = x29 then (impl_TableOk.l0 k x27 x28 (wrap64 (x29 + 1)) x441000 x441001) else (some false))) else (some false))) else (some false))) else (if (((rd_T75 x27 x29).f0) || ((!(((rd_T75 x27 x29).f1.f0) == 0) || (((!(((rd_T75 x27 x29).f1.f1.f0.f0) == 0) || (!(((rd_T75 x27 x29).f1.f1.f0.f1) == 0) || (!(((rd_T75 x27 x29).f1.f1.f0.f2) == 0) || (!(((rd_T75 x27 x29).f1.f1.f0.f3) == 0) || (!(((rd_T75 x27 x29).f1.f1.f0.f4) == 0)))))) || ((!(((rd_T75 x27 x29).f1.f1.f1.f0) == 0) || (!(((rd_T75 x27 x29).f1.f1.f1.f1) == 0) || (!(((rd_T75 x27 x29).f1.f1.f1.f2) == 0) || (!(((rd_T75 x27 x29).f1.f1.f1.f3) == 0) || (!(((rd_T75 x27 x29).f1.f1.f1.f4) == 0)))))) || (!(((rd_T75 x27 x29).f1.f1.f2) == 0) || (!(((rd_T75 x27 x29).f1.f1.f3) == 0) || (!(((rd_T75 x27 x29).f1.f1.f4) == 0)))))))) || (!(((rd_T75 x27 x29).f2) == 0)))) = true then (some false) else (impl_TableOk.l0 k x27 x28 (wrap64 (x29 + 1)) x441000 x441001))) else (none)) else (none)) else (some true)
end
def impl_TableOk.f (k : Nat) (a0_0 : Int) (l0_1 : List (S75)) : Option (Bool) := (impl_within.f a0_0 0 4294967295).bind fun t441 => (if t441 = true then ((impl_isCells.f (l0_1.length : Int)).bind fun t442 => (if t442 = true then ((impl_Table_used.f k a0_0 l0_1).bind fun t443 => (impl_TableOk.j0 k (decide ((wrap64 (4 * t443)) > (wrap64 (3 * (l0_1.length : Int))))) a0_0 l0_1)) else (impl_TableOk.j0 k true a0_0 l0_1))) else (impl_TableOk.j0 k true a0_0 l0_1))
def impl_TableOk.T1 : Bool × List (List Nat × List Nat) := (true, [([], []), ([0], [0]), ([1], [1]), ([2], [2]), ([3, 2], [3]), ([4], [4]), ([5, 4], [4, 5]), ([6, 4], [4, 6]), ([7, 4, 4], [4, 7]), ([8, 4], [4, 8]), ([4, 9], [4, 9]), ([10, 8], [10]), ([11], [11]), ([12, 11, 11], [11, 12]), ([13, 11], [11, 13]), ([11], [11]), ([15, 11], [11, 15]), ([16, 11], [11, 16]), ([17, 11], [11, 17]), ([14, 18, 11], [11, 14, 18]), ([11, 19], [11, 19])])
def impl_TableOk.B1 : List Nat := [0, 1, 3, 7, 15, 31, 63, 127, 255, 511, 1023, 2047, 4095, 8191, 16383, 4095, 36863, 102399, 233471, 524287, 1048575]
theorem impl_TableOk.tab1 : rtab .any (opsOf Try.f26 1) = impl_TableOk.T1 := by kernel_rfl
theorem impl_TableOk.bits1 : waitsOk impl_TableOk.T1.2 impl_TableOk.B1 = true := by kernel_rfl
set_option maxHeartbeats 8000000 in
set_option maxRecDepth 100000 in
theorem impl_TableOk.calls (k : Nat) (a0_0 : Int) (A0_1 : Option Addr) (c0_1 : Nat) (l0_1 : List (S75)) (r : Bool) (w : World) (hr0_1 : Kd.C k75 w A0_1 l0_1.length l0_1) (hc0_1 : l0_1.length ≤ c0_1) (h : impl_TableOk.f k a0_0 l0_1 = some r) :
  Calls Try.prog 26 #[.agg #[.int .i64 a0_0, .slice A0_1 l0_1.length c0_1]] w fun e w' => e = .returned (.bool r) ∧ Below w.heap.size w w' := by
 have hu40 := Try.underlying40
 have hu75 := Try.underlying75
 have hu33 := Try.underlying33
 have HR0_1 := Gv.a0 hr0_1
 have HC0_1 := Gv.a0 hc0_1
 clear hr0_1 hc0_1
 have HB := Gv.a0 (Below.refl w.heap.size w)
 have H : ((impl_within.f a0_0 0 4294967295).bind fun t441 => (if t441 = true then ((impl_isCells.f (l0_1.length : Int)).bind fun t442 => (if t442 = true then ((impl_Table_used.f k a0_0 l0_1).bind fun t443 => (impl_TableOk.j0 k (decide ((wrap64 (4 * t443)) > (wrap64 (3 * (l0_1.length : Int))))) a0_0 l0_1)) else (impl_TableOk.j0 k true a0_0 l0_1))) else (impl_TableOk.j0 k true a0_0 l0_1))) = some r := h
 clear h
 have HC2 := Gv.a0 H
 clear H
 go_enter Try.func26, Try.ntmps26
 go_upto_region 1 with (first | ((with_reducible refine gate_dst (N := 1) rfl ?_); (try (refine gate_guard (by rfl) ?_; dsimp only)); refine box_event ?hg (N := 1) ?hd (cs := #[.int .i64 a0_0, .slice A0_1 l0_1.length c0_1]) (t := 40) ?hr ?_; (case hd => rfl); (case hg => rfl); (case hr => first | (go_simp; done) | (go_simp; rfl)); intro gb440 hg w3 hbox hb; have BK440 := Gv.a0 (hbox); have GW440 := Gv.a0 ((Gv.ble hg Gv.bw : w.heap.size ≤ gb440)); have GE440 := Gv.a0 ((Gv.ble hg Gv.bw : w.heap.size ≤ gb440)); replace HB := Gv.a0 (below_step Gv.bw hb); clear hb hbox hg) | ((with_reducible refine gate_store (t := 40) (p := 1) rfl ?_); refine Gv.store_event rfl rfl rfl rfl rfl (Gv.kb BK440.out) (by kernel_rfl) rfl (by simp; and_intros <;> rfl) ?_; intro w3s hbox hoth hbel; replace BK440 := Gv.a0 (hbox); replace HB := Gv.a0 (hbel w Gv.bw GE440.out); clear hbox hoth hbel) | ((with_reducible refine Gv.gate_load (t := 75) rfl ?_); (try (refine gate_guard (by rfl) ?_; dsimp only)); refine wpList_load_row rfl 75 _ rfl gb445 rfl 75 _ _ _ (by first | exact Gv.kb0 BK445.out | exact Gv.kb1 (Gv.kb0 BK445.out)) Try.underlying75 rfl (by kernel_rfl) ?_))
 (try simp only [Act.put, List.setIfInBounds_toArray, List.set_cons_zero, List.set_cons_succ])
 go_cut [25] (fun v25 wc => ∃ (kq : Nat) (x25_1 : Bool), v25 = .bool x25_1 ∧ Aside0 (impl_TableOk.j0 kq x25_1 a0_0 l0_1 = some r) ∧ Aside0 (kq ≤ k) ∧ Aside0 (wc.heap[gb440]? = some (.cells #[.int .i64 a0_0, (.slice A0_1 l0_1.length c0_1)] 40 (0, 0))) ∧ Aside0 (Below w.heap.size w wc))
 case first =>
  have H := HC2.out
  clear HC2
  replace H := Option.bind_eq_some_iff.mp H
  obtain ⟨t441, A40, H⟩ := H
  replace H : (if t441 = true then ((impl_isCells.f (l0_1.length : Int)).bind fun t442 => (if t442 = true then ((impl_Table_used.f k a0_0 l0_1).bind fun t443 => (impl_TableOk.j0 k (decide ((wrap64 (4 * t443)) > (wrap64 (3 * (l0_1.length : Int))))) a0_0 l0_1)) else (impl_TableOk.j0 k true a0_0 l0_1))) else (impl_TableOk.j0 k true a0_0 l0_1)) = some r := H
  have A4 := Gv.a0 A40
  clear A40
  by_cases c5 : t441 = true
  ·subst c5
   have H1 : ((impl_isCells.f (l0_1.length : Int)).bind fun t442 => (if t442 = true then ((impl_Table_used.f k a0_0 l0_1).bind fun t443 => (impl_TableOk.j0 k (decide ((wrap64 (4 * t443)) > (wrap64 (3 * (l0_1.length : Int))))) a0_0 l0_1)) else (impl_TableOk.j0 k true a0_0 l0_1))) = some r := by rw [if_pos rfl] at H; exact H
   clear H
   have H := H1
   clear H1
   replace H := Option.bind_eq_some_iff.mp H
   obtain ⟨t442, A60, H⟩ := H
   replace H : (if t442 = true then ((impl_Table_used.f k a0_0 l0_1).bind fun t443 => (impl_TableOk.j0 k (decide ((wrap64 (4 * t443)) > (wrap64 (3 * (l0_1.length : Int))))) a0_0 l0_1)) else (impl_TableOk.j0 k true a0_0 l0_1)) = some r := H
   have A6 := Gv.a0 A60
   clear A60
   by_cases c7 : t442 = true
   ·subst c7
    have H1 : ((impl_Table_used.f k a0_0 l0_1).bind fun t443 => (impl_TableOk.j0 k (decide ((wrap64 (4 * t443)) > (wrap64 (3 * (l0_1.length : Int))))) a0_0 l0_1)) = some r := by rw [if_pos rfl] at H; exact H
    clear H
    have H := H1
    clear H1
    replace H := Option.bind_eq_some_iff.mp H
    obtain ⟨t443, A80, H⟩ := H
    replace H : (impl_TableOk.j0 k (decide ((wrap64 (4 * t443)) > (wrap64 (3 * (l0_1.length : Int))))) a0_0 l0_1) = some r := H
    have A8 := Gv.a0 A80
    clear A80
    have H' := Gv.a0 H
    clear H
    try go_wp2
    replace BK440 := Gv.a0 (blk_drew BK440.out)
    replace HB := Gv.a0 (below_drew1 HB.out)
    refine start_ (n := 21) (S := fun w' => w'.cell? ⟨gb440, 0, none⟩ = some (.int .i64 a0_0) ∧ w'.cell? ⟨gb440, 1, none⟩ = some (.slice A0_1 l0_1.length c0_1)) (ds := []) #[false, false, false, false, false, false, false, false, false, false, false, false, false, false, false, false, false, false, false, false, false] (by kernel_rfl) rfl rfl ⟨(blk_cell BK440.out 0).trans rfl, (blk_cell BK440.out 1).trans rfl⟩ (fun hHeld => ?_); refine with_tabW impl_TableOk.tab1 impl_TableOk.bits1 (fun HT_ HW_ => ?_)
    generalize w3.drew = w9 at BK440 HB hHeld ⊢
    refine Gv.pu 0 (some 5) HT_ ?_
    refine take_ (i := 1) (N := some 6) (v := ?_) (a' := ?_) #[true, true, false, false, false, false, false, false, false, false, false, false, false, false, false, false, false, false, false, false, false] rfl rfl (take_ofW HT_.out HW_.out (by kernel_rfl)) (fun _ _ _ h => h) (Or.inl ⟨by rfl, ?_⟩) hHeld ?_ ?_
    rotate_left
    ·rintro w' ⟨s0, s1⟩
     go_simp
     with_reducible rfl
    rotate_left
    ·simp only [Act.put, List.setIfInBounds_toArray, List.set_cons_zero, List.set_cons_succ, i64_w, i32_w]
     rfl
    refine one_ (i := 2) (N := some 7) #[true, true, true, false, false, false, false, false, false, false, false, false, false, false, false, false, false, false, false, false, false] rfl rfl (one_of HT_.out (by kernel_rfl)) (by decide) (fun K hK => ?_)
    refine goes_ Try.func44 (by kernel_rfl) rfl #[.int .i64 a0_0, .int .i64 0, .int .i64 4294967295] (by rfl) rfl rfl Gv.lm ?_
    with_reducible refine (impl_within.calls a0_0 0 4294967295 true _ A4.out).mono ?_
    rintro e w' ⟨rfl, ⟨nd, rfl⟩⟩
    refine ⟨_, rfl, ?_⟩
    refine hK.out _ _ ⟨(blk_cell BK440.out 0).trans rfl, (blk_cell BK440.out 1).trans rfl⟩ (fun hHeld => ?_)
    clear hK K
    refine norm_ (a' := ?_) ?_ ?_
    rotate_left
    ·show Act.put _ (some 7) _ = _
     simp only [Act.put, List.setIfInBounds_toArray, List.set_cons_zero, List.set_cons_succ, i64_w, i32_w]
     rfl
    refine Gv.pu 3 (some 8) HT_ ?_
    refine Gv.pu 4 (some 9) HT_ ?_
    refine Gv.pu 5 (some 10) HT_ ?_
    refine take_ (i := 6) (N := some 11) (v := ?_) (a' := ?_) #[true, true, true, true, true, true, true, false, false, false, false, false, false, false, false, false, false, false, false, false, false] rfl rfl (take_ofW HT_.out HW_.out (by kernel_rfl)) (fun _ _ _ h => h) (Or.inl ⟨by rfl, ?_⟩) hHeld ?_ ?_
    rotate_left
    ·rintro w' ⟨s0, s1⟩
     go_simp
     with_reducible rfl
    rotate_left
    ·simp only [Act.put, List.setIfInBounds_toArray, List.set_cons_zero, List.set_cons_succ, i64_w, i32_w]
     rfl
    refine Gv.pu 7 (some 12) HT_ ?_
    refine one_ (i := 8) (N := some 13) #[true, true, true, true, true, true, true, true, true, false, false, false, false, false, false, false, false, false, false, false, false] rfl rfl (one_of HT_.out (by kernel_rfl)) (by decide) (fun K hK => ?_)
    refine goes_ Try.func48 (by kernel_rfl) rfl #[.int .i64 (l0_1.length : Int)] (by rfl) rfl rfl Gv.lm ?_
    with_reducible refine (impl_isCells.calls (l0_1.length : Int) true _ A6.out).mono ?_
    rintro e w' ⟨rfl, ⟨nd, rfl⟩⟩
    refine ⟨_, rfl, ?_⟩
    refine hK.out _ _ ⟨(blk_cell BK440.out 0).trans rfl, (blk_cell BK440.out 1).trans rfl⟩ (fun hHeld => ?_)
    clear hK K
    refine norm_ (a' := ?_) ?_ ?_
    rotate_left
    ·show Act.put _ (some 13) _ = _
     simp only [Act.put, List.setIfInBounds_toArray, List.set_cons_zero, List.set_cons_succ, i64_w, i32_w]
     rfl
    refine Gv.pu 9 (some 14) HT_ ?_
    refine Gv.pu 10 (some 15) HT_ ?_
    refine Gv.pu 11 (some 16) HT_ ?_
    refine Gv.pu 15 (some 20) HT_ ?_
    refine take_ (i := 12) (N := some 17) (v := ?_) (a' := ?_) #[true, true, true, true, true, true, true, true, true, true, true, true, true, false, false, true, false, false, false, false, false] rfl rfl (take_ofW HT_.out HW_.out (by kernel_rfl)) (fun _ _ _ h => h) (Or.inl ⟨by rfl, ?_⟩) hHeld ?_ ?_
    rotate_left
    ·rintro w' ⟨s0, s1⟩
     go_simp
     with_reducible rfl
    rotate_left
    ·simp only [Act.put, List.setIfInBounds_toArray, List.set_cons_zero, List.set_cons_succ, i64_w, i32_w]
     rfl
    refine take_ (i := 16) (N := some 21) (v := ?_) (a' := ?_) #[true, true, true, true, true, true, true, true, true, true, true, true, true, false, false, true, true, false, false, false, false] rfl rfl (take_ofW HT_.out HW_.out (by kernel_rfl)) (fun _ _ _ h => h) (Or.inl ⟨by rfl, ?_⟩) hHeld ?_ ?_
    rotate_left
    ·rintro w' ⟨s0, s1⟩
     go_simp
     with_reducible rfl
    rotate_left
    ·simp only [Act.put, List.setIfInBounds_toArray, List.set_cons_zero, List.set_cons_succ, i64_w, i32_w]
     rfl
    refine Gv.pu 17 (some 22) HT_ ?_
    refine Gv.pu 18 (some 23) HT_ ?_
    refine one_ (i := 13) (N := some 18) #[true, true, true, true, true, true, true, true, true, true, true, true, true, true, false, true, true, true, true, false, false] rfl rfl (one_of HT_.out (by kernel_rfl)) (by decide) (fun K hK => ?_)
    refine goes_ Try.func57 (by kernel_rfl) rfl #[.agg #[.int .i64 a0_0, .slice A0_1 l0_1.length c0_1]] (by rfl) rfl rfl Gv.lm ?_
    with_reducible refine (impl_Table_used.calls k a0_0 _ _ l0_1 t443 _ ?side1 ?side2 A8.out).mono ?_
    (case side1 => repeat (first | exact (Kd.C_below HR0_1.out Gv.bw) | (with_reducible refine Kd.C_alloc ?_ _) | (with_reducible refine Kd.C_drewN ?_ _) | (with_reducible refine Kd.C_drew ?_)))
    (case side2 => exact HC0_1.out)
    rintro e w10 ⟨rfl, hb⟩
    refine ⟨_, rfl, ?_⟩
    replace BK440 := Gv.a0 (Gv.bb BK440.out hb)
    replace HB := Gv.a0 (below_step Gv.bw hb)
    (try clear hb)
    (try clear hb2)
    (try clear hk)
    (try clear hi)
    refine hK.out _ _ ⟨(blk_cell BK440.out 0).trans rfl, (blk_cell BK440.out 1).trans rfl⟩ (fun hHeld => ?_)
    clear hK K
    refine norm_ (a' := ?_) ?_ ?_
    rotate_left
    ·show Act.put _ (some 18) _ = _
     simp only [Act.put, List.setIfInBounds_toArray, List.set_cons_zero, List.set_cons_succ, i64_w, i32_w]
     rfl
    refine Gv.pu 14 (some 19) HT_ ?_
    refine Gv.pu 19 (some 24) HT_ ?_
    refine Gv.pu 20 (some 25) HT_ ?_
    refine done_ (done_of HT_.out (by kernel_rfl)) ?_
    try go_wp2
    go_meet
    case rel => exact ⟨_, (decide ((wrap64 (4 * t443)) > (wrap64 (3 * (l0_1.length : Int))))), Gv.rq, H', ⟨by first | omega | exact Nat.le_refl _⟩, ⟨by (with_reducible repeat (first | refine blk_drewN ?_ _ | refine blk_drew ?_ | refine blk_alloc ?_ _)); exact BK440.out⟩, ⟨Gv.bw⟩⟩
   ·replace c7 := Bool.eq_false_iff.mpr c7
    subst c7
    have H1 : (impl_TableOk.j0 k true a0_0 l0_1) = some r := by rw [if_neg (show ¬ (false = true) by decide)] at H; exact H
    clear H
    have H := H1
    clear H1
    have H' := Gv.a0 H
    clear H
    try go_wp2
    replace BK440 := Gv.a0 (blk_drew BK440.out)
    replace HB := Gv.a0 (below_drew1 HB.out)
    refine start_ (n := 21) (S := fun w' => w'.cell? ⟨gb440, 0, none⟩ = some (.int .i64 a0_0) ∧ w'.cell? ⟨gb440, 1, none⟩ = some (.slice A0_1 l0_1.length c0_1)) (ds := []) #[false, false, false, false, false, false, false, false, false, false, false, false, false, false, false, false, false, false, false, false, false] (by kernel_rfl) rfl rfl ⟨(blk_cell BK440.out 0).trans rfl, (blk_cell BK440.out 1).trans rfl⟩ (fun hHeld => ?_); refine with_tabW impl_TableOk.tab1 impl_TableOk.bits1 (fun HT_ HW_ => ?_)
    generalize w3.drew = w11 at BK440 HB hHeld ⊢
    refine Gv.pu 0 (some 5) HT_ ?_
    refine take_ (i := 1) (N := some 6) (v := ?_) (a' := ?_) #[true, true, false, false, false, false, false, false, false, false, false, false, false, false, false, false, false, false, false, false, false] rfl rfl (take_ofW HT_.out HW_.out (by kernel_rfl)) (fun _ _ _ h => h) (Or.inl ⟨by rfl, ?_⟩) hHeld ?_ ?_
    rotate_left
    ·rintro w' ⟨s0, s1⟩
     go_simp
     with_reducible rfl
    rotate_left
    ·simp only [Act.put, List.setIfInBounds_toArray, List.set_cons_zero, List.set_cons_succ, i64_w, i32_w]
     rfl
    refine one_ (i := 2) (N := some 7) #[true, true, true, false, false, false, false, false, false, false, false, false, false, false, false, false, false, false, false, false, false] rfl rfl (one_of HT_.out (by kernel_rfl)) (by decide) (fun K hK => ?_)
    refine goes_ Try.func44 (by kernel_rfl) rfl #[.int .i64 a0_0, .int .i64 0, .int .i64 4294967295] (by rfl) rfl rfl Gv.lm ?_
    with_reducible refine (impl_within.calls a0_0 0 4294967295 true _ A4.out).mono ?_
    rintro e w' ⟨rfl, ⟨nd, rfl⟩⟩
    refine ⟨_, rfl, ?_⟩
    refine hK.out _ _ ⟨(blk_cell BK440.out 0).trans rfl, (blk_cell BK440.out 1).trans rfl⟩ (fun hHeld => ?_)
    clear hK K
    refine norm_ (a' := ?_) ?_ ?_
    rotate_left
    ·show Act.put _ (some 7) _ = _
     simp only [Act.put, List.setIfInBounds_toArray, List.set_cons_zero, List.set_cons_succ, i64_w, i32_w]
     rfl
    refine Gv.pu 3 (some 8) HT_ ?_
    refine Gv.pu 4 (some 9) HT_ ?_
    refine Gv.pu 5 (some 10) HT_ ?_
    refine take_ (i := 6) (N := some 11) (v := ?_) (a' := ?_) #[true, true, true, true, true, true, true, false, false, false, false, false, false, false, false, false, false, false, false, false, false] rfl rfl (take_ofW HT_.out HW_.out (by kernel_rfl)) (fun _ _ _ h => h) (Or.inl ⟨by rfl, ?_⟩) hHeld ?_ ?_
    rotate_left
    ·rintro w' ⟨s0, s1⟩
     go_simp
     with_reducible rfl
    rotate_left
    ·simp only [Act.put, List.setIfInBounds_toArray, List.set_cons_zero, List.set_cons_succ, i64_w, i32_w]
     rfl
    refine Gv.pu 7 (some 12) HT_ ?_
    refine one_ (i := 8) (N := some 13) #[true, true, true, true, true, true, true, true, true, false, false, false, false, false, false, false, false, false, false, false, false] rfl rfl (one_of HT_.out (by kernel_rfl)) (by decide) (fun K hK => ?_)
    refine goes_ Try.func48 (by kernel_rfl) rfl #[.int .i64 (l0_1.length : Int)] (by rfl) rfl rfl Gv.lm ?_
    with_reducible refine (impl_isCells.calls (l0_1.length : Int) false _ A6.out).mono ?_
    rintro e w' ⟨rfl, ⟨nd, rfl⟩⟩
    refine ⟨_, rfl, ?_⟩
    refine hK.out _ _ ⟨(blk_cell BK440.out 0).trans rfl, (blk_cell BK440.out 1).trans rfl⟩ (fun hHeld => ?_)
    clear hK K
    refine norm_ (a' := ?_) ?_ ?_
    rotate_left
    ·show Act.put _ (some 13) _ = _
     simp only [Act.put, List.setIfInBounds_toArray, List.set_cons_zero, List.set_cons_succ, i64_w, i32_w]
     rfl
    refine Gv.pu 9 (some 14) HT_ ?_
    refine Gv.pu 10 (some 15) HT_ ?_
    refine Gv.pu 11 (some 16) HT_ ?_
    refine Gv.pn 12 (some 17) HT_ ?_
    refine Gv.pn 13 (some 18) HT_ ?_
    refine Gv.pn 14 (some 19) HT_ ?_
    refine Gv.pn 15 (some 20) HT_ ?_
    refine Gv.pn 16 (some 21) HT_ ?_
    refine Gv.pn 17 (some 22) HT_ ?_
    refine Gv.pn 18 (some 23) HT_ ?_
    refine Gv.pn 19 (some 24) HT_ ?_
    refine Gv.pu 20 (some 25) HT_ ?_
    refine done_ (done_of HT_.out (by kernel_rfl)) ?_
    try go_wp2
    go_meet
    case rel => exact ⟨_, (true), Gv.rq, H', ⟨by first | omega | exact Nat.le_refl _⟩, ⟨by (with_reducible repeat (first | refine blk_drewN ?_ _ | refine blk_drew ?_ | refine blk_alloc ?_ _)); exact BK440.out⟩, ⟨Gv.bw⟩⟩
  ·replace c5 := Bool.eq_false_iff.mpr c5
   subst c5
   have H1 : (impl_TableOk.j0 k true a0_0 l0_1) = some r := by rw [if_neg (show ¬ (false = true) by decide)] at H; exact H
   clear H
   have H := H1
   clear H1
   have H' := Gv.a0 H
   clear H
   try go_wp2
   replace BK440 := Gv.a0 (blk_drew BK440.out)
   replace HB := Gv.a0 (below_drew1 HB.out)
   refine start_ (n := 21) (S := fun w' => w'.cell? ⟨gb440, 0, none⟩ = some (.int .i64 a0_0) ∧ w'.cell? ⟨gb440, 1, none⟩ = some (.slice A0_1 l0_1.length c0_1)) (ds := []) #[false, false, false, false, false, false, false, false, false, false, false, false, false, false, false, false, false, false, false, false, false] (by kernel_rfl) rfl rfl ⟨(blk_cell BK440.out 0).trans rfl, (blk_cell BK440.out 1).trans rfl⟩ (fun hHeld => ?_); refine with_tabW impl_TableOk.tab1 impl_TableOk.bits1 (fun HT_ HW_ => ?_)
   generalize w3.drew = w12 at BK440 HB hHeld ⊢
   refine Gv.pu 0 (some 5) HT_ ?_
   refine take_ (i := 1) (N := some 6) (v := ?_) (a' := ?_) #[true, true, false, false, false, false, false, false, false, false, false, false, false, false, false, false, false, false, false, false, false] rfl rfl (take_ofW HT_.out HW_.out (by kernel_rfl)) (fun _ _ _ h => h) (Or.inl ⟨by rfl, ?_⟩) hHeld ?_ ?_
   rotate_left
   ·rintro w' ⟨s0, s1⟩
    go_simp
    with_reducible rfl
   rotate_left
   ·simp only [Act.put, List.setIfInBounds_toArray, List.set_cons_zero, List.set_cons_succ, i64_w, i32_w]
    rfl
   refine one_ (i := 2) (N := some 7) #[true, true, true, false, false, false, false, false, false, false, false, false, false, false, false, false, false, false, false, false, false] rfl rfl (one_of HT_.out (by kernel_rfl)) (by decide) (fun K hK => ?_)
   refine goes_ Try.func44 (by kernel_rfl) rfl #[.int .i64 a0_0, .int .i64 0, .int .i64 4294967295] (by rfl) rfl rfl Gv.lm ?_
   with_reducible refine (impl_within.calls a0_0 0 4294967295 false _ A4.out).mono ?_
   rintro e w' ⟨rfl, ⟨nd, rfl⟩⟩
   refine ⟨_, rfl, ?_⟩
   refine hK.out _ _ ⟨(blk_cell BK440.out 0).trans rfl, (blk_cell BK440.out 1).trans rfl⟩ (fun hHeld => ?_)
   clear hK K
   refine norm_ (a' := ?_) ?_ ?_
   rotate_left
   ·show Act.put _ (some 7) _ = _
    simp only [Act.put, List.setIfInBounds_toArray, List.set_cons_zero, List.set_cons_succ, i64_w, i32_w]
    rfl
   refine Gv.pu 3 (some 8) HT_ ?_
   refine Gv.pu 4 (some 9) HT_ ?_
   refine Gv.pn 5 (some 10) HT_ ?_
   refine Gv.pn 6 (some 11) HT_ ?_
   refine Gv.pn 7 (some 12) HT_ ?_
   refine Gv.pn 8 (some 13) HT_ ?_
   refine Gv.pn 9 (some 14) HT_ ?_
   refine Gv.pu 10 (some 15) HT_ ?_
   refine Gv.pu 11 (some 16) HT_ ?_
   refine Gv.pn 12 (some 17) HT_ ?_
   refine Gv.pn 13 (some 18) HT_ ?_
   refine Gv.pn 14 (some 19) HT_ ?_
   refine Gv.pn 15 (some 20) HT_ ?_
   refine Gv.pn 16 (some 21) HT_ ?_
   refine Gv.pn 17 (some 22) HT_ ?_
   refine Gv.pn 18 (some 23) HT_ ?_
   refine Gv.pn 19 (some 24) HT_ ?_
   refine Gv.pu 20 (some 25) HT_ ?_
   refine done_ (done_of HT_.out (by kernel_rfl)) ?_
   try go_wp2
   go_meet
   case rel => exact ⟨_, (true), Gv.rq, H', ⟨by first | omega | exact Nat.le_refl _⟩, ⟨by (with_reducible repeat (first | refine blk_drewN ?_ _ | refine blk_drew ?_ | refine blk_alloc ?_ _)); exact BK440.out⟩, ⟨Gv.bw⟩⟩
 case rest =>
  clear HC2
  try clear c2
  try clear p2
  try clear c4
  try clear c5
  try clear p6
  try clear c7
  obtain ⟨kq, x25_1, rfl, HA, HJ1, BK440, HB⟩ := hcut
  cases kq with
  | zero => exact absurd HA.out (by simp [impl_TableOk.j0])
  | succ kj1 =>
   have H := HA.out
   clear HA
   simp only [impl_TableOk.j0] at H
   by_cases c13 : x25_1 = true
   ·subst c13
    have H1 : (some false) = some r := by rw [if_pos rfl] at H; exact H
    clear H
    have H := H1
    clear H1
    obtain rfl := Option.some.inj H
    go_wp2_with (first | ((with_reducible refine Gv.gate_load (t := 75) rfl ?_); (try (refine gate_guard (by rfl) ?_; dsimp only)); refine wpList_load_row rfl 75 _ rfl gb445 rfl 75 _ _ _ (by first | exact Gv.kb0 BK445.out | exact Gv.kb1 (Gv.kb0 BK445.out)) Try.underlying75 rfl (by kernel_rfl) ?_))
    go_ret
    exact ⟨Gv.rt, Gv.bw⟩
   ·replace c13 := Bool.eq_false_iff.mpr c13
    subst c13
    have H1 : (impl_TableOk.l0 kj1 l0_1 (l0_1.length : Int) 0 a0_0 l0_1) = some r := by rw [if_neg (show ¬ (false = true) by decide)] at H; exact H
    clear H
    have H := H1
    clear H1
    have H' := Gv.a0 H
    clear H
    have hcz14_0 : wc.cell? ⟨gb440, 0, none⟩ = some (.int .i64 a0_0) := (blk_cell BK440.out 0).trans rfl
    have hcz14_1 : wc.cell? ⟨gb440, 1, none⟩ = some (.slice A0_1 l0_1.length c0_1) := (blk_cell BK440.out 1).trans rfl
    have hfz14_0 := blk_frozen BK440.out 0
    have hfz14_1 := blk_frozen BK440.out 1
    go_wp2_with (first | ((with_reducible refine Gv.gate_load (t := 75) rfl ?_); (try (refine gate_guard (by rfl) ?_; dsimp only)); refine wpList_load_row rfl 75 _ rfl gb445 rfl 75 _ _ _ (by first | exact Gv.kb0 BK445.out | exact Gv.kb1 (Gv.kb0 BK445.out)) Try.underlying75 rfl (by kernel_rfl) ?_))
    go_loopg [29] kj1 (fun kq v29 w' => ∃ (x29_2 : Int), v29 = .int .i64 x29_2 ∧ Aside0 (impl_TableOk.l0 kq l0_1 (l0_1.length : Int) x29_2 a0_0 l0_1 = some r) ∧ Aside0 (kq ≤ kj1) ∧ Aside0 (w'.heap[gb440]? = some (.cells #[.int .i64 a0_0, (.slice A0_1 l0_1.length c0_1)] 40 (0, 0))) ∧ Aside0 (Below w.heap.size w w'))
    case atStart => exact ⟨(0), Gv.rq, H', ⟨Nat.le_refl _⟩, ⟨by (with_reducible repeat (first | refine blk_drewN ?_ _ | refine blk_drew ?_ | refine blk_alloc ?_ _)); exact BK440.out⟩, ⟨Gv.bw⟩⟩
    case round =>
     clear H'
     try clear c1
     try clear c2
     try clear p2
     try clear c4
     try clear c5
     try clear p6
     try clear c7
     try clear c13
     try clear hcz14_0 hcz14_1
     try clear hfz14_0 hfz14_1
     try clear p2
     try clear p6
     obtain ⟨x29_2, rfl, HA, HK2, BK440, HB⟩ := hrel
     cases gk with
     | zero => exact absurd HA.out (by simp [impl_TableOk.l0])
     | succ k2 =>
      have H := HA.out
      clear HA
      simp only [impl_TableOk.l0] at H
      by_cases c15 : x29_2 < (l0_1.length : Int)
      ·rw [if_pos c15] at H
       have c15b0 : decide (x29_2 < (l0_1.length : Int)) = true := decide_eq_true c15
       clear c15
       by_cases c16 : 0 ≤ x29_2
       ·rw [if_pos c16] at H
        have c16b0 : decide (0 ≤ x29_2) = true := decide_eq_true c16
        clear c16
        by_cases c17 : x29_2 < (l0_1.length : Int)
        ·rw [if_pos c17] at H
         have c17b0 : decide (x29_2 < (l0_1.length : Int)) = true := decide_eq_true c17
         clear c17
         obtain ⟨bq18, hbq18⟩ : ∃ b_ : Bool, b_ = ((rd_T75 l0_1 x29_2).f0) := ⟨_, rfl⟩
         replace H : (if (bq18 = true) then ((impl_FlowKeyOk.f k2 ((rd_T75 l0_1 x29_2).f1.f0) ((rd_T75 l0_1 x29_2).f1.f1.f0.f0) ((rd_T75 l0_1 x29_2).f1.f1.f0.f1) ((rd_T75 l0_1 x29_2).f1.f1.f0.f2) ((rd_T75 l0_1 x29_2).f1.f1.f0.f3) ((rd_T75 l0_1 x29_2).f1.f1.f0.f4) ((rd_T75 l0_1 x29_2).f1.f1.f1.f0) ((rd_T75 l0_1 x29_2).f1.f1.f1.f1) ((rd_T75 l0_1 x29_2).f1.f1.f1.f2) ((rd_T75 l0_1 x29_2).f1.f1.f1.f3) ((rd_T75 l0_1 x29_2).f1.f1.f1.f4) ((rd_T75 l0_1 x29_2).f1.f1.f2) ((rd_T75 l0_1 x29_2).f1.f1.f3) ((rd_T75 l0_1 x29_2).f1.f1.f4)).bind fun t446 => (if t446 = true then ((impl_within.f ((rd_T75 l0_1 x29_2).f2) 0 1000000000000).bind fun t447 => (if t447 = true then ((impl_Table_probe.f k2 a0_0 l0_1 ((rd_T75 l0_1 x29_2).f1.f0) ((rd_T75 l0_1 x29_2).f1.f1.f0.f0) ((rd_T75 l0_1 x29_2).f1.f1.f0.f1) ((rd_T75 l0_1 x29_2).f1.f1.f0.f2) ((rd_T75 l0_1 x29_2).f1.f1.f0.f3) ((rd_T75 l0_1 x29_2).f1.f1.f0.f4) ((rd_T75 l0_1 x29_2).f1.f1.f1.f0) ((rd_T75 l0_1 x29_2).f1.f1.f1.f1) ((rd_T75 l0_1 x29_2).f1.f1.f1.f2) ((rd_T75 l0_1 x29_2).f1.f1.f1.f3) ((rd_T75 l0_1 x29_2).f1.f1.f1.f4) ((rd_T75 l0_1 x29_2).f1.f1.f2) ((rd_T75 l0_1 x29_2).f1.f1.f3) ((rd_T75 l0_1 x29_2).f1.f1.f4)).bind fun t448 => (if t448 = x29_2 then (impl_TableOk.l0 k2 l0_1 (l0_1.length : Int) (wrap64 (x29_2 + 1)) a0_0 l0_1) else (some false))) else (some false))) else (some false))) else (if ((bq18) || ((!(((rd_T75 l0_1 x29_2).f1.f0) == 0) || (((!(((rd_T75 l0_1 x29_2).f1.f1.f0.f0) == 0) || (!(((rd_T75 l0_1 x29_2).f1.f1.f0.f1) == 0) || (!(((rd_T75 l0_1 x29_2).f1.f1.f0.f2) == 0) || (!(((rd_T75 l0_1 x29_2).f1.f1.f0.f3) == 0) || (!(((rd_T75 l0_1 x29_2).f1.f1.f0.f4) == 0)))))) || ((!(((rd_T75 l0_1 x29_2).f1.f1.f1.f0) == 0) || (!(((rd_T75 l0_1 x29_2).f1.f1.f1.f1) == 0) || (!(((rd_T75 l0_1 x29_2).f1.f1.f1.f2) == 0) || (!(((rd_T75 l0_1 x29_2).f1.f1.f1.f3) == 0) || (!(((rd_T75 l0_1 x29_2).f1.f1.f1.f4) == 0)))))) || (!(((rd_T75 l0_1 x29_2).f1.f1.f2) == 0) || (!(((rd_T75 l0_1 x29_2).f1.f1.f3) == 0) || (!(((rd_T75 l0_1 x29_2).f1.f1.f4) == 0)))))))) || (!(((rd_T75 l0_1 x29_2).f2) == 0)))) = true then (some false) else (impl_TableOk.l0 k2 l0_1 (l0_1.length : Int) (wrap64 (x29_2 + 1)) a0_0 l0_1))) = some r := by rw [← hbq18] at H; exact H
         have Nbq18 := Gv.a0 hbq18
         clear hbq18
         by_cases c19 : (bq18 = true)
         ·subst c19
          have H1 : ((impl_FlowKeyOk.f k2 ((rd_T75 l0_1 x29_2).f1.f0) ((rd_T75 l0_1 x29_2).f1.f1.f0.f0) ((rd_T75 l0_1 x29_2).f1.f1.f0.f1) ((rd_T75 l0_1 x29_2).f1.f1.f0.f2) ((rd_T75 l0_1 x29_2).f1.f1.f0.f3) ((rd_T75 l0_1 x29_2).f1.f1.f0.f4) ((rd_T75 l0_1 x29_2).f1.f1.f1.f0) ((rd_T75 l0_1 x29_2).f1.f1.f1.f1) ((rd_T75 l0_1 x29_2).f1.f1.f1.f2) ((rd_T75 l0_1 x29_2).f1.f1.f1.f3) ((rd_T75 l0_1 x29_2).f1.f1.f1.f4) ((rd_T75 l0_1 x29_2).f1.f1.f2) ((rd_T75 l0_1 x29_2).f1.f1.f3) ((rd_T75 l0_1 x29_2).f1.f1.f4)).bind fun t446 => (if t446 = true then ((impl_within.f ((rd_T75 l0_1 x29_2).f2) 0 1000000000000).bind fun t447 => (if t447 = true then ((impl_Table_probe.f k2 a0_0 l0_1 ((rd_T75 l0_1 x29_2).f1.f0) ((rd_T75 l0_1 x29_2).f1.f1.f0.f0) ((rd_T75 l0_1 x29_2).f1.f1.f0.f1) ((rd_T75 l0_1 x29_2).f1.f1.f0.f2) ((rd_T75 l0_1 x29_2).f1.f1.f0.f3) ((rd_T75 l0_1 x29_2).f1.f1.f0.f4) ((rd_T75 l0_1 x29_2).f1.f1.f1.f0) ((rd_T75 l0_1 x29_2).f1.f1.f1.f1) ((rd_T75 l0_1 x29_2).f1.f1.f1.f2) ((rd_T75 l0_1 x29_2).f1.f1.f1.f3) ((rd_T75 l0_1 x29_2).f1.f1.f1.f4) ((rd_T75 l0_1 x29_2).f1.f1.f2) ((rd_T75 l0_1 x29_2).f1.f1.f3) ((rd_T75 l0_1 x29_2).f1.f1.f4)).bind fun t448 => (if t448 = x29_2 then (impl_TableOk.l0 k2 l0_1 (l0_1.length : Int) (wrap64 (x29_2 + 1)) a0_0 l0_1) else (some false))) else (some false))) else (some false))) = some r := by rw [if_pos rfl] at H; exact H
          clear H
          have H := H1
          clear H1
          replace H := Option.bind_eq_some_iff.mp H
          obtain ⟨t446, A200, H⟩ := H
          replace H : (if t446 = true then ((impl_within.f ((rd_T75 l0_1 x29_2).f2) 0 1000000000000).bind fun t447 => (if t447 = true then ((impl_Table_probe.f k2 a0_0 l0_1 ((rd_T75 l0_1 x29_2).f1.f0) ((rd_T75 l0_1 x29_2).f1.f1.f0.f0) ((rd_T75 l0_1 x29_2).f1.f1.f0.f1) ((rd_T75 l0_1 x29_2).f1.f1.f0.f2) ((rd_T75 l0_1 x29_2).f1.f1.f0.f3) ((rd_T75 l0_1 x29_2).f1.f1.f0.f4) ((rd_T75 l0_1 x29_2).f1.f1.f1.f0) ((rd_T75 l0_1 x29_2).f1.f1.f1.f1) ((rd_T75 l0_1 x29_2).f1.f1.f1.f2) ((rd_T75 l0_1 x29_2).f1.f1.f1.f3) ((rd_T75 l0_1 x29_2).f1.f1.f1.f4) ((rd_T75 l0_1 x29_2).f1.f1.f2) ((rd_T75 l0_1 x29_2).f1.f1.f3) ((rd_T75 l0_1 x29_2).f1.f1.f4)).bind fun t448 => (if t448 = x29_2 then (impl_TableOk.l0 k2 l0_1 (l0_1.length : Int) (wrap64 (x29_2 + 1)) a0_0 l0_1) else (some false))) else (some false))) else (some false)) = some r := H
          have A20 := Gv.a0 A200
          clear A200
          by_cases c21 : t446 = true
          ·subst c21
           have H1 : ((impl_within.f ((rd_T75 l0_1 x29_2).f2) 0 1000000000000).bind fun t447 => (if t447 = true then ((impl_Table_probe.f k2 a0_0 l0_1 ((rd_T75 l0_1 x29_2).f1.f0) ((rd_T75 l0_1 x29_2).f1.f1.f0.f0) ((rd_T75 l0_1 x29_2).f1.f1.f0.f1) ((rd_T75 l0_1 x29_2).f1.f1.f0.f2) ((rd_T75 l0_1 x29_2).f1.f1.f0.f3) ((rd_T75 l0_1 x29_2).f1.f1.f0.f4) ((rd_T75 l0_1 x29_2).f1.f1.f1.f0) ((rd_T75 l0_1 x29_2).f1.f1.f1.f1) ((rd_T75 l0_1 x29_2).f1.f1.f1.f2) ((rd_T75 l0_1 x29_2).f1.f1.f1.f3) ((rd_T75 l0_1 x29_2).f1.f1.f1.f4) ((rd_T75 l0_1 x29_2).f1.f1.f2) ((rd_T75 l0_1 x29_2).f1.f1.f3) ((rd_T75 l0_1 x29_2).f1.f1.f4)).bind fun t448 => (if t448 = x29_2 then (impl_TableOk.l0 k2 l0_1 (l0_1.length : Int) (wrap64 (x29_2 + 1)) a0_0 l0_1) else (some false))) else (some false))) = some r := by rw [if_pos rfl] at H; exact H
           clear H
           have H := H1
           clear H1
           replace H := Option.bind_eq_some_iff.mp H
           obtain ⟨t447, A220, H⟩ := H
           replace H : (if t447 = true then ((impl_Table_probe.f k2 a0_0 l0_1 ((rd_T75 l0_1 x29_2).f1.f0) ((rd_T75 l0_1 x29_2).f1.f1.f0.f0) ((rd_T75 l0_1 x29_2).f1.f1.f0.f1) ((rd_T75 l0_1 x29_2).f1.f1.f0.f2) ((rd_T75 l0_1 x29_2).f1.f1.f0.f3) ((rd_T75 l0_1 x29_2).f1.f1.f0.f4) ((rd_T75 l0_1 x29_2).f1.f1.f1.f0) ((rd_T75 l0_1 x29_2).f1.f1.f1.f1) ((rd_T75 l0_1 x29_2).f1.f1.f1.f2) ((rd_T75 l0_1 x29_2).f1.f1.f1.f3) ((rd_T75 l0_1 x29_2).f1.f1.f1.f4) ((rd_T75 l0_1 x29_2).f1.f1.f2) ((rd_T75 l0_1 x29_2).f1.f1.f3) ((rd_T75 l0_1 x29_2).f1.f1.f4)).bind fun t448 => (if t448 = x29_2 then (impl_TableOk.l0 k2 l0_1 (l0_1.length : Int) (wrap64 (x29_2 + 1)) a0_0 l0_1) else (some false))) else (some false)) = some r := H
           have A22 := Gv.a0 A220
           clear A220
           by_cases c23 : t447 = true
           ·subst c23
            have H1 : ((impl_Table_probe.f k2 a0_0 l0_1 ((rd_T75 l0_1 x29_2).f1.f0) ((rd_T75 l0_1 x29_2).f1.f1.f0.f0) ((rd_T75 l0_1 x29_2).f1.f1.f0.f1) ((rd_T75 l0_1 x29_2).f1.f1.f0.f2) ((rd_T75 l0_1 x29_2).f1.f1.f0.f3) ((rd_T75 l0_1 x29_2).f1.f1.f0.f4) ((rd_T75 l0_1 x29_2).f1.f1.f1.f0) ((rd_T75 l0_1 x29_2).f1.f1.f1.f1) ((rd_T75 l0_1 x29_2).f1.f1.f1.f2) ((rd_T75 l0_1 x29_2).f1.f1.f1.f3) ((rd_T75 l0_1 x29_2).f1.f1.f1.f4) ((rd_T75 l0_1 x29_2).f1.f1.f2) ((rd_T75 l0_1 x29_2).f1.f1.f3) ((rd_T75 l0_1 x29_2).f1.f1.f4)).bind fun t448 => (if t448 = x29_2 then (impl_TableOk.l0 k2 l0_1 (l0_1.length : Int) (wrap64 (x29_2 + 1)) a0_0 l0_1) else (some false))) = some r := by rw [if_pos rfl] at H; exact H
            clear H
            have H := H1
            clear H1
            replace H := Option.bind_eq_some_iff.mp H
            obtain ⟨t448, A240, H⟩ := H
            replace H : (if t448 = x29_2 then (impl_TableOk.l0 k2 l0_1 (l0_1.length : Int) (wrap64 (x29_2 + 1)) a0_0 l0_1) else (some false)) = some r := H
            have A24 := Gv.a0 A240
            clear A240
            by_cases c25 : t448 = x29_2
            ·rw [if_pos c25] at H
             have c25b0 : (t448 == x29_2) = true := beq_iff_eq.mpr c25
             have c25b1 : (t448 != x29_2) = false := bne_eq_false_iff_eq.mpr c25
             clear c25
             have H' := Gv.a0 H
             clear H
             have p444 : 0 ≤ (x29_2 : Int) := of_decide_eq_true (by first | (with_reducible assumption) | assumption)
             have q444 : x29_2 < (l0_1.length : Int) := of_decide_eq_true (by first | (with_reducible assumption) | assumption)
             obtain ⟨ad444, e444, hx444_0, hx444_1, hx444_2, hx444_3, hx444_4, hx444_5, hx444_6, hx444_7, hx444_8, hx444_9, hx444_10, hx444_11, hx444_12, hx444_13, hx444_14, hx444_15⟩ := at_T75 HR0_1.out x29_2 p444 q444
             (try rw [← Nbq18.out] at hx444_0)
             cases e444
             replace hx444_0 := Gv.bx HB.out hx444_0
             replace hx444_1 := Gv.bx HB.out hx444_1
             replace hx444_2 := Gv.bx HB.out hx444_2
             replace hx444_3 := Gv.bx HB.out hx444_3
             replace hx444_4 := Gv.bx HB.out hx444_4
             replace hx444_5 := Gv.bx HB.out hx444_5
             replace hx444_6 := Gv.bx HB.out hx444_6
             replace hx444_7 := Gv.bx HB.out hx444_7
             replace hx444_8 := Gv.bx HB.out hx444_8
             replace hx444_9 := Gv.bx HB.out hx444_9
             replace hx444_10 := Gv.bx HB.out hx444_10
             replace hx444_11 := Gv.bx HB.out hx444_11
             replace hx444_12 := Gv.bx HB.out hx444_12
             replace hx444_13 := Gv.bx HB.out hx444_13
             replace hx444_14 := Gv.bx HB.out hx444_14
             replace hx444_15 := Gv.bx HB.out hx444_15
             replace p444 := eq_true p444
             replace q444 := eq_true q444
             go_wp2_with (first | ((with_reducible refine gate_dst (N := 4) rfl ?_); (try (refine gate_guard (by rfl) ?_; dsimp only)); refine box_event ?hg (N := 4) ?hd (cs := #[.bool false, .int .i64 0, .int .i64 0, .int .i64 0, .int .i64 0, .int .i64 0, .int .i64 0, .int .i64 0, .int .i64 0, .int .i64 0, .int .i64 0, .int .i64 0, .int .i64 0, .int .i64 0, .int .i64 0, .int .i64 0]) (t := 75) ?hr ?_; (case hd => rfl); (case hg => rfl); (case hr => first | (go_simp; done) | (go_simp; rfl)); intro gb445 hg w26 hbox hb; have BK445 := Gv.a0 (hbox); have GW445 := Gv.a0 ((Gv.ble hg Gv.bw : w.heap.size ≤ gb445)); have GE445 := Gv.a0 ((Gv.ble hg Gv.bw : w.heap.size ≤ gb445)); replace HB := Gv.a0 (below_step Gv.bw hb); have NB440_445 := Gv.a0 ((Gv.nlt hg (Gv.kb BK440.out) : gb440 ≠ gb445)); have NB445_440 := Gv.a0 ((Gv.ngt hg (Gv.kb BK440.out) : gb445 ≠ gb440)); replace BK440 := Gv.a0 (Gv.bb BK440.out hb); clear hb hbox hg; have hnb27 := NB445_440.out; have hnc27 := NB440_445.out; obtain ⟨hcz28_0, hcz28_1, hcz28_2, hcz28_3, hcz28_4, hcz28_5, hcz28_6, hcz28_7, hcz28_8, hcz28_9, hcz28_10, hcz28_11, hcz28_12, hcz28_13, hcz28_14, hcz28_15⟩ := Gv.c16 BK445.out) | ((with_reducible refine gate_store (t := 75) (p := 4) rfl ?_); refine Gv.store_event rfl rfl rfl rfl rfl (Gv.kb BK445.out) (by kernel_rfl) rfl (by simp; and_intros <;> rfl) ?_; intro w26s hbox hoth hbel; replace BK445 := Gv.a0 (hbox); replace HB := Gv.a0 (hbel w Gv.bw GE445.out); replace BK440 := Gv.a0 ((hoth gb440 NB440_445.out).trans (Gv.kb BK440.out)); clear hbox hoth hbel; (try clear hcz28_0 hcz28_1 hcz28_2 hcz28_3 hcz28_4 hcz28_5 hcz28_6 hcz28_7 hcz28_8 hcz28_9 hcz28_10 hcz28_11 hcz28_12 hcz28_13 hcz28_14 hcz28_15 hfz28_0 hfz28_1 hfz28_2 hfz28_3 hfz28_4 hfz28_5 hfz28_6 hfz28_7 hfz28_8 hfz28_9 hfz28_10 hfz28_11 hfz28_12 hfz28_13 hfz28_14 hfz28_15); obtain ⟨hcz28_0, hcz28_1, hcz28_2, hcz28_3, hcz28_4, hcz28_5, hcz28_6, hcz28_7, hcz28_8, hcz28_9, hcz28_10, hcz28_11, hcz28_12, hcz28_13, hcz28_14, hcz28_15⟩ := Gv.c16 BK445.out) | ((with_reducible refine gate_callee (f := 15) rfl ?_); refine goesL_ (some 44) rfl rfl Try.func15 (by kernel_rfl) rfl #[.agg #[.int .i64 ((rd_T75 l0_1 x29_2).f1.f0), .int .i64 ((rd_T75 l0_1 x29_2).f1.f1.f0.f0), .int .i64 ((rd_T75 l0_1 x29_2).f1.f1.f0.f1), .int .i64 ((rd_T75 l0_1 x29_2).f1.f1.f0.f2), .int .i64 ((rd_T75 l0_1 x29_2).f1.f1.f0.f3), .int .i64 ((rd_T75 l0_1 x29_2).f1.f1.f0.f4), .int .i64 ((rd_T75 l0_1 x29_2).f1.f1.f1.f0), .int .i64 ((rd_T75 l0_1 x29_2).f1.f1.f1.f1), .int .i64 ((rd_T75 l0_1 x29_2).f1.f1.f1.f2), .int .i64 ((rd_T75 l0_1 x29_2).f1.f1.f1.f3), .int .i64 ((rd_T75 l0_1 x29_2).f1.f1.f1.f4), .int .i64 ((rd_T75 l0_1 x29_2).f1.f1.f2), .int .i64 ((rd_T75 l0_1 x29_2).f1.f1.f3), .int .i64 ((rd_T75 l0_1 x29_2).f1.f1.f4)]] rfl Gv.lm ?_; (with_reducible refine (impl_FlowKeyOk.calls k2 _ _ _ _ _ _ _ _ _ _ _ _ _ _ true _ A20.out).mono ?_); rintro e w29 ⟨rfl, hb⟩; refine ⟨_, rfl, ?_⟩; replace BK440 := Gv.a0 (blk_below (g := gb440) (o := .cells #[.int .i64 a0_0, .slice (some ad444) l0_1.length c0_1] 40 (0, 0)) Gv.bkf hb); replace BK445 := Gv.a0 (blk_below (g := gb445) (o := .cells #[.bool true, .int .i64 ((rd_T75 l0_1 x29_2).f1.f0), .int .i64 ((rd_T75 l0_1 x29_2).f1.f1.f0.f0), .int .i64 ((rd_T75 l0_1 x29_2).f1.f1.f0.f1), .int .i64 ((rd_T75 l0_1 x29_2).f1.f1.f0.f2), .int .i64 ((rd_T75 l0_1 x29_2).f1.f1.f0.f3), .int .i64 ((rd_T75 l0_1 x29_2).f1.f1.f0.f4), .int .i64 ((rd_T75 l0_1 x29_2).f1.f1.f1.f0), .int .i64 ((rd_T75 l0_1 x29_2).f1.f1.f1.f1), .int .i64 ((rd_T75 l0_1 x29_2).f1.f1.f1.f2), .int .i64 ((rd_T75 l0_1 x29_2).f1.f1.f1.f3), .int .i64 ((rd_T75 l0_1 x29_2).f1.f1.f1.f4), .int .i64 ((rd_T75 l0_1 x29_2).f1.f1.f2), .int .i64 ((rd_T75 l0_1 x29_2).f1.f1.f3), .int .i64 ((rd_T75 l0_1 x29_2).f1.f1.f4), .int .i64 ((rd_T75 l0_1 x29_2).f2)] 75 (0, 0)) (by (with_reducible repeat (first | refine blk_drewN ?_ _ | refine blk_drew ?_ | refine blk_alloc ?_ _)); exact BK445.out) hb); replace HB := Gv.a0 (below_step Gv.bw hb); clear hb; obtain ⟨hcz30_0, hcz30_1, hcz30_2, hcz30_3, hcz30_4, hcz30_5, hcz30_6, hcz30_7, hcz30_8, hcz30_9, hcz30_10, hcz30_11, hcz30_12, hcz30_13, hcz30_14, hcz30_15⟩ := Gv.c16 BK445.out) | (go_at_call 44; (with_reducible refine (impl_within.calls _ 0 1000000000000 true _ A22.out).mono ?_); rintro e w' ⟨rfl, ⟨nd, rfl⟩⟩; have hcz31_0 : w29.cell? ⟨gb440, 0, none⟩ = some (.int .i64 a0_0) := (blk_cell BK440.out 0).trans rfl; have hcz31_1 : w29.cell? ⟨gb440, 1, none⟩ = some (.slice (some ad444) l0_1.length c0_1) := (blk_cell BK440.out 1).trans rfl; have hfz31_0 := blk_frozen BK440.out 0; have hfz31_1 := blk_frozen BK440.out 1) | (go_at_call 58; (with_reducible refine (impl_Table_probe.calls k2 a0_0 _ _ l0_1 _ _ _ _ _ _ _ _ _ _ _ _ _ _ t448 _ ?side1 ?side2 A24.out).mono ?_); (case side1 => repeat (first | exact (Kd.C_below HR0_1.out Gv.bw) | (with_reducible refine Kd.C_alloc ?_ _) | (with_reducible refine Kd.C_drewN ?_ _) | (with_reducible refine Kd.C_drew ?_))); (case side2 => exact HC0_1.out); rintro e w32 ⟨rfl, hb⟩; replace BK440 := Gv.a0 (Gv.bb BK440.out hb); replace BK445 := Gv.a0 (Gv.bb BK445.out hb); replace HB := Gv.a0 (below_step Gv.bw hb); clear hb) | ((with_reducible refine Gv.gate_load (t := 75) rfl ?_); (try (refine gate_guard (by rfl) ?_; dsimp only)); refine wpList_load_row rfl 75 _ rfl gb445 rfl 75 _ _ _ (by first | exact Gv.kb0 BK445.out | exact Gv.kb1 (Gv.kb0 BK445.out)) Try.underlying75 rfl (by kernel_rfl) ?_) | ((with_reducible refine Gv.gate_load (t := 75) rfl ?_); refine Gv.load_event (cs := [_, _, _, _, _, _, _, _, _, _, _, _, _, _, _, _]) rfl rfl rfl ⟨hx444_0, hx444_1, hx444_2, hx444_3, hx444_4, hx444_5, hx444_6, hx444_7, hx444_8, hx444_9, hx444_10, hx444_11, hx444_12, hx444_13, hx444_14, hx444_15, trivial⟩ Try.underlying75 rfl (by kernel_rfl) ?_))
             go_roundg k2
             case measure => have := HJ1.out; have := HK2.out; omega
             case rel => exact ⟨(wrap64 (x29_2 + 1)), Gv.rq, H', ⟨by have := HJ1.out; have := HK2.out; omega⟩, ⟨by (with_reducible repeat (first | refine blk_drewN ?_ _ | refine blk_drew ?_ | refine blk_alloc ?_ _)); exact BK440.out⟩, ⟨Gv.bw⟩⟩
            ·rw [if_neg c25] at H
             have c25b0 : (t448 == x29_2) = false := beq_eq_false_iff_ne.mpr c25
             have c25b1 : (t448 != x29_2) = true := bne_iff_ne.mpr c25
             obtain rfl := Option.some.inj H
             have p444 : 0 ≤ (x29_2 : Int) := of_decide_eq_true (by first | (with_reducible assumption) | assumption)
             have q444 : x29_2 < (l0_1.length : Int) := of_decide_eq_true (by first | (with_reducible assumption) | assumption)
             obtain ⟨ad444, e444, hx444_0, hx444_1, hx444_2, hx444_3, hx444_4, hx444_5, hx444_6, hx444_7, hx444_8, hx444_9, hx444_10, hx444_11, hx444_12, hx444_13, hx444_14, hx444_15⟩ := at_T75 HR0_1.out x29_2 p444 q444
             (try rw [← Nbq18.out] at hx444_0)
             cases e444
             replace hx444_0 := Gv.bx HB.out hx444_0
             replace hx444_1 := Gv.bx HB.out hx444_1
             replace hx444_2 := Gv.bx HB.out hx444_2
             replace hx444_3 := Gv.bx HB.out hx444_3
             replace hx444_4 := Gv.bx HB.out hx444_4
             replace hx444_5 := Gv.bx HB.out hx444_5
             replace hx444_6 := Gv.bx HB.out hx444_6
             replace hx444_7 := Gv.bx HB.out hx444_7
             replace hx444_8 := Gv.bx HB.out hx444_8
             replace hx444_9 := Gv.bx HB.out hx444_9
             replace hx444_10 := Gv.bx HB.out hx444_10
             replace hx444_11 := Gv.bx HB.out hx444_11
             replace hx444_12 := Gv.bx HB.out hx444_12
             replace hx444_13 := Gv.bx HB.out hx444_13
             replace hx444_14 := Gv.bx HB.out hx444_14
             replace hx444_15 := Gv.bx HB.out hx444_15
             replace p444 := eq_true p444
             replace q444 := eq_true q444
             go_wp2_with (first | ((with_reducible refine gate_dst (N := 4) rfl ?_); (try (refine gate_guard (by rfl) ?_; dsimp only)); refine box_event ?hg (N := 4) ?hd (cs := #[.bool false, .int .i64 0, .int .i64 0, .int .i64 0, .int .i64 0, .int .i64 0, .int .i64 0, .int .i64 0, .int .i64 0, .int .i64 0, .int .i64 0, .int .i64 0, .int .i64 0, .int .i64 0, .int .i64 0, .int .i64 0]) (t := 75) ?hr ?_; (case hd => rfl); (case hg => rfl); (case hr => first | (go_simp; done) | (go_simp; rfl)); intro gb445 hg w33 hbox hb; have BK445 := Gv.a0 (hbox); have GW445 := Gv.a0 ((Gv.ble hg Gv.bw : w.heap.size ≤ gb445)); have GE445 := Gv.a0 ((Gv.ble hg Gv.bw : w.heap.size ≤ gb445)); replace HB := Gv.a0 (below_step Gv.bw hb); have NB440_445 := Gv.a0 ((Gv.nlt hg (Gv.kb BK440.out) : gb440 ≠ gb445)); have NB445_440 := Gv.a0 ((Gv.ngt hg (Gv.kb BK440.out) : gb445 ≠ gb440)); replace BK440 := Gv.a0 (Gv.bb BK440.out hb); clear hb hbox hg; have hnb34 := NB445_440.out; have hnc34 := NB440_445.out; obtain ⟨hcz35_0, hcz35_1, hcz35_2, hcz35_3, hcz35_4, hcz35_5, hcz35_6, hcz35_7, hcz35_8, hcz35_9, hcz35_10, hcz35_11, hcz35_12, hcz35_13, hcz35_14, hcz35_15⟩ := Gv.c16 BK445.out) | ((with_reducible refine gate_store (t := 75) (p := 4) rfl ?_); refine Gv.store_event rfl rfl rfl rfl rfl (Gv.kb BK445.out) (by kernel_rfl) rfl (by simp; and_intros <;> rfl) ?_; intro w33s hbox hoth hbel; replace BK445 := Gv.a0 (hbox); replace HB := Gv.a0 (hbel w Gv.bw GE445.out); replace BK440 := Gv.a0 ((hoth gb440 NB440_445.out).trans (Gv.kb BK440.out)); clear hbox hoth hbel; (try clear hcz35_0 hcz35_1 hcz35_2 hcz35_3 hcz35_4 hcz35_5 hcz35_6 hcz35_7 hcz35_8 hcz35_9 hcz35_10 hcz35_11 hcz35_12 hcz35_13 hcz35_14 hcz35_15 hfz35_0 hfz35_1 hfz35_2 hfz35_3 hfz35_4 hfz35_5 hfz35_6 hfz35_7 hfz35_8 hfz35_9 hfz35_10 hfz35_11 hfz35_12 hfz35_13 hfz35_14 hfz35_15); obtain ⟨hcz35_0, hcz35_1, hcz35_2, hcz35_3, hcz35_4, hcz35_5, hcz35_6, hcz35_7, hcz35_8, hcz35_9, hcz35_10, hcz35_11, hcz35_12, hcz35_13, hcz35_14, hcz35_15⟩ := Gv.c16 BK445.out) | ((with_reducible refine gate_callee (f := 15) rfl ?_); refine goesL_ (some 44) rfl rfl Try.func15 (by kernel_rfl) rfl #[.agg #[.int .i64 ((rd_T75 l0_1 x29_2).f1.f0), .int .i64 ((rd_T75 l0_1 x29_2).f1.f1.f0.f0), .int .i64 ((rd_T75 l0_1 x29_2).f1.f1.f0.f1), .int .i64 ((rd_T75 l0_1 x29_2).f1.f1.f0.f2), .int .i64 ((rd_T75 l0_1 x29_2).f1.f1.f0.f3), .int .i64 ((rd_T75 l0_1 x29_2).f1.f1.f0.f4), .int .i64 ((rd_T75 l0_1 x29_2).f1.f1.f1.f0), .int .i64 ((rd_T75 l0_1 x29_2).f1.f1.f1.f1), .int .i64 ((rd_T75 l0_1 x29_2).f1.f1.f1.f2), .int .i64 ((rd_T75 l0_1 x29_2).f1.f1.f1.f3), .int .i64 ((rd_T75 l0_1 x29_2).f1.f1.f1.f4), .int .i64 ((rd_T75 l0_1 x29_2).f1.f1.f2), .int .i64 ((rd_T75 l0_1 x29_2).f1.f1.f3), .int .i64 ((rd_T75 l0_1 x29_2).f1.f1.f4)]] rfl Gv.lm ?_; (with_reducible refine (impl_FlowKeyOk.calls k2 _ _ _ _ _ _ _ _ _ _ _ _ _ _ true _ A20.out).mono ?_); rintro e w36 ⟨rfl, hb⟩; refine ⟨_, rfl, ?_⟩; replace BK440 := Gv.a0 (blk_below (g := gb440) (o := .cells #[.int .i64 a0_0, .slice (some ad444) l0_1.length c0_1] 40 (0, 0)) Gv.bkf hb); replace BK445 := Gv.a0 (blk_below (g := gb445) (o := .cells #[.bool true, .int .i64 ((rd_T75 l0_1 x29_2).f1.f0), .int .i64 ((rd_T75 l0_1 x29_2).f1.f1.f0.f0), .int .i64 ((rd_T75 l0_1 x29_2).f1.f1.f0.f1), .int .i64 ((rd_T75 l0_1 x29_2).f1.f1.f0.f2), .int .i64 ((rd_T75 l0_1 x29_2).f1.f1.f0.f3), .int .i64 ((rd_T75 l0_1 x29_2).f1.f1.f0.f4), .int .i64 ((rd_T75 l0_1 x29_2).f1.f1.f1.f0), .int .i64 ((rd_T75 l0_1 x29_2).f1.f1.f1.f1), .int .i64 ((rd_T75 l0_1 x29_2).f1.f1.f1.f2), .int .i64 ((rd_T75 l0_1 x29_2).f1.f1.f1.f3), .int .i64 ((rd_T75 l0_1 x29_2).f1.f1.f1.f4), .int .i64 ((rd_T75 l0_1 x29_2).f1.f1.f2), .int .i64 ((rd_T75 l0_1 x29_2).f1.f1.f3), .int .i64 ((rd_T75 l0_1 x29_2).f1.f1.f4), .int .i64 ((rd_T75 l0_1 x29_2).f2)] 75 (0, 0)) (by (with_reducible repeat (first | refine blk_drewN ?_ _ | refine blk_drew ?_ | refine blk_alloc ?_ _)); exact BK445.out) hb); replace HB := Gv.a0 (below_step Gv.bw hb); clear hb; obtain ⟨hcz37_0, hcz37_1, hcz37_2, hcz37_3, hcz37_4, hcz37_5, hcz37_6, hcz37_7, hcz37_8, hcz37_9, hcz37_10, hcz37_11, hcz37_12, hcz37_13, hcz37_14, hcz37_15⟩ := Gv.c16 BK445.out) | (go_at_call 44; (with_reducible refine (impl_within.calls _ 0 1000000000000 true _ A22.out).mono ?_); rintro e w' ⟨rfl, ⟨nd, rfl⟩⟩; have hcz38_0 : w36.cell? ⟨gb440, 0, none⟩ = some (.int .i64 a0_0) := (blk_cell BK440.out 0).trans rfl; have hcz38_1 : w36.cell? ⟨gb440, 1, none⟩ = some (.slice (some ad444) l0_1.length c0_1) := (blk_cell BK440.out 1).trans rfl; have hfz38_0 := blk_frozen BK440.out 0; have hfz38_1 := blk_frozen BK440.out 1) | (go_at_call 58; (with_reducible refine (impl_Table_probe.calls k2 a0_0 _ _ l0_1 _ _ _ _ _ _ _ _ _ _ _ _ _ _ t448 _ ?side1 ?side2 A24.out).mono ?_); (case side1 => repeat (first | exact (Kd.C_below HR0_1.out Gv.bw) | (with_reducible refine Kd.C_alloc ?_ _) | (with_reducible refine Kd.C_drewN ?_ _) | (with_reducible refine Kd.C_drew ?_))); (case side2 => exact HC0_1.out); rintro e w39 ⟨rfl, hb⟩; replace BK440 := Gv.a0 (Gv.bb BK440.out hb); replace BK445 := Gv.a0 (Gv.bb BK445.out hb); replace HB := Gv.a0 (below_step Gv.bw hb); clear hb) | ((with_reducible refine Gv.gate_load (t := 75) rfl ?_); (try (refine gate_guard (by rfl) ?_; dsimp only)); refine wpList_load_row rfl 75 _ rfl gb445 rfl 75 _ _ _ (by first | exact Gv.kb0 BK445.out | exact Gv.kb1 (Gv.kb0 BK445.out)) Try.underlying75 rfl (by kernel_rfl) ?_) | ((with_reducible refine Gv.gate_load (t := 75) rfl ?_); refine Gv.load_event (cs := [_, _, _, _, _, _, _, _, _, _, _, _, _, _, _, _]) rfl rfl rfl ⟨hx444_0, hx444_1, hx444_2, hx444_3, hx444_4, hx444_5, hx444_6, hx444_7, hx444_8, hx444_9, hx444_10, hx444_11, hx444_12, hx444_13, hx444_14, hx444_15, trivial⟩ Try.underlying75 rfl (by kernel_rfl) ?_))
             go_ret
             exact ⟨Gv.rt, Gv.bw⟩
           ·replace c23 := Bool.eq_false_iff.mpr c23
            subst c23
            have H1 : (some false) = some r := by rw [if_neg (show ¬ (false = true) by decide)] at H; exact H
            clear H
            have H := H1
            clear H1
            obtain rfl := Option.some.inj H
            have p444 : 0 ≤ (x29_2 : Int) := of_decide_eq_true (by first | (with_reducible assumption) | assumption)
            have q444 : x29_2 < (l0_1.length : Int) := of_decide_eq_true (by first | (with_reducible assumption) | assumption)
            obtain ⟨ad444, e444, hx444_0, hx444_1, hx444_2, hx444_3, hx444_4, hx444_5, hx444_6, hx444_7, hx444_8, hx444_9, hx444_10, hx444_11, hx444_12, hx444_13, hx444_14, hx444_15⟩ := at_T75 HR0_1.out x29_2 p444 q444
            (try rw [← Nbq18.out] at hx444_0)
            cases e444
            replace hx444_0 := Gv.bx HB.out hx444_0
            replace hx444_1 := Gv.bx HB.out hx444_1
            replace hx444_2 := Gv.bx HB.out hx444_2
            replace hx444_3 := Gv.bx HB.out hx444_3
            replace hx444_4 := Gv.bx HB.out hx444_4
            replace hx444_5 := Gv.bx HB.out hx444_5
            replace hx444_6 := Gv.bx HB.out hx444_6
            replace hx444_7 := Gv.bx HB.out hx444_7
            replace hx444_8 := Gv.bx HB.out hx444_8
            replace hx444_9 := Gv.bx HB.out hx444_9
            replace hx444_10 := Gv.bx HB.out hx444_10
            replace hx444_11 := Gv.bx HB.out hx444_11
            replace hx444_12 := Gv.bx HB.out hx444_12
            replace hx444_13 := Gv.bx HB.out hx444_13
            replace hx444_14 := Gv.bx HB.out hx444_14
            replace hx444_15 := Gv.bx HB.out hx444_15
            replace p444 := eq_true p444
            replace q444 := eq_true q444
            go_wp2_with (first | ((with_reducible refine gate_dst (N := 4) rfl ?_); (try (refine gate_guard (by rfl) ?_; dsimp only)); refine box_event ?hg (N := 4) ?hd (cs := #[.bool false, .int .i64 0, .int .i64 0, .int .i64 0, .int .i64 0, .int .i64 0, .int .i64 0, .int .i64 0, .int .i64 0, .int .i64 0, .int .i64 0, .int .i64 0, .int .i64 0, .int .i64 0, .int .i64 0, .int .i64 0]) (t := 75) ?hr ?_; (case hd => rfl); (case hg => rfl); (case hr => first | (go_simp; done) | (go_simp; rfl)); intro gb445 hg w40 hbox hb; have BK445 := Gv.a0 (hbox); have GW445 := Gv.a0 ((Gv.ble hg Gv.bw : w.heap.size ≤ gb445)); have GE445 := Gv.a0 ((Gv.ble hg Gv.bw : w.heap.size ≤ gb445)); replace HB := Gv.a0 (below_step Gv.bw hb); have NB440_445 := Gv.a0 ((Gv.nlt hg (Gv.kb BK440.out) : gb440 ≠ gb445)); have NB445_440 := Gv.a0 ((Gv.ngt hg (Gv.kb BK440.out) : gb445 ≠ gb440)); replace BK440 := Gv.a0 (Gv.bb BK440.out hb); clear hb hbox hg; have hnb41 := NB445_440.out; have hnc41 := NB440_445.out; obtain ⟨hcz42_0, hcz42_1, hcz42_2, hcz42_3, hcz42_4, hcz42_5, hcz42_6, hcz42_7, hcz42_8, hcz42_9, hcz42_10, hcz42_11, hcz42_12, hcz42_13, hcz42_14, hcz42_15⟩ := Gv.c16 BK445.out) | ((with_reducible refine gate_store (t := 75) (p := 4) rfl ?_); refine Gv.store_event rfl rfl rfl rfl rfl (Gv.kb BK445.out) (by kernel_rfl) rfl (by simp; and_intros <;> rfl) ?_; intro w40s hbox hoth hbel; replace BK445 := Gv.a0 (hbox); replace HB := Gv.a0 (hbel w Gv.bw GE445.out); replace BK440 := Gv.a0 ((hoth gb440 NB440_445.out).trans (Gv.kb BK440.out)); clear hbox hoth hbel; (try clear hcz42_0 hcz42_1 hcz42_2 hcz42_3 hcz42_4 hcz42_5 hcz42_6 hcz42_7 hcz42_8 hcz42_9 hcz42_10 hcz42_11 hcz42_12 hcz42_13 hcz42_14 hcz42_15 hfz42_0 hfz42_1 hfz42_2 hfz42_3 hfz42_4 hfz42_5 hfz42_6 hfz42_7 hfz42_8 hfz42_9 hfz42_10 hfz42_11 hfz42_12 hfz42_13 hfz42_14 hfz42_15); obtain ⟨hcz42_0, hcz42_1, hcz42_2, hcz42_3, hcz42_4, hcz42_5, hcz42_6, hcz42_7, hcz42_8, hcz42_9, hcz42_10, hcz42_11, hcz42_12, hcz42_13, hcz42_14, hcz42_15⟩ := Gv.c16 BK445.out) | ((with_reducible refine gate_callee (f := 15) rfl ?_); refine goesL_ (some 44) rfl rfl Try.func15 (by kernel_rfl) rfl #[.agg #[.int .i64 ((rd_T75 l0_1 x29_2).f1.f0), .int .i64 ((rd_T75 l0_1 x29_2).f1.f1.f0.f0), .int .i64 ((rd_T75 l0_1 x29_2).f1.f1.f0.f1), .int .i64 ((rd_T75 l0_1 x29_2).f1.f1.f0.f2), .int .i64 ((rd_T75 l0_1 x29_2).f1.f1.f0.f3), .int .i64 ((rd_T75 l0_1 x29_2).f1.f1.f0.f4), .int .i64 ((rd_T75 l0_1 x29_2).f1.f1.f1.f0), .int .i64 ((rd_T75 l0_1 x29_2).f1.f1.f1.f1), .int .i64 ((rd_T75 l0_1 x29_2).f1.f1.f1.f2), .int .i64 ((rd_T75 l0_1 x29_2).f1.f1.f1.f3), .int .i64 ((rd_T75 l0_1 x29_2).f1.f1.f1.f4), .int .i64 ((rd_T75 l0_1 x29_2).f1.f1.f2), .int .i64 ((rd_T75 l0_1 x29_2).f1.f1.f3), .int .i64 ((rd_T75 l0_1 x29_2).f1.f1.f4)]] rfl Gv.lm ?_; (with_reducible refine (impl_FlowKeyOk.calls k2 _ _ _ _ _ _ _ _ _ _ _ _ _ _ true _ A20.out).mono ?_); rintro e w43 ⟨rfl, hb⟩; refine ⟨_, rfl, ?_⟩; replace BK440 := Gv.a0 (blk_below (g := gb440) (o := .cells #[.int .i64 a0_0, .slice (some ad444) l0_1.length c0_1] 40 (0, 0)) Gv.bkf hb); replace BK445 := Gv.a0 (blk_below (g := gb445) (o := .cells #[.bool true, .int .i64 ((rd_T75 l0_1 x29_2).f1.f0), .int .i64 ((rd_T75 l0_1 x29_2).f1.f1.f0.f0), .int .i64 ((rd_T75 l0_1 x29_2).f1.f1.f0.f1), .int .i64 ((rd_T75 l0_1 x29_2).f1.f1.f0.f2), .int .i64 ((rd_T75 l0_1 x29_2).f1.f1.f0.f3), .int .i64 ((rd_T75 l0_1 x29_2).f1.f1.f0.f4), .int .i64 ((rd_T75 l0_1 x29_2).f1.f1.f1.f0), .int .i64 ((rd_T75 l0_1 x29_2).f1.f1.f1.f1), .int .i64 ((rd_T75 l0_1 x29_2).f1.f1.f1.f2), .int .i64 ((rd_T75 l0_1 x29_2).f1.f1.f1.f3), .int .i64 ((rd_T75 l0_1 x29_2).f1.f1.f1.f4), .int .i64 ((rd_T75 l0_1 x29_2).f1.f1.f2), .int .i64 ((rd_T75 l0_1 x29_2).f1.f1.f3), .int .i64 ((rd_T75 l0_1 x29_2).f1.f1.f4), .int .i64 ((rd_T75 l0_1 x29_2).f2)] 75 (0, 0)) (by (with_reducible repeat (first | refine blk_drewN ?_ _ | refine blk_drew ?_ | refine blk_alloc ?_ _)); exact BK445.out) hb); replace HB := Gv.a0 (below_step Gv.bw hb); clear hb; obtain ⟨hcz44_0, hcz44_1, hcz44_2, hcz44_3, hcz44_4, hcz44_5, hcz44_6, hcz44_7, hcz44_8, hcz44_9, hcz44_10, hcz44_11, hcz44_12, hcz44_13, hcz44_14, hcz44_15⟩ := Gv.c16 BK445.out) | (go_at_call 44; (with_reducible refine (impl_within.calls _ 0 1000000000000 false _ A22.out).mono ?_); rintro e w' ⟨rfl, ⟨nd, rfl⟩⟩) | ((with_reducible refine Gv.gate_load (t := 75) rfl ?_); (try (refine gate_guard (by rfl) ?_; dsimp only)); refine wpList_load_row rfl 75 _ rfl gb445 rfl 75 _ _ _ (by first | exact Gv.kb0 BK445.out | exact Gv.kb1 (Gv.kb0 BK445.out)) Try.underlying75 rfl (by kernel_rfl) ?_) | ((with_reducible refine Gv.gate_load (t := 75) rfl ?_); refine Gv.load_event (cs := [_, _, _, _, _, _, _, _, _, _, _, _, _, _, _, _]) rfl rfl rfl ⟨hx444_0, hx444_1, hx444_2, hx444_3, hx444_4, hx444_5, hx444_6, hx444_7, hx444_8, hx444_9, hx444_10, hx444_11, hx444_12, hx444_13, hx444_14, hx444_15, trivial⟩ Try.underlying75 rfl (by kernel_rfl) ?_))
            go_ret
            exact ⟨Gv.rt, Gv.bw⟩
          ·replace c21 := Bool.eq_false_iff.mpr c21
           subst c21
           have H1 : (some false) = some r := by rw [if_neg (show ¬ (false = true) by decide)] at H; exact H
           clear H
           have H := H1
           clear H1
           obtain rfl := Option.some.inj H
           have p444 : 0 ≤ (x29_2 : Int) := of_decide_eq_true (by first | (with_reducible assumption) | assumption)
           have q444 : x29_2 < (l0_1.length : Int) := of_decide_eq_true (by first | (with_reducible assumption) | assumption)
           obtain ⟨ad444, e444, hx444_0, hx444_1, hx444_2, hx444_3, hx444_4, hx444_5, hx444_6, hx444_7, hx444_8, hx444_9, hx444_10, hx444_11, hx444_12, hx444_13, hx444_14, hx444_15⟩ := at_T75 HR0_1.out x29_2 p444 q444
           (try rw [← Nbq18.out] at hx444_0)
           cases e444
           replace hx444_0 := Gv.bx HB.out hx444_0
           replace hx444_1 := Gv.bx HB.out hx444_1
           replace hx444_2 := Gv.bx HB.out hx444_2
           replace hx444_3 := Gv.bx HB.out hx444_3
           replace hx444_4 := Gv.bx HB.out hx444_4
           replace hx444_5 := Gv.bx HB.out hx444_5
           replace hx444_6 := Gv.bx HB.out hx444_6
           replace hx444_7 := Gv.bx HB.out hx444_7
           replace hx444_8 := Gv.bx HB.out hx444_8
           replace hx444_9 := Gv.bx HB.out hx444_9
           replace hx444_10 := Gv.bx HB.out hx444_10
           replace hx444_11 := Gv.bx HB.out hx444_11
           replace hx444_12 := Gv.bx HB.out hx444_12
           replace hx444_13 := Gv.bx HB.out hx444_13
           replace hx444_14 := Gv.bx HB.out hx444_14
           replace hx444_15 := Gv.bx HB.out hx444_15
           replace p444 := eq_true p444
           replace q444 := eq_true q444
           go_wp2_with (first | ((with_reducible refine gate_dst (N := 4) rfl ?_); (try (refine gate_guard (by rfl) ?_; dsimp only)); refine box_event ?hg (N := 4) ?hd (cs := #[.bool false, .int .i64 0, .int .i64 0, .int .i64 0, .int .i64 0, .int .i64 0, .int .i64 0, .int .i64 0, .int .i64 0, .int .i64 0, .int .i64 0, .int .i64 0, .int .i64 0, .int .i64 0, .int .i64 0, .int .i64 0]) (t := 75) ?hr ?_; (case hd => rfl); (case hg => rfl); (case hr => first | (go_simp; done) | (go_simp; rfl)); intro gb445 hg w45 hbox hb; have BK445 := Gv.a0 (hbox); have GW445 := Gv.a0 ((Gv.ble hg Gv.bw : w.heap.size ≤ gb445)); have GE445 := Gv.a0 ((Gv.ble hg Gv.bw : w.heap.size ≤ gb445)); replace HB := Gv.a0 (below_step Gv.bw hb); have NB440_445 := Gv.a0 ((Gv.nlt hg (Gv.kb BK440.out) : gb440 ≠ gb445)); have NB445_440 := Gv.a0 ((Gv.ngt hg (Gv.kb BK440.out) : gb445 ≠ gb440)); replace BK440 := Gv.a0 (Gv.bb BK440.out hb); clear hb hbox hg; have hnb46 := NB445_440.out; have hnc46 := NB440_445.out; obtain ⟨hcz47_0, hcz47_1, hcz47_2, hcz47_3, hcz47_4, hcz47_5, hcz47_6, hcz47_7, hcz47_8, hcz47_9, hcz47_10, hcz47_11, hcz47_12, hcz47_13, hcz47_14, hcz47_15⟩ := Gv.c16 BK445.out) | ((with_reducible refine gate_store (t := 75) (p := 4) rfl ?_); refine Gv.store_event rfl rfl rfl rfl rfl (Gv.kb BK445.out) (by kernel_rfl) rfl (by simp; and_intros <;> rfl) ?_; intro w45s hbox hoth hbel; replace BK445 := Gv.a0 (hbox); replace HB := Gv.a0 (hbel w Gv.bw GE445.out); replace BK440 := Gv.a0 ((hoth gb440 NB440_445.out).trans (Gv.kb BK440.out)); clear hbox hoth hbel; (try clear hcz47_0 hcz47_1 hcz47_2 hcz47_3 hcz47_4 hcz47_5 hcz47_6 hcz47_7 hcz47_8 hcz47_9 hcz47_10 hcz47_11 hcz47_12 hcz47_13 hcz47_14 hcz47_15 hfz47_0 hfz47_1 hfz47_2 hfz47_3 hfz47_4 hfz47_5 hfz47_6 hfz47_7 hfz47_8 hfz47_9 hfz47_10 hfz47_11 hfz47_12 hfz47_13 hfz47_14 hfz47_15); obtain ⟨hcz47_0, hcz47_1, hcz47_2, hcz47_3, hcz47_4, hcz47_5, hcz47_6, hcz47_7, hcz47_8, hcz47_9, hcz47_10, hcz47_11, hcz47_12, hcz47_13, hcz47_14, hcz47_15⟩ := Gv.c16 BK445.out) | ((with_reducible refine gate_callee (f := 15) rfl ?_); refine goesL_ (some 44) rfl rfl Try.func15 (by kernel_rfl) rfl #[.agg #[.int .i64 ((rd_T75 l0_1 x29_2).f1.f0), .int .i64 ((rd_T75 l0_1 x29_2).f1.f1.f0.f0), .int .i64 ((rd_T75 l0_1 x29_2).f1.f1.f0.f1), .int .i64 ((rd_T75 l0_1 x29_2).f1.f1.f0.f2), .int .i64 ((rd_T75 l0_1 x29_2).f1.f1.f0.f3), .int .i64 ((rd_T75 l0_1 x29_2).f1.f1.f0.f4), .int .i64 ((rd_T75 l0_1 x29_2).f1.f1.f1.f0), .int .i64 ((rd_T75 l0_1 x29_2).f1.f1.f1.f1), .int .i64 ((rd_T75 l0_1 x29_2).f1.f1.f1.f2), .int .i64 ((rd_T75 l0_1 x29_2).f1.f1.f1.f3), .int .i64 ((rd_T75 l0_1 x29_2).f1.f1.f1.f4), .int .i64 ((rd_T75 l0_1 x29_2).f1.f1.f2), .int .i64 ((rd_T75 l0_1 x29_2).f1.f1.f3), .int .i64 ((rd_T75 l0_1 x29_2).f1.f1.f4)]] rfl Gv.lm ?_; (with_reducible refine (impl_FlowKeyOk.calls k2 _ _ _ _ _ _ _ _ _ _ _ _ _ _ false _ A20.out).mono ?_); rintro e w48 ⟨rfl, hb⟩; refine ⟨_, rfl, ?_⟩; replace BK440 := Gv.a0 (blk_below (g := gb440) (o := .cells #[.int .i64 a0_0, .slice (some ad444) l0_1.length c0_1] 40 (0, 0)) Gv.bkf hb); replace BK445 := Gv.a0 (blk_below (g := gb445) (o := .cells #[.bool true, .int .i64 ((rd_T75 l0_1 x29_2).f1.f0), .int .i64 ((rd_T75 l0_1 x29_2).f1.f1.f0.f0), .int .i64 ((rd_T75 l0_1 x29_2).f1.f1.f0.f1), .int .i64 ((rd_T75 l0_1 x29_2).f1.f1.f0.f2), .int .i64 ((rd_T75 l0_1 x29_2).f1.f1.f0.f3), .int .i64 ((rd_T75 l0_1 x29_2).f1.f1.f0.f4), .int .i64 ((rd_T75 l0_1 x29_2).f1.f1.f1.f0), .int .i64 ((rd_T75 l0_1 x29_2).f1.f1.f1.f1), .int .i64 ((rd_T75 l0_1 x29_2).f1.f1.f1.f2), .int .i64 ((rd_T75 l0_1 x29_2).f1.f1.f1.f3), .int .i64 ((rd_T75 l0_1 x29_2).f1.f1.f1.f4), .int .i64 ((rd_T75 l0_1 x29_2).f1.f1.f2), .int .i64 ((rd_T75 l0_1 x29_2).f1.f1.f3), .int .i64 ((rd_T75 l0_1 x29_2).f1.f1.f4), .int .i64 ((rd_T75 l0_1 x29_2).f2)] 75 (0, 0)) (by (with_reducible repeat (first | refine blk_drewN ?_ _ | refine blk_drew ?_ | refine blk_alloc ?_ _)); exact BK445.out) hb); replace HB := Gv.a0 (below_step Gv.bw hb); clear hb) | ((with_reducible refine Gv.gate_load (t := 75) rfl ?_); (try (refine gate_guard (by rfl) ?_; dsimp only)); refine wpList_load_row rfl 75 _ rfl gb445 rfl 75 _ _ _ (by first | exact Gv.kb0 BK445.out | exact Gv.kb1 (Gv.kb0 BK445.out)) Try.underlying75 rfl (by kernel_rfl) ?_) | ((with_reducible refine Gv.gate_load (t := 75) rfl ?_); refine Gv.load_event (cs := [_, _, _, _, _, _, _, _, _, _, _, _, _, _, _, _]) rfl rfl rfl ⟨hx444_0, hx444_1, hx444_2, hx444_3, hx444_4, hx444_5, hx444_6, hx444_7, hx444_8, hx444_9, hx444_10, hx444_11, hx444_12, hx444_13, hx444_14, hx444_15, trivial⟩ Try.underlying75 rfl (by kernel_rfl) ?_))
           go_ret
           exact ⟨Gv.rt, Gv.bw⟩
         ·replace c19 := Bool.eq_false_iff.mpr c19
          subst c19
          have H1 : (if (((!(((rd_T75 l0_1 x29_2).f1.f0) == 0) || (((!(((rd_T75 l0_1 x29_2).f1.f1.f0.f0) == 0) || (!(((rd_T75 l0_1 x29_2).f1.f1.f0.f1) == 0) || (!(((rd_T75 l0_1 x29_2).f1.f1.f0.f2) == 0) || (!(((rd_T75 l0_1 x29_2).f1.f1.f0.f3) == 0) || (!(((rd_T75 l0_1 x29_2).f1.f1.f0.f4) == 0)))))) || ((!(((rd_T75 l0_1 x29_2).f1.f1.f1.f0) == 0) || (!(((rd_T75 l0_1 x29_2).f1.f1.f1.f1) == 0) || (!(((rd_T75 l0_1 x29_2).f1.f1.f1.f2) == 0) || (!(((rd_T75 l0_1 x29_2).f1.f1.f1.f3) == 0) || (!(((rd_T75 l0_1 x29_2).f1.f1.f1.f4) == 0)))))) || (!(((rd_T75 l0_1 x29_2).f1.f1.f2) == 0) || (!(((rd_T75 l0_1 x29_2).f1.f1.f3) == 0) || (!(((rd_T75 l0_1 x29_2).f1.f1.f4) == 0)))))))) || (!(((rd_T75 l0_1 x29_2).f2) == 0)))) = true then (some false) else (impl_TableOk.l0 k2 l0_1 (l0_1.length : Int) (wrap64 (x29_2 + 1)) a0_0 l0_1)) = some r := by rw [if_neg (show ¬ (false = true) by decide)] at H; exact H
          clear H
          have H := H1
          clear H1
          by_cases c49 : (((!(((rd_T75 l0_1 x29_2).f1.f0) == 0) || (((!(((rd_T75 l0_1 x29_2).f1.f1.f0.f0) == 0) || (!(((rd_T75 l0_1 x29_2).f1.f1.f0.f1) == 0) || (!(((rd_T75 l0_1 x29_2).f1.f1.f0.f2) == 0) || (!(((rd_T75 l0_1 x29_2).f1.f1.f0.f3) == 0) || (!(((rd_T75 l0_1 x29_2).f1.f1.f0.f4) == 0)))))) || ((!(((rd_T75 l0_1 x29_2).f1.f1.f1.f0) == 0) || (!(((rd_T75 l0_1 x29_2).f1.f1.f1.f1) == 0) || (!(((rd_T75 l0_1 x29_2).f1.f1.f1.f2) == 0) || (!(((rd_T75 l0_1 x29_2).f1.f1.f1.f3) == 0) || (!(((rd_T75 l0_1 x29_2).f1.f1.f1.f4) == 0)))))) || (!(((rd_T75 l0_1 x29_2).f1.f1.f2) == 0) || (!(((rd_T75 l0_1 x29_2).f1.f1.f3) == 0) || (!(((rd_T75 l0_1 x29_2).f1.f1.f4) == 0)))))))) || (!(((rd_T75 l0_1 x29_2).f2) == 0)))) = true
          ·rw [if_pos c49] at H
           have c49b0 : (((!(((rd_T75 l0_1 x29_2).f1.f0) == 0) || (((!(((rd_T75 l0_1 x29_2).f1.f1.f0.f0) == 0) || (!(((rd_T75 l0_1 x29_2).f1.f1.f0.f1) == 0) || (!(((rd_T75 l0_1 x29_2).f1.f1.f0.f2) == 0) || (!(((rd_T75 l0_1 x29_2).f1.f1.f0.f3) == 0) || (!(((rd_T75 l0_1 x29_2).f1.f1.f0.f4) == 0)))))) || ((!(((rd_T75 l0_1 x29_2).f1.f1.f1.f0) == 0) || (!(((rd_T75 l0_1 x29_2).f1.f1.f1.f1) == 0) || (!(((rd_T75 l0_1 x29_2).f1.f1.f1.f2) == 0) || (!(((rd_T75 l0_1 x29_2).f1.f1.f1.f3) == 0) || (!(((rd_T75 l0_1 x29_2).f1.f1.f1.f4) == 0)))))) || (!(((rd_T75 l0_1 x29_2).f1.f1.f2) == 0) || (!(((rd_T75 l0_1 x29_2).f1.f1.f3) == 0) || (!(((rd_T75 l0_1 x29_2).f1.f1.f4) == 0)))))))) || (!(((rd_T75 l0_1 x29_2).f2) == 0)))) = true := c49
           clear c49
           obtain rfl := Option.some.inj H
           have p444 : 0 ≤ (x29_2 : Int) := of_decide_eq_true (by first | (with_reducible assumption) | assumption)
           have q444 : x29_2 < (l0_1.length : Int) := of_decide_eq_true (by first | (with_reducible assumption) | assumption)
           obtain ⟨ad444, e444, hx444_0, hx444_1, hx444_2, hx444_3, hx444_4, hx444_5, hx444_6, hx444_7, hx444_8, hx444_9, hx444_10, hx444_11, hx444_12, hx444_13, hx444_14, hx444_15⟩ := at_T75 HR0_1.out x29_2 p444 q444
           (try rw [← Nbq18.out] at hx444_0)
           cases e444
           replace hx444_0 := Gv.bx HB.out hx444_0
           replace hx444_1 := Gv.bx HB.out hx444_1
           replace hx444_2 := Gv.bx HB.out hx444_2
           replace hx444_3 := Gv.bx HB.out hx444_3
           replace hx444_4 := Gv.bx HB.out hx444_4
           replace hx444_5 := Gv.bx HB.out hx444_5
           replace hx444_6 := Gv.bx HB.out hx444_6
           replace hx444_7 := Gv.bx HB.out hx444_7
           replace hx444_8 := Gv.bx HB.out hx444_8
           replace hx444_9 := Gv.bx HB.out hx444_9
           replace hx444_10 := Gv.bx HB.out hx444_10
           replace hx444_11 := Gv.bx HB.out hx444_11
           replace hx444_12 := Gv.bx HB.out hx444_12
           replace hx444_13 := Gv.bx HB.out hx444_13
           replace hx444_14 := Gv.bx HB.out hx444_14
           replace hx444_15 := Gv.bx HB.out hx444_15
           replace p444 := eq_true p444
           replace q444 := eq_true q444
           go_wp2_with (first | ((with_reducible refine gate_dst (N := 4) rfl ?_); (try (refine gate_guard (by rfl) ?_; dsimp only)); refine box_event ?hg (N := 4) ?hd (cs := #[.bool false, .int .i64 0, .int .i64 0, .int .i64 0, .int .i64 0, .int .i64 0, .int .i64 0, .int .i64 0, .int .i64 0, .int .i64 0, .int .i64 0, .int .i64 0, .int .i64 0, .int .i64 0, .int .i64 0, .int .i64 0]) (t := 75) ?hr ?_; (case hd => rfl); (case hg => rfl); (case hr => first | (go_simp; done) | (go_simp; rfl)); intro gb445 hg w50 hbox hb; have BK445 := Gv.a0 (hbox); have GW445 := Gv.a0 ((Gv.ble hg Gv.bw : w.heap.size ≤ gb445)); have GE445 := Gv.a0 ((Gv.ble hg Gv.bw : w.heap.size ≤ gb445)); replace HB := Gv.a0 (below_step Gv.bw hb); have NB440_445 := Gv.a0 ((Gv.nlt hg (Gv.kb BK440.out) : gb440 ≠ gb445)); have NB445_440 := Gv.a0 ((Gv.ngt hg (Gv.kb BK440.out) : gb445 ≠ gb440)); replace BK440 := Gv.a0 (Gv.bb BK440.out hb); clear hb hbox hg; have hnb51 := NB445_440.out; have hnc51 := NB440_445.out; obtain ⟨hcz52_0, hcz52_1, hcz52_2, hcz52_3, hcz52_4, hcz52_5, hcz52_6, hcz52_7, hcz52_8, hcz52_9, hcz52_10, hcz52_11, hcz52_12, hcz52_13, hcz52_14, hcz52_15⟩ := Gv.c16 BK445.out) | ((with_reducible refine gate_store (t := 75) (p := 4) rfl ?_); refine Gv.store_event rfl rfl rfl rfl rfl (Gv.kb BK445.out) (by kernel_rfl) rfl (by simp; and_intros <;> rfl) ?_; intro w50s hbox hoth hbel; replace BK445 := Gv.a0 (hbox); replace HB := Gv.a0 (hbel w Gv.bw GE445.out); replace BK440 := Gv.a0 ((hoth gb440 NB440_445.out).trans (Gv.kb BK440.out)); clear hbox hoth hbel; (try clear hcz52_0 hcz52_1 hcz52_2 hcz52_3 hcz52_4 hcz52_5 hcz52_6 hcz52_7 hcz52_8 hcz52_9 hcz52_10 hcz52_11 hcz52_12 hcz52_13 hcz52_14 hcz52_15 hfz52_0 hfz52_1 hfz52_2 hfz52_3 hfz52_4 hfz52_5 hfz52_6 hfz52_7 hfz52_8 hfz52_9 hfz52_10 hfz52_11 hfz52_12 hfz52_13 hfz52_14 hfz52_15); obtain ⟨hcz52_0, hcz52_1, hcz52_2, hcz52_3, hcz52_4, hcz52_5, hcz52_6, hcz52_7, hcz52_8, hcz52_9, hcz52_10, hcz52_11, hcz52_12, hcz52_13, hcz52_14, hcz52_15⟩ := Gv.c16 BK445.out) | ((with_reducible refine Gv.gate_load (t := 75) rfl ?_); (try (refine gate_guard (by rfl) ?_; dsimp only)); refine wpList_load_row rfl 75 _ rfl gb445 rfl 75 _ _ _ (by first | exact Gv.kb0 BK445.out | exact Gv.kb1 (Gv.kb0 BK445.out)) Try.underlying75 rfl (by kernel_rfl) ?_) | ((with_reducible refine Gv.gate_load (t := 75) rfl ?_); refine Gv.load_event (cs := [_, _, _, _, _, _, _, _, _, _, _, _, _, _, _, _]) rfl rfl rfl ⟨hx444_0, hx444_1, hx444_2, hx444_3, hx444_4, hx444_5, hx444_6, hx444_7, hx444_8, hx444_9, hx444_10, hx444_11, hx444_12, hx444_13, hx444_14, hx444_15, trivial⟩ Try.underlying75 rfl (by kernel_rfl) ?_))
           go_ret
           exact ⟨Gv.rt, Gv.bw⟩
          ·rw [if_neg c49] at H
           have c49b0 : (((!(((rd_T75 l0_1 x29_2).f1.f0) == 0) || (((!(((rd_T75 l0_1 x29_2).f1.f1.f0.f0) == 0) || (!(((rd_T75 l0_1 x29_2).f1.f1.f0.f1) == 0) || (!(((rd_T75 l0_1 x29_2).f1.f1.f0.f2) == 0) || (!(((rd_T75 l0_1 x29_2).f1.f1.f0.f3) == 0) || (!(((rd_T75 l0_1 x29_2).f1.f1.f0.f4) == 0)))))) || ((!(((rd_T75 l0_1 x29_2).f1.f1.f1.f0) == 0) || (!(((rd_T75 l0_1 x29_2).f1.f1.f1.f1) == 0) || (!(((rd_T75 l0_1 x29_2).f1.f1.f1.f2) == 0) || (!(((rd_T75 l0_1 x29_2).f1.f1.f1.f3) == 0) || (!(((rd_T75 l0_1 x29_2).f1.f1.f1.f4) == 0)))))) || (!(((rd_T75 l0_1 x29_2).f1.f1.f2) == 0) || (!(((rd_T75 l0_1 x29_2).f1.f1.f3) == 0) || (!(((rd_T75 l0_1 x29_2).f1.f1.f4) == 0)))))))) || (!(((rd_T75 l0_1 x29_2).f2) == 0)))) = false := by simpa using c49
           clear c49
           have H' := Gv.a0 H
           clear H
           have p444 : 0 ≤ (x29_2 : Int) := of_decide_eq_true (by first | (with_reducible assumption) | assumption)
           have q444 : x29_2 < (l0_1.length : Int) := of_decide_eq_true (by first | (with_reducible assumption) | assumption)
           obtain ⟨ad444, e444, hx444_0, hx444_1, hx444_2, hx444_3, hx444_4, hx444_5, hx444_6, hx444_7, hx444_8, hx444_9, hx444_10, hx444_11, hx444_12, hx444_13, hx444_14, hx444_15⟩ := at_T75 HR0_1.out x29_2 p444 q444
           (try rw [← Nbq18.out] at hx444_0)
           cases e444
           replace hx444_0 := Gv.bx HB.out hx444_0
           replace hx444_1 := Gv.bx HB.out hx444_1
           replace hx444_2 := Gv.bx HB.out hx444_2
           replace hx444_3 := Gv.bx HB.out hx444_3
           replace hx444_4 := Gv.bx HB.out hx444_4
           replace hx444_5 := Gv.bx HB.out hx444_5
           replace hx444_6 := Gv.bx HB.out hx444_6
           replace hx444_7 := Gv.bx HB.out hx444_7
           replace hx444_8 := Gv.bx HB.out hx444_8
           replace hx444_9 := Gv.bx HB.out hx444_9
           replace hx444_10 := Gv.bx HB.out hx444_10
           replace hx444_11 := Gv.bx HB.out hx444_11
           replace hx444_12 := Gv.bx HB.out hx444_12
           replace hx444_13 := Gv.bx HB.out hx444_13
           replace hx444_14 := Gv.bx HB.out hx444_14
           replace hx444_15 := Gv.bx HB.out hx444_15
           replace p444 := eq_true p444
           replace q444 := eq_true q444
           go_wp2_with (first | ((with_reducible refine gate_dst (N := 4) rfl ?_); (try (refine gate_guard (by rfl) ?_; dsimp only)); refine box_event ?hg (N := 4) ?hd (cs := #[.bool false, .int .i64 0, .int .i64 0, .int .i64 0, .int .i64 0, .int .i64 0, .int .i64 0, .int .i64 0, .int .i64 0, .int .i64 0, .int .i64 0, .int .i64 0, .int .i64 0, .int .i64 0, .int .i64 0, .int .i64 0]) (t := 75) ?hr ?_; (case hd => rfl); (case hg => rfl); (case hr => first | (go_simp; done) | (go_simp; rfl)); intro gb445 hg w53 hbox hb; have BK445 := Gv.a0 (hbox); have GW445 := Gv.a0 ((Gv.ble hg Gv.bw : w.heap.size ≤ gb445)); have GE445 := Gv.a0 ((Gv.ble hg Gv.bw : w.heap.size ≤ gb445)); replace HB := Gv.a0 (below_step Gv.bw hb); have NB440_445 := Gv.a0 ((Gv.nlt hg (Gv.kb BK440.out) : gb440 ≠ gb445)); have NB445_440 := Gv.a0 ((Gv.ngt hg (Gv.kb BK440.out) : gb445 ≠ gb440)); replace BK440 := Gv.a0 (Gv.bb BK440.out hb); clear hb hbox hg; have hnb54 := NB445_440.out; have hnc54 := NB440_445.out; obtain ⟨hcz55_0, hcz55_1, hcz55_2, hcz55_3, hcz55_4, hcz55_5, hcz55_6, hcz55_7, hcz55_8, hcz55_9, hcz55_10, hcz55_11, hcz55_12, hcz55_13, hcz55_14, hcz55_15⟩ := Gv.c16 BK445.out) | ((with_reducible refine gate_store (t := 75) (p := 4) rfl ?_); refine Gv.store_event rfl rfl rfl rfl rfl (Gv.kb BK445.out) (by kernel_rfl) rfl (by simp; and_intros <;> rfl) ?_; intro w53s hbox hoth hbel; replace BK445 := Gv.a0 (hbox); replace HB := Gv.a0 (hbel w Gv.bw GE445.out); replace BK440 := Gv.a0 ((hoth gb440 NB440_445.out).trans (Gv.kb BK440.out)); clear hbox hoth hbel; (try clear hcz55_0 hcz55_1 hcz55_2 hcz55_3 hcz55_4 hcz55_5 hcz55_6 hcz55_7 hcz55_8 hcz55_9 hcz55_10 hcz55_11 hcz55_12 hcz55_13 hcz55_14 hcz55_15 hfz55_0 hfz55_1 hfz55_2 hfz55_3 hfz55_4 hfz55_5 hfz55_6 hfz55_7 hfz55_8 hfz55_9 hfz55_10 hfz55_11 hfz55_12 hfz55_13 hfz55_14 hfz55_15); obtain ⟨hcz55_0, hcz55_1, hcz55_2, hcz55_3, hcz55_4, hcz55_5, hcz55_6, hcz55_7, hcz55_8, hcz55_9, hcz55_10, hcz55_11, hcz55_12, hcz55_13, hcz55_14, hcz55_15⟩ := Gv.c16 BK445.out) | ((with_reducible refine Gv.gate_load (t := 75) rfl ?_); (try (refine gate_guard (by rfl) ?_; dsimp only)); refine wpList_load_row rfl 75 _ rfl gb445 rfl 75 _ _ _ (by first | exact Gv.kb0 BK445.out | exact Gv.kb1 (Gv.kb0 BK445.out)) Try.underlying75 rfl (by kernel_rfl) ?_) | ((with_reducible refine Gv.gate_load (t := 75) rfl ?_); refine Gv.load_event (cs := [_, _, _, _, _, _, _, _, _, _, _, _, _, _, _, _]) rfl rfl rfl ⟨hx444_0, hx444_1, hx444_2, hx444_3, hx444_4, hx444_5, hx444_6, hx444_7, hx444_8, hx444_9, hx444_10, hx444_11, hx444_12, hx444_13, hx444_14, hx444_15, trivial⟩ Try.underlying75 rfl (by kernel_rfl) ?_))
           go_roundg k2
           case measure => have := HJ1.out; have := HK2.out; omega
           case rel => exact ⟨(wrap64 (x29_2 + 1)), Gv.rq, H', ⟨by have := HJ1.out; have := HK2.out; omega⟩, ⟨by (with_reducible repeat (first | refine blk_drewN ?_ _ | refine blk_drew ?_ | refine blk_alloc ?_ _)); (repeat (refine blk_far ?_ NB440_445.out _; (with_reducible repeat (first | refine blk_drewN ?_ _ | refine blk_drew ?_ | refine blk_alloc ?_ _)))); (with_reducible repeat (first | refine blk_drewN ?_ _ | refine blk_drew ?_ | refine blk_alloc ?_ _)); exact BK440.out⟩, ⟨Gv.bw⟩⟩
        ·rw [if_neg c17] at H
         exact absurd H (by simp)
       ·rw [if_neg c16] at H
        exact absurd H (by simp)
      ·rw [if_neg c15] at H
       have c15b0 : decide (x29_2 < (l0_1.length : Int)) = false := decide_eq_false c15
       clear c15
       obtain rfl := Option.some.inj H
       go_wp2_with (first | ((with_reducible refine Gv.gate_load (t := 75) rfl ?_); (try (refine gate_guard (by rfl) ?_; dsimp only)); refine wpList_load_row rfl 75 _ rfl gb445 rfl 75 _ _ _ (by first | exact Gv.kb0 BK445.out | exact Gv.kb1 (Gv.kb0 BK445.out)) Try.underlying75 rfl (by kernel_rfl) ?_))
       go_ret
       exact ⟨Gv.rt, Gv.bw⟩

/-! ### impl_TableGrow: function 32 -/
def impl_TableGrow.l0 : Nat → List (S75) → Int → Int → Int → List (S75) → Option (Int × (List (S75)) × Int)
 | 0, _, _, _, _, _ => none
 | k + 1, x26, x27, x28, x457000, x457001 => if x28 < x27 then (if 0 ≤ x28 then (if x28 < (x26.length : Int) then (if (rd_T75 x26 x28).f0 = true then ((impl_Table_probe.f k x457000 x457001 ((rd_T75 x26 x28).f1.f0) ((rd_T75 x26 x28).f1.f1.f0.f0) ((rd_T75 x26 x28).f1.f1.f0.f1) ((rd_T75 x26 x28).f1.f1.f0.f2) ((rd_T75 x26 x28).f1.f1.f0.f3) ((rd_T75 x26 x28).f1.f1.f0.f4) ((rd_T75 x26 x28).f1.f1.f1.f0) ((rd_T75 x26 x28).f1.f1.f1.f1) ((rd_T75 x26 x28).f1.f1.f1.f2) ((rd_T75 x26 x28).f1.f1.f1.f3) ((rd_T75 x26 x28).f1.f1.f1.f4) ((rd_T75 x26 x28).f1.f1.f2) ((rd_T75 x26 x28).f1.f1.f3) ((rd_T75 x26 x28).f1.f1.f4)).bind fun t459 => (if 0 ≤ t459 then (if t459 < (x457001.length : Int) then (impl_TableGrow.l0 k x26 x27 (wrap64 (x28 + 1)) x457000 (x457001.set (t459 : Int).toNat (⟨(rd_T75 x26 x28).f0, (⟨(rd_T75 x26 x28).f1.f0, (⟨(⟨(rd_T75 x26 x28).f1.f1.f0.f0, (rd_T75 x26 x28).f1.f1.f0.f1, (rd_T75 x26 x28).f1.f1.f0.f2, (rd_T75 x26 x28).f1.f1.f0.f3, (rd_T75 x26 x28).f1.f1.f0.f4⟩ : S29), (⟨(rd_T75 x26 x28).f1.f1.f1.f0, (rd_T75 x26 x28).f1.f1.f1.f1, (rd_T75 x26 x28).f1.f1.f1.f2, (rd_T75 x26 x28).f1.f1.f1.f3, (rd_T75 x26 x28).f1.f1.f1.f4⟩ : S29), (rd_T75 x26 x28).f1.f1.f2, (rd_T75 x26 x28).f1.f1.f3, (rd_T75 x26 x28).f1.f1.f4⟩ : S31)⟩ : S33), (rd_T75 x26 x28).f2⟩ : S75))) else (none)) else (none))) else (impl_TableGrow.l0 k x26 x27 (wrap64 (x28 + 1)) x457000 x457001)) else (none)) else (none)) else (some (x457000, x457001, 0))
def impl_TableGrow.f (k : Nat) (a0_0 : Int) (l0_1 : List (S75)) : Option (Int × (List (S75)) × Int) := (impl_TableOk.f k a0_0 l0_1).bind fun t451 => (if t451 = true then (if (l0_1.length : Int) = 64 then (some (0, ([] : List (S75)), 2)) else ((impl_TableNew.f a0_0 (wrap64 (2 * (l0_1.length : Int)))).bind fun bt452 => (impl_TableGrow.l0 k l0_1 (l0_1.length : Int) 0 bt452.1 bt452.2))) else (some (0, ([] : List (S75)), 1)))
def impl_TableGrow.T10 : Bool × List (List Nat × List Nat) := (true, [([], []), ([0], [0]), ([], []), ([], []), ([3], [3]), ([2, 4], [2, 4]), ([], []), ([1, 5, 0, 1, 2, 3, 4, 5, 6], [1, 5]), ([7, 6, 5, 0, 1, 2, 3, 4, 5, 6], [6, 7])])
def impl_TableGrow.B10 : List Nat := [0, 1, 0, 0, 8, 28, 0, 127, 255]
theorem impl_TableGrow.tab10 : rtab .any (opsOf Try.f32 10) = impl_TableGrow.T10 := by kernel_rfl
theorem impl_TableGrow.bits10 : waitsOk impl_TableGrow.T10.2 impl_TableGrow.B10 = true := by kernel_rfl
set_option maxHeartbeats 8000000 in
set_option maxRecDepth 100000 in
theorem impl_TableGrow.calls (k : Nat) (a0_0 : Int) (A0_1 : Option Addr) (c0_1 : Nat) (l0_1 : List (S75)) (r1 : Int) (r2 : List (S75)) (r3 : Int) (w : World) (hr0_1 : Kd.C k75 w A0_1 l0_1.length l0_1) (hc0_1 : l0_1.length ≤ c0_1) (h : impl_TableGrow.f k a0_0 l0_1 = some (r1, r2, r3)) :
  Calls Try.prog 32 #[.agg #[.int .i64 a0_0, .slice A0_1 l0_1.length c0_1]] w fun e w' => ∃ v1_ : Value, e = .returned (.tuple #[.agg #[.int .i64 r1, v1_], .int .i64 r3]) ∧ Kd.R k75 75 w' w.heap.size (fun _ => True) v1_ r2 ∧ Below w.heap.size w w' := by
 have hu40 := Try.underlying40
 have hu75 := Try.underlying75
 have hu33 := Try.underlying33
 have HR0_1 := Gv.a0 hr0_1
 have HC0_1 := Gv.a0 hc0_1
 clear hr0_1 hc0_1
 have HB := Gv.a0 (Below.refl w.heap.size w)
 have H : ((impl_TableOk.f k a0_0 l0_1).bind fun t451 => (if t451 = true then (if (l0_1.length : Int) = 64 then (some (0, ([] : List (S75)), 2)) else ((impl_TableNew.f a0_0 (wrap64 (2 * (l0_1.length : Int)))).bind fun bt452 => (impl_TableGrow.l0 k l0_1 (l0_1.length : Int) 0 bt452.1 bt452.2))) else (some (0, ([] : List (S75)), 1)))) = some (r1, r2, r3) := h
 clear h
 replace H := Option.bind_eq_some_iff.mp H
 obtain ⟨t451, A20, H⟩ := H
 replace H : (if t451 = true then (if (l0_1.length : Int) = 64 then (some (0, ([] : List (S75)), 2)) else ((impl_TableNew.f a0_0 (wrap64 (2 * (l0_1.length : Int)))).bind fun bt452 => (impl_TableGrow.l0 k l0_1 (l0_1.length : Int) 0 bt452.1 bt452.2))) else (some (0, ([] : List (S75)), 1))) = some (r1, r2, r3) := H
 have A2 := Gv.a0 A20
 clear A20
 by_cases c3 : t451 = true
 ·subst c3
  have H1 : (if (l0_1.length : Int) = 64 then (some (0, ([] : List (S75)), 2)) else ((impl_TableNew.f a0_0 (wrap64 (2 * (l0_1.length : Int)))).bind fun bt452 => (impl_TableGrow.l0 k l0_1 (l0_1.length : Int) 0 bt452.1 bt452.2))) = some (r1, r2, r3) := by rw [if_pos rfl] at H; exact H
  clear H
  have H := H1
  clear H1
  by_cases c4 : (l0_1.length : Int) = 64
  ·rw [if_pos c4] at H
   have c4b0 : ((l0_1.length : Int) == 64) = true := beq_iff_eq.mpr c4
   have c4b1 : ((l0_1.length : Int) != 64) = false := bne_eq_false_iff_eq.mpr c4
   clear c4
   simp only [Option.some.injEq, Prod.mk.injEq] at H
   obtain ⟨rfl, rfl, rfl⟩ := H
   go_enter Try.func32, Try.ntmps32
   go_wp2_with (first | ((with_reducible refine gate_dst (N := 1) rfl ?_); refine box_event ?hg (N := 1) ?hd (cs := #[.int .i64 a0_0, .slice A0_1 l0_1.length c0_1]) (t := 40) ?hr ?_; (case hd => rfl); (case hg => rfl); (case hr => first | (go_simp; done) | (go_simp; rfl)); intro gb449 hg w5 hbox hb; have BK449 := Gv.a0 (hbox); have GW449 := Gv.a0 ((Gv.ble hg Gv.bw : w.heap.size ≤ gb449)); have GE449 := Gv.a0 ((Gv.ble hg Gv.bw : w.heap.size ≤ gb449)); replace HB := Gv.a0 (below_step Gv.bw hb); clear hb hbox hg) | ((with_reducible refine gate_dst (N := 2) rfl ?_); refine box_event ?hg (N := 2) ?hd (cs := #[.int .i64 0, .slice none 0 0]) (t := 40) ?hr ?_; (case hd => rfl); (case hg => rfl); (case hr => first | (go_simp; done) | (go_simp; rfl)); intro gb450 hg w6 hbox hb; have BK450 := Gv.a0 (hbox); have GW450 := Gv.a0 ((Gv.ble hg Gv.bw : w.heap.size ≤ gb450)); have GE450 := Gv.a0 ((Gv.ble hg Gv.bw : w.heap.size ≤ gb450)); replace HB := Gv.a0 (below_step Gv.bw hb); have NB449_450 := Gv.a0 ((Gv.nlt hg (Gv.kb BK449.out) : gb449 ≠ gb450)); have NB450_449 := Gv.a0 ((Gv.ngt hg (Gv.kb BK449.out) : gb450 ≠ gb449)); replace BK449 := Gv.a0 (Gv.bb BK449.out hb); clear hb hbox hg; have hnb7 := NB449_450.out; have hnc7 := NB450_449.out; have hcz8_0 : w6.cell? ⟨gb449, 0, none⟩ = some (.int .i64 a0_0) := (blk_cell BK449.out 0).trans rfl; have hcz8_1 : w6.cell? ⟨gb449, 1, none⟩ = some (.slice A0_1 l0_1.length c0_1) := (blk_cell BK449.out 1).trans rfl; have hfz8_0 := blk_frozen BK449.out 0; have hfz8_1 := blk_frozen BK449.out 1) | ((with_reducible refine gate_callee (f := 26) rfl ?_); refine goesL_ (some 9) rfl rfl Try.func26 (by kernel_rfl) rfl #[.agg #[.int .i64 a0_0, .slice A0_1 l0_1.length c0_1]] rfl Gv.lm ?_; (with_reducible refine (impl_TableOk.calls k a0_0 _ _ l0_1 true _ ?side1 ?side2 A2.out).mono ?_); (case side1 => repeat (first | exact (Kd.C_below HR0_1.out HB.out) | (with_reducible refine Kd.C_alloc ?_ _) | (with_reducible refine Kd.C_drewN ?_ _) | (with_reducible refine Kd.C_drew ?_))); (case side2 => exact HC0_1.out); rintro e w9 ⟨rfl, hb⟩; refine ⟨_, rfl, ?_⟩; replace BK449 := Gv.a0 (Gv.bb BK449.out hb); replace BK450 := Gv.a0 (Gv.bb BK450.out hb); replace HB := Gv.a0 (below_step Gv.bw hb); clear hb; have hcz10_0 : w9.cell? ⟨gb449, 0, none⟩ = some (.int .i64 a0_0) := (blk_cell BK449.out 0).trans rfl; have hcz10_1 : w9.cell? ⟨gb449, 1, none⟩ = some (.slice A0_1 l0_1.length c0_1) := (blk_cell BK449.out 1).trans rfl; have hfz10_0 := blk_frozen BK449.out 0; have hfz10_1 := blk_frozen BK449.out 1; have hcz11_0 : w9.cell? ⟨gb450, 0, none⟩ = some (.int .i64 0) := (blk_cell BK450.out 0).trans rfl; have hcz11_1 : w9.cell? ⟨gb450, 1, none⟩ = some (.slice none 0 0) := (blk_cell BK450.out 1).trans rfl; have hfz11_0 := blk_frozen BK450.out 0; have hfz11_1 := blk_frozen BK450.out 1) | ((with_reducible refine Gv.gate_load (t := 75) rfl ?_); (try (refine gate_guard (by rfl) ?_; dsimp only)); refine wpList_load_row rfl 75 _ rfl gb458 rfl 75 _ _ _ (by first | exact Gv.kb0 BK458.out | exact Gv.kb1 (Gv.kb0 BK458.out)) Try.underlying75 rfl (by kernel_rfl) ?_) | ((with_reducible refine Gv.gate_load (t := 33) rfl ?_); (try (refine gate_guard (by rfl) ?_; dsimp only)); refine Gv.sub_event (g := gb458) 14 rfl rfl rfl (by first | exact Gv.kb0 BK458.out | exact Gv.kb1 (Gv.kb0 BK458.out)) Try.underlying33 rfl (by kernel_rfl) ?_) | ((with_reducible refine Gv.gate_load (t := 31) rfl ?_); (try (refine gate_guard (by rfl) ?_; dsimp only)); refine Gv.sub_event (g := gb458) 13 rfl rfl rfl (by first | exact Gv.kb0 BK458.out | exact Gv.kb1 (Gv.kb0 BK458.out)) Try.underlying31 rfl (by kernel_rfl) ?_))
   refine bodyPost_ret (results_ct rfl _ _ gb450 40 #[.int .i64 0, .slice none 0 0] (0, 0) _ rfl (by (with_reducible repeat (first | refine blk_drewN ?_ _ | refine blk_drew ?_ | refine blk_alloc ?_ _)); refine blk_put (cs := #[.int .i64 0, .slice none 0 0]) ?_ 1 _ rfl; (with_reducible repeat (first | refine blk_drewN ?_ _ | refine blk_drew ?_ | refine blk_alloc ?_ _)); refine blk_put (cs := #[.int .i64 0, .slice none 0 0]) ?_ 0 _ rfl; (with_reducible repeat (first | refine blk_drewN ?_ _ | refine blk_drew ?_ | refine blk_alloc ?_ _)); exact BK450.out) Try.underlying40 rfl (by kernel_rfl)) rfl ?_
   exact ⟨_, Gv.rt, by first | exact Kd.R_nil _ _ _ _ _ | exact Kd.N_nil _ _ _ _ _ | exact Kd.V_nil _ _ _ _ _ | exact Kd.Q_nil _ _ _ _ _ | exact Kd.S_nil _ _ _ _ _, Gv.bw⟩
  ·rw [if_neg c4] at H
   have c4b0 : ((l0_1.length : Int) == 64) = false := beq_eq_false_iff_ne.mpr c4
   have c4b1 : ((l0_1.length : Int) != 64) = true := bne_iff_ne.mpr c4
   replace H := Option.bind_eq_some_iff.mp H
   obtain ⟨⟨t452, t453⟩, A120, H⟩ := H
   replace H : (impl_TableGrow.l0 k l0_1 (l0_1.length : Int) 0 t452 t453) = some (r1, r2, r3) := H
   have A12 := Gv.a0 A120
   clear A120
   have H' := Gv.a0 H
   clear H
   go_enter Try.func32, Try.ntmps32
   go_wp2_with (first | ((with_reducible refine gate_dst (N := 1) rfl ?_); refine box_event ?hg (N := 1) ?hd (cs := #[.int .i64 a0_0, .slice A0_1 l0_1.length c0_1]) (t := 40) ?hr ?_; (case hd => rfl); (case hg => rfl); (case hr => first | (go_simp; done) | (go_simp; rfl)); intro gb449 hg w13 hbox hb; have BK449 := Gv.a0 (hbox); have GW449 := Gv.a0 ((Gv.ble hg Gv.bw : w.heap.size ≤ gb449)); have GE449 := Gv.a0 ((Gv.ble hg Gv.bw : w.heap.size ≤ gb449)); replace HB := Gv.a0 (below_step Gv.bw hb); clear hb hbox hg) | ((with_reducible refine gate_dst (N := 2) rfl ?_); refine box_event ?hg (N := 2) ?hd (cs := #[.int .i64 0, .slice none 0 0]) (t := 40) ?hr ?_; (case hd => rfl); (case hg => rfl); (case hr => first | (go_simp; done) | (go_simp; rfl)); intro gb450 hg w14 hbox hb; have BK450 := Gv.a0 (hbox); have GW450 := Gv.a0 ((Gv.ble hg Gv.bw : w.heap.size ≤ gb450)); have GE450 := Gv.a0 ((Gv.ble hg Gv.bw : w.heap.size ≤ gb450)); replace HB := Gv.a0 (below_step Gv.bw hb); have NB449_450 := Gv.a0 ((Gv.nlt hg (Gv.kb BK449.out) : gb449 ≠ gb450)); have NB450_449 := Gv.a0 ((Gv.ngt hg (Gv.kb BK449.out) : gb450 ≠ gb449)); replace BK449 := Gv.a0 (Gv.bb BK449.out hb); clear hb hbox hg; have hnb15 := NB449_450.out; have hnc15 := NB450_449.out; have hcz16_0 : w14.cell? ⟨gb449, 0, none⟩ = some (.int .i64 a0_0) := (blk_cell BK449.out 0).trans rfl; have hcz16_1 : w14.cell? ⟨gb449, 1, none⟩ = some (.slice A0_1 l0_1.length c0_1) := (blk_cell BK449.out 1).trans rfl; have hfz16_0 := blk_frozen BK449.out 0; have hfz16_1 := blk_frozen BK449.out 1) | ((with_reducible refine gate_callee (f := 26) rfl ?_); refine goesL_ (some 9) rfl rfl Try.func26 (by kernel_rfl) rfl #[.agg #[.int .i64 a0_0, .slice A0_1 l0_1.length c0_1]] rfl Gv.lm ?_; (with_reducible refine (impl_TableOk.calls k a0_0 _ _ l0_1 true _ ?side1 ?side2 A2.out).mono ?_); (case side1 => repeat (first | exact (Kd.C_below HR0_1.out HB.out) | (with_reducible refine Kd.C_alloc ?_ _) | (with_reducible refine Kd.C_drewN ?_ _) | (with_reducible refine Kd.C_drew ?_))); (case side2 => exact HC0_1.out); rintro e w17 ⟨rfl, hb⟩; refine ⟨_, rfl, ?_⟩; replace BK449 := Gv.a0 (Gv.bb BK449.out hb); replace BK450 := Gv.a0 (Gv.bb BK450.out hb); replace HB := Gv.a0 (below_step Gv.bw hb); clear hb; have hcz18_0 : w17.cell? ⟨gb449, 0, none⟩ = some (.int .i64 a0_0) := (blk_cell BK449.out 0).trans rfl; have hcz18_1 : w17.cell? ⟨gb449, 1, none⟩ = some (.slice A0_1 l0_1.length c0_1) := (blk_cell BK449.out 1).trans rfl; have hfz18_0 := blk_frozen BK449.out 0; have hfz18_1 := blk_frozen BK449.out 1) | ((with_reducible refine gate_callee (f := 19) rfl ?_); refine goesL_ (some 24) rfl rfl Try.func19 (by kernel_rfl) rfl #[.int .i64 a0_0, .int .i64 (wrap64 (2 * (l0_1.length : Int)))] rfl Gv.lm ?_; (with_reducible refine (impl_TableNew.calls a0_0 (wrap64 (2 * (l0_1.length : Int))) t452 t453 _ A12.out).mono ?_); rintro e w19 ⟨v454, rfl, ho0, hb⟩; refine ⟨_, rfl, ?_⟩; have HO455 := Gv.a0 (Kd.R_lower ho0 (below_size Gv.bw)); replace BK449 := Gv.a0 (Gv.bb BK449.out hb); replace BK450 := Gv.a0 (Gv.bb BK450.out hb); replace HB := Gv.a0 (below_step Gv.bw hb); clear hb ho0) | ((with_reducible refine gate_dst (N := 4) rfl ?_); refine box_event ?hg (N := 4) ?hd (cs := #[.int .i64 0, .slice none 0 0]) (t := 40) ?hr ?_; (case hd => rfl); (case hg => rfl); (case hr => first | (go_simp; done) | (go_simp; rfl)); intro gb456 hg w20 hbox hb; replace HO455 := Gv.a0 (Kd.R_below (Gv.kr HO455.out) hb); have BK456 := Gv.a0 (hbox); have GW456 := Gv.a0 ((Gv.ble hg Gv.bw : w.heap.size ≤ gb456)); have GE456 := Gv.a0 ((Gv.ble hg Gv.bw : w.heap.size ≤ gb456)); replace HB := Gv.a0 (below_step Gv.bw hb); have NB449_456 := Gv.a0 ((Gv.nlt hg (Gv.kb BK449.out) : gb449 ≠ gb456)); have NB456_449 := Gv.a0 ((Gv.ngt hg (Gv.kb BK449.out) : gb456 ≠ gb449)); replace BK449 := Gv.a0 (Gv.bb BK449.out hb); have NB450_456 := Gv.a0 ((Gv.nlt hg (Gv.kb BK450.out) : gb450 ≠ gb456)); have NB456_450 := Gv.a0 ((Gv.ngt hg (Gv.kb BK450.out) : gb456 ≠ gb450)); replace BK450 := Gv.a0 (Gv.bb BK450.out hb); clear hb hbox hg; have hnb21 := NB456_449.out; have hnc21 := NB449_456.out; have hnb22 := NB456_450.out; have hnc22 := NB450_456.out; have hcz23_0 : w20.cell? ⟨gb456, 0, none⟩ = some (.int .i64 0) := (blk_cell BK456.out 0).trans rfl; have hcz23_1 : w20.cell? ⟨gb456, 1, none⟩ = some (.slice none 0 0) := (blk_cell BK456.out 1).trans rfl; have hfz23_0 := blk_frozen BK456.out 0; have hfz23_1 := blk_frozen BK456.out 1; obtain ⟨Ao24, co24, eo24⟩ := Kd.R_slice HO455.out; subst eo24; have hcz25_0 : w20.cell? ⟨gb449, 0, none⟩ = some (.int .i64 a0_0) := (blk_cell BK449.out 0).trans rfl; have hcz25_1 : w20.cell? ⟨gb449, 1, none⟩ = some (.slice A0_1 l0_1.length c0_1) := (blk_cell BK449.out 1).trans rfl; have hfz25_0 := blk_frozen BK449.out 0; have hfz25_1 := blk_frozen BK449.out 1) | ((with_reducible refine Gv.gate_load (t := 75) rfl ?_); (try (refine gate_guard (by rfl) ?_; dsimp only)); refine wpList_load_row rfl 75 _ rfl gb458 rfl 75 _ _ _ (by first | exact Gv.kb0 BK458.out | exact Gv.kb1 (Gv.kb0 BK458.out)) Try.underlying75 rfl (by kernel_rfl) ?_) | ((with_reducible refine Gv.gate_load (t := 33) rfl ?_); (try (refine gate_guard (by rfl) ?_; dsimp only)); refine Gv.sub_event (g := gb458) 14 rfl rfl rfl (by first | exact Gv.kb0 BK458.out | exact Gv.kb1 (Gv.kb0 BK458.out)) Try.underlying33 rfl (by kernel_rfl) ?_) | ((with_reducible refine Gv.gate_load (t := 31) rfl ?_); (try (refine gate_guard (by rfl) ?_; dsimp only)); refine Gv.sub_event (g := gb458) 13 rfl rfl rfl (by first | exact Gv.kb0 BK458.out | exact Gv.kb1 (Gv.kb0 BK458.out)) Try.underlying31 rfl (by kernel_rfl) ?_))
   go_loopg [28] k (fun kq v28 w' => ∃ (x28_1 : Int) (x457001_1 : List (S75)) (u457001 : Value), v28 = .int .i64 x28_1 ∧ Aside0 (impl_TableGrow.l0 kq l0_1 (l0_1.length : Int) x28_1 t452 x457001_1 = some (r1, r2, r3)) ∧ Aside0 (kq ≤ k) ∧ Aside0 (Kd.R k75 75 w' w.heap.size (fun _ => True) u457001 x457001_1) ∧ Aside0 (w'.heap[gb449]? = some (.cells #[.int .i64 a0_0, (.slice A0_1 l0_1.length c0_1)] 40 (0, 0))) ∧ Aside0 (w'.heap[gb450]? = some (.cells #[.int .i64 0, (.slice none 0 0)] 40 (0, 0))) ∧ Aside0 (w'.heap[gb456]? = some (.cells #[.int .i64 t452, u457001] 40 (0, 0))) ∧ Aside0 (Below w.heap.size w w'))
   case atStart => exact ⟨(0), (t453), (.slice Ao24 t453.length co24), Gv.rq, H', ⟨Nat.le_refl _⟩, ⟨by (with_reducible repeat (first | apply Kd.R_alloc | apply Kd.R_drewN | apply Kd.R_drew)); exact Kd.R_mono (Kd.R_far (p := ⟨gb456, 1, none⟩) (Kd.R_far (p := ⟨gb456, 0, none⟩) (Kd.R_types HO455.out BK456.out (by decide)) (fun _ hk => hk.2) (.int .i64 t452)) (fun _ hk => hk.2) (.slice Ao24 t453.length co24)) (fun _ hk => trivial)⟩, ⟨by (with_reducible repeat (first | refine blk_drewN ?_ _ | refine blk_drew ?_ | refine blk_alloc ?_ _)); (repeat (refine blk_far ?_ NB449_456.out _; (with_reducible repeat (first | refine blk_drewN ?_ _ | refine blk_drew ?_ | refine blk_alloc ?_ _)))); (with_reducible repeat (first | refine blk_drewN ?_ _ | refine blk_drew ?_ | refine blk_alloc ?_ _)); exact BK449.out⟩, ⟨by (with_reducible repeat (first | refine blk_drewN ?_ _ | refine blk_drew ?_ | refine blk_alloc ?_ _)); (repeat (refine blk_far ?_ NB450_456.out _; (with_reducible repeat (first | refine blk_drewN ?_ _ | refine blk_drew ?_ | refine blk_alloc ?_ _)))); (with_reducible repeat (first | refine blk_drewN ?_ _ | refine blk_drew ?_ | refine blk_alloc ?_ _)); exact BK450.out⟩, ⟨by (with_reducible repeat (first | refine blk_drewN ?_ _ | refine blk_drew ?_ | refine blk_alloc ?_ _)); refine blk_put (cs := #[.int .i64 t452, .slice none 0 0]) ?_ 1 _ rfl; (with_reducible repeat (first | refine blk_drewN ?_ _ | refine blk_drew ?_ | refine blk_alloc ?_ _)); refine blk_put (cs := #[.int .i64 0, .slice none 0 0]) ?_ 0 _ rfl; (with_reducible repeat (first | refine blk_drewN ?_ _ | refine blk_drew ?_ | refine blk_alloc ?_ _)); exact BK456.out⟩, ⟨Gv.bw⟩⟩
   case round =>
    clear H'
    try clear c1
    try clear c2
    try clear p2
    try clear c3
    try clear c4
    try clear c4b0
    try clear c4b1
    try clear p6
    try clear c7
    try clear c15
    try clear c19
    try clear c21
    try clear c22
    try clear hcz10_0 hcz10_1
    try clear hcz11_0 hcz11_1
    try clear hcz16_0 hcz16_1
    try clear hcz18_0 hcz18_1
    try clear hcz23_0 hcz23_1
    try clear hcz25_0 hcz25_1
    try clear hcz8_0 hcz8_1
    try clear hfz10_0 hfz10_1
    try clear hfz11_0 hfz11_1
    try clear hfz16_0 hfz16_1
    try clear hfz18_0 hfz18_1
    try clear hfz23_0 hfz23_1
    try clear hfz25_0 hfz25_1
    try clear hfz8_0 hfz8_1
    obtain ⟨x28_1, x457001_1, u457001, rfl, HA, HK1, HO_457001, BK449, BK450, BK456, HB⟩ := hrel
    cases gk with
    | zero => exact absurd HA.out (by simp [impl_TableGrow.l0])
    | succ k1 =>
     have H := HA.out
     clear HA
     simp only [impl_TableGrow.l0] at H
     by_cases c26 : x28_1 < (l0_1.length : Int)
     ·rw [if_pos c26] at H
      have c26b0 : decide (x28_1 < (l0_1.length : Int)) = true := decide_eq_true c26
      clear c26
      by_cases c27 : 0 ≤ x28_1
      ·rw [if_pos c27] at H
       have c27b0 : decide (0 ≤ x28_1) = true := decide_eq_true c27
       clear c27
       by_cases c28 : x28_1 < (l0_1.length : Int)
       ·rw [if_pos c28] at H
        have c28b0 : decide (x28_1 < (l0_1.length : Int)) = true := decide_eq_true c28
        clear c28
        obtain ⟨bq29, hbq29⟩ : ∃ b_ : Bool, b_ = ((rd_T75 l0_1 x28_1).f0) := ⟨_, rfl⟩
        replace H : (if bq29 = true then ((impl_Table_probe.f k1 t452 x457001_1 ((rd_T75 l0_1 x28_1).f1.f0) ((rd_T75 l0_1 x28_1).f1.f1.f0.f0) ((rd_T75 l0_1 x28_1).f1.f1.f0.f1) ((rd_T75 l0_1 x28_1).f1.f1.f0.f2) ((rd_T75 l0_1 x28_1).f1.f1.f0.f3) ((rd_T75 l0_1 x28_1).f1.f1.f0.f4) ((rd_T75 l0_1 x28_1).f1.f1.f1.f0) ((rd_T75 l0_1 x28_1).f1.f1.f1.f1) ((rd_T75 l0_1 x28_1).f1.f1.f1.f2) ((rd_T75 l0_1 x28_1).f1.f1.f1.f3) ((rd_T75 l0_1 x28_1).f1.f1.f1.f4) ((rd_T75 l0_1 x28_1).f1.f1.f2) ((rd_T75 l0_1 x28_1).f1.f1.f3) ((rd_T75 l0_1 x28_1).f1.f1.f4)).bind fun t459 => (if 0 ≤ t459 then (if t459 < (x457001_1.length : Int) then (impl_TableGrow.l0 k1 l0_1 (l0_1.length : Int) (wrap64 (x28_1 + 1)) t452 (x457001_1.set (t459 : Int).toNat (⟨bq29, (⟨(rd_T75 l0_1 x28_1).f1.f0, (⟨(⟨(rd_T75 l0_1 x28_1).f1.f1.f0.f0, (rd_T75 l0_1 x28_1).f1.f1.f0.f1, (rd_T75 l0_1 x28_1).f1.f1.f0.f2, (rd_T75 l0_1 x28_1).f1.f1.f0.f3, (rd_T75 l0_1 x28_1).f1.f1.f0.f4⟩ : S29), (⟨(rd_T75 l0_1 x28_1).f1.f1.f1.f0, (rd_T75 l0_1 x28_1).f1.f1.f1.f1, (rd_T75 l0_1 x28_1).f1.f1.f1.f2, (rd_T75 l0_1 x28_1).f1.f1.f1.f3, (rd_T75 l0_1 x28_1).f1.f1.f1.f4⟩ : S29), (rd_T75 l0_1 x28_1).f1.f1.f2, (rd_T75 l0_1 x28_1).f1.f1.f3, (rd_T75 l0_1 x28_1).f1.f1.f4⟩ : S31)⟩ : S33), (rd_T75 l0_1 x28_1).f2⟩ : S75))) else (none)) else (none))) else (impl_TableGrow.l0 k1 l0_1 (l0_1.length : Int) (wrap64 (x28_1 + 1)) t452 x457001_1)) = some (r1, r2, r3) := by rw [← hbq29] at H; exact H
        have Nbq29 := Gv.a0 hbq29
        clear hbq29
        by_cases c30 : bq29 = true
        ·subst c30
         have H1 : ((impl_Table_probe.f k1 t452 x457001_1 ((rd_T75 l0_1 x28_1).f1.f0) ((rd_T75 l0_1 x28_1).f1.f1.f0.f0) ((rd_T75 l0_1 x28_1).f1.f1.f0.f1) ((rd_T75 l0_1 x28_1).f1.f1.f0.f2) ((rd_T75 l0_1 x28_1).f1.f1.f0.f3) ((rd_T75 l0_1 x28_1).f1.f1.f0.f4) ((rd_T75 l0_1 x28_1).f1.f1.f1.f0) ((rd_T75 l0_1 x28_1).f1.f1.f1.f1) ((rd_T75 l0_1 x28_1).f1.f1.f1.f2) ((rd_T75 l0_1 x28_1).f1.f1.f1.f3) ((rd_T75 l0_1 x28_1).f1.f1.f1.f4) ((rd_T75 l0_1 x28_1).f1.f1.f2) ((rd_T75 l0_1 x28_1).f1.f1.f3) ((rd_T75 l0_1 x28_1).f1.f1.f4)).bind fun t459 => (if 0 ≤ t459 then (if t459 < (x457001_1.length : Int) then (impl_TableGrow.l0 k1 l0_1 (l0_1.length : Int) (wrap64 (x28_1 + 1)) t452 (x457001_1.set (t459 : Int).toNat (⟨true, (⟨(rd_T75 l0_1 x28_1).f1.f0, (⟨(⟨(rd_T75 l0_1 x28_1).f1.f1.f0.f0, (rd_T75 l0_1 x28_1).f1.f1.f0.f1, (rd_T75 l0_1 x28_1).f1.f1.f0.f2, (rd_T75 l0_1 x28_1).f1.f1.f0.f3, (rd_T75 l0_1 x28_1).f1.f1.f0.f4⟩ : S29), (⟨(rd_T75 l0_1 x28_1).f1.f1.f1.f0, (rd_T75 l0_1 x28_1).f1.f1.f1.f1, (rd_T75 l0_1 x28_1).f1.f1.f1.f2, (rd_T75 l0_1 x28_1).f1.f1.f1.f3, (rd_T75 l0_1 x28_1).f1.f1.f1.f4⟩ : S29), (rd_T75 l0_1 x28_1).f1.f1.f2, (rd_T75 l0_1 x28_1).f1.f1.f3, (rd_T75 l0_1 x28_1).f1.f1.f4⟩ : S31)⟩ : S33), (rd_T75 l0_1 x28_1).f2⟩ : S75))) else (none)) else (none))) = some (r1, r2, r3) := by rw [if_pos rfl] at H; exact H
         clear H
         have H := H1
         clear H1
         replace H := Option.bind_eq_some_iff.mp H
         obtain ⟨t459, A310, H⟩ := H
         replace H : (if 0 ≤ t459 then (if t459 < (x457001_1.length : Int) then (impl_TableGrow.l0 k1 l0_1 (l0_1.length : Int) (wrap64 (x28_1 + 1)) t452 (x457001_1.set (t459 : Int).toNat (⟨true, (⟨(rd_T75 l0_1 x28_1).f1.f0, (⟨(⟨(rd_T75 l0_1 x28_1).f1.f1.f0.f0, (rd_T75 l0_1 x28_1).f1.f1.f0.f1, (rd_T75 l0_1 x28_1).f1.f1.f0.f2, (rd_T75 l0_1 x28_1).f1.f1.f0.f3, (rd_T75 l0_1 x28_1).f1.f1.f0.f4⟩ : S29), (⟨(rd_T75 l0_1 x28_1).f1.f1.f1.f0, (rd_T75 l0_1 x28_1).f1.f1.f1.f1, (rd_T75 l0_1 x28_1).f1.f1.f1.f2, (rd_T75 l0_1 x28_1).f1.f1.f1.f3, (rd_T75 l0_1 x28_1).f1.f1.f1.f4⟩ : S29), (rd_T75 l0_1 x28_1).f1.f1.f2, (rd_T75 l0_1 x28_1).f1.f1.f3, (rd_T75 l0_1 x28_1).f1.f1.f4⟩ : S31)⟩ : S33), (rd_T75 l0_1 x28_1).f2⟩ : S75))) else (none)) else (none)) = some (r1, r2, r3) := H
         have A31 := Gv.a0 A310
         clear A310
         by_cases c32 : 0 ≤ t459
         ·rw [if_pos c32] at H
          have c32b0 : decide (0 ≤ t459) = true := decide_eq_true c32
          clear c32
          by_cases c33 : t459 < (x457001_1.length : Int)
          ·rw [if_pos c33] at H
           have c33b0 : decide (t459 < (x457001_1.length : Int)) = true := decide_eq_true c33
           clear c33
           obtain ⟨y460, hy460⟩ : ∃ y_ : List (S75), y_ = (x457001_1.set (t459 : Int).toNat (⟨true, (⟨(rd_T75 l0_1 x28_1).f1.f0, (⟨(⟨(rd_T75 l0_1 x28_1).f1.f1.f0.f0, (rd_T75 l0_1 x28_1).f1.f1.f0.f1, (rd_T75 l0_1 x28_1).f1.f1.f0.f2, (rd_T75 l0_1 x28_1).f1.f1.f0.f3, (rd_T75 l0_1 x28_1).f1.f1.f0.f4⟩ : S29), (⟨(rd_T75 l0_1 x28_1).f1.f1.f1.f0, (rd_T75 l0_1 x28_1).f1.f1.f1.f1, (rd_T75 l0_1 x28_1).f1.f1.f1.f2, (rd_T75 l0_1 x28_1).f1.f1.f1.f3, (rd_T75 l0_1 x28_1).f1.f1.f1.f4⟩ : S29), (rd_T75 l0_1 x28_1).f1.f1.f2, (rd_T75 l0_1 x28_1).f1.f1.f3, (rd_T75 l0_1 x28_1).f1.f1.f4⟩ : S31)⟩ : S33), (rd_T75 l0_1 x28_1).f2⟩ : S75)) := ⟨_, rfl⟩
           replace H : (impl_TableGrow.l0 k1 l0_1 (l0_1.length : Int) (wrap64 (x28_1 + 1)) t452 y460) = some (r1, r2, r3) := by first | (rw [hy460]; with_reducible exact H) | (have H2_ := (Option.bind_some _ _).symm.trans H; rw [hy460]; with_reducible exact H2_) | (have H2_ := (Option.bind_some _ _).symm.trans H; with_reducible exact H2_) | with_reducible exact H | (rw [hy460]; exact H) | exact H
           have Ny460 := Gv.a0 hy460
           clear hy460
           have H' := Gv.a0 H
           clear H
           have p457 : 0 ≤ (x28_1 : Int) := of_decide_eq_true (by first | (with_reducible assumption) | assumption)
           have q457 : x28_1 < (l0_1.length : Int) := of_decide_eq_true (by first | (with_reducible assumption) | assumption)
           obtain ⟨ad457, e457, hx457_0, hx457_1, hx457_2, hx457_3, hx457_4, hx457_5, hx457_6, hx457_7, hx457_8, hx457_9, hx457_10, hx457_11, hx457_12, hx457_13, hx457_14, hx457_15⟩ := at_T75 HR0_1.out x28_1 p457 q457
           (try rw [← Nbq29.out] at hx457_0)
           cases e457
           replace hx457_0 := Gv.bx HB.out hx457_0
           replace hx457_1 := Gv.bx HB.out hx457_1
           replace hx457_2 := Gv.bx HB.out hx457_2
           replace hx457_3 := Gv.bx HB.out hx457_3
           replace hx457_4 := Gv.bx HB.out hx457_4
           replace hx457_5 := Gv.bx HB.out hx457_5
           replace hx457_6 := Gv.bx HB.out hx457_6
           replace hx457_7 := Gv.bx HB.out hx457_7
           replace hx457_8 := Gv.bx HB.out hx457_8
           replace hx457_9 := Gv.bx HB.out hx457_9
           replace hx457_10 := Gv.bx HB.out hx457_10
           replace hx457_11 := Gv.bx HB.out hx457_11
           replace hx457_12 := Gv.bx HB.out hx457_12
           replace hx457_13 := Gv.bx HB.out hx457_13
           replace hx457_14 := Gv.bx HB.out hx457_14
           replace hx457_15 := Gv.bx HB.out hx457_15
           replace p457 := eq_true p457
           replace q457 := eq_true q457
           try go_wp2_with (first | ((with_reducible refine gate_dst (N := 6) rfl ?_); refine box_event ?hg (N := 6) ?hd (cs := #[.bool false, .int .i64 0, .int .i64 0, .int .i64 0, .int .i64 0, .int .i64 0, .int .i64 0, .int .i64 0, .int .i64 0, .int .i64 0, .int .i64 0, .int .i64 0, .int .i64 0, .int .i64 0, .int .i64 0, .int .i64 0]) (t := 75) ?hr ?_; (case hd => rfl); (case hg => rfl); (case hr => first | (go_simp; done) | (go_simp; rfl)); intro gb458 hg w35 hbox hb; replace HO_457001 := Gv.a0 (Kd.R_below (Kd.R_elderB (Gv.kr HO_457001.out) gb458 (Nat.le_of_eq hg.symm)) hb); have BK458 := Gv.a0 (hbox); have GW458 := Gv.a0 ((Gv.ble hg Gv.bw : w.heap.size ≤ gb458)); have GE458 := Gv.a0 ((Gv.ble hg Gv.bw : w.heap.size ≤ gb458)); replace HB := Gv.a0 (below_step Gv.bw hb); have NB449_458 := Gv.a0 ((Gv.nlt hg (Gv.kb BK449.out) : gb449 ≠ gb458)); have NB458_449 := Gv.a0 ((Gv.ngt hg (Gv.kb BK449.out) : gb458 ≠ gb449)); replace BK449 := Gv.a0 (Gv.bb BK449.out hb); have NB450_458 := Gv.a0 ((Gv.nlt hg (Gv.kb BK450.out) : gb450 ≠ gb458)); have NB458_450 := Gv.a0 ((Gv.ngt hg (Gv.kb BK450.out) : gb458 ≠ gb450)); replace BK450 := Gv.a0 (Gv.bb BK450.out hb); have NB456_458 := Gv.a0 ((Gv.nlt hg (Gv.kb BK456.out) : gb456 ≠ gb458)); have NB458_456 := Gv.a0 ((Gv.ngt hg (Gv.kb BK456.out) : gb458 ≠ gb456)); replace BK456 := Gv.a0 (Gv.bb BK456.out hb); clear hb hbox hg; have hnb36 := NB458_449.out; have hnc36 := NB449_458.out; have hnb37 := NB458_450.out; have hnc37 := NB450_458.out; have hnb38 := NB458_456.out; have hnc38 := NB456_458.out; obtain ⟨hcz39_0, hcz39_1, hcz39_2, hcz39_3, hcz39_4, hcz39_5, hcz39_6, hcz39_7, hcz39_8, hcz39_9, hcz39_10, hcz39_11, hcz39_12, hcz39_13, hcz39_14, hcz39_15⟩ := Gv.c16 BK458.out; obtain ⟨hfz39_0, hfz39_1, hfz39_2, hfz39_3, hfz39_4, hfz39_5, hfz39_6, hfz39_7, hfz39_8, hfz39_9, hfz39_10, hfz39_11, hfz39_12, hfz39_13, hfz39_14, hfz39_15⟩ := Gv.f16 BK458.out) | ((with_reducible refine gate_store (t := 75) (p := 6) rfl ?_); refine Gv.store_event rfl rfl rfl rfl rfl (Gv.kb BK458.out) (by kernel_rfl) rfl (by simp; and_intros <;> rfl) ?_; intro w35s hbox hoth hbel; have n0_ := Gv.a0 (hbox); have n1_ := Gv.a0 (hbel w Gv.bw GE458.out); have n2_ := Gv.a0 ((hoth gb449 NB449_458.out).trans (Gv.kb BK449.out)); have n3_ := Gv.a0 ((hoth gb450 NB450_458.out).trans (Gv.kb BK450.out)); have n4_ := Gv.a0 ((hoth gb456 NB456_458.out).trans (Gv.kb BK456.out)); (first | have n5_ := Gv.a0 (Gv.ro (Gv.kr HO_457001.out) (Gv.kb BK458.out) (by decide) hoth) | have n5_ := Gv.a0 (Kd.R_move (Gv.kr HO_457001.out) (fun k hk => hoth k (by first | exact hk.2 | exact hk.2.2 | exact hk.1.2 | exact hk.2.2.2)))); clear BK458 HB BK449 BK450 BK456 HO_457001; have BK458 := n0_; have HB := n1_; have BK449 := n2_; have BK450 := n3_; have BK456 := n4_; have HO_457001 := n5_; clear n0_ n1_ n2_ n3_ n4_ n5_ hbox hoth hbel; (try clear hcz39_0 hcz39_1 hcz39_2 hcz39_3 hcz39_4 hcz39_5 hcz39_6 hcz39_7 hcz39_8 hcz39_9 hcz39_10 hcz39_11 hcz39_12 hcz39_13 hcz39_14 hcz39_15 hfz39_0 hfz39_1 hfz39_2 hfz39_3 hfz39_4 hfz39_5 hfz39_6 hfz39_7 hfz39_8 hfz39_9 hfz39_10 hfz39_11 hfz39_12 hfz39_13 hfz39_14 hfz39_15); obtain ⟨hcz39_0, hcz39_1, hcz39_2, hcz39_3, hcz39_4, hcz39_5, hcz39_6, hcz39_7, hcz39_8, hcz39_9, hcz39_10, hcz39_11, hcz39_12, hcz39_13, hcz39_14, hcz39_15⟩ := Gv.c16 BK458.out; obtain ⟨hfz39_0, hfz39_1, hfz39_2, hfz39_3, hfz39_4, hfz39_5, hfz39_6, hfz39_7, hfz39_8, hfz39_9, hfz39_10, hfz39_11, hfz39_12, hfz39_13, hfz39_14, hfz39_15⟩ := Gv.f16 BK458.out) | ((with_reducible refine Gv.gate_load (t := 75) rfl ?_); (try (refine gate_guard (by rfl) ?_; dsimp only)); refine wpList_load_row rfl 75 _ rfl gb458 rfl 75 _ _ _ (by first | exact Gv.kb0 BK458.out | exact Gv.kb1 (Gv.kb0 BK458.out)) Try.underlying75 rfl (by kernel_rfl) ?_) | ((with_reducible refine Gv.gate_load (t := 33) rfl ?_); (try (refine gate_guard (by rfl) ?_; dsimp only)); refine Gv.sub_event (g := gb458) 14 rfl rfl rfl (by first | exact Gv.kb0 BK458.out | exact Gv.kb1 (Gv.kb0 BK458.out)) Try.underlying33 rfl (by kernel_rfl) ?_) | ((with_reducible refine Gv.gate_load (t := 31) rfl ?_); (try (refine gate_guard (by rfl) ?_; dsimp only)); refine Gv.sub_event (g := gb458) 13 rfl rfl rfl (by first | exact Gv.kb0 BK458.out | exact Gv.kb1 (Gv.kb0 BK458.out)) Try.underlying31 rfl (by kernel_rfl) ?_) | ((with_reducible refine Gv.gate_load (t := 75) rfl ?_); refine Gv.load_event (cs := [_, _, _, _, _, _, _, _, _, _, _, _, _, _, _, _]) rfl rfl rfl ⟨hx457_0, hx457_1, hx457_2, hx457_3, hx457_4, hx457_5, hx457_6, hx457_7, hx457_8, hx457_9, hx457_10, hx457_11, hx457_12, hx457_13, hx457_14, hx457_15, trivial⟩ Try.underlying75 rfl (by kernel_rfl) ?_))
           replace HO_457001 := Gv.a0 (Kd.R_drew HO_457001.out)
           replace BK449 := Gv.a0 (blk_drew BK449.out)
           replace BK450 := Gv.a0 (blk_drew BK450.out)
           replace BK456 := Gv.a0 (blk_drew BK456.out)
           replace BK458 := Gv.a0 (blk_drew BK458.out)
           replace HB := Gv.a0 (below_drew1 HB.out)
           obtain ⟨Ao42, co42, eo42⟩ := Kd.R_slice HO_457001.out
           (first | subst eo42 | (injection eo42 with f1_ f2_ f3_; have f4_ := f1_.symm; have f5_ := f3_.symm; clear f1_ f2_ f3_; subst f4_; subst f5_))
           refine start_ (n := 9) (S := fun w' => w'.cell? ⟨gb456, 0, none⟩ = some (.int .i64 t452) ∧ w'.cell? ⟨gb456, 1, none⟩ = some (.slice Ao42 x457001_1.length co42) ∧ w'.cell? ⟨gb458, 0, none⟩ = some (.bool true) ∧ w'.cell? ⟨gb458, 1, none⟩ = some (.int .i64 ((rd_T75 l0_1 x28_1).f1.f0)) ∧ w'.cell? ⟨gb458, 2, none⟩ = some (.int .i64 ((rd_T75 l0_1 x28_1).f1.f1.f0.f0)) ∧ w'.cell? ⟨gb458, 3, none⟩ = some (.int .i64 ((rd_T75 l0_1 x28_1).f1.f1.f0.f1)) ∧ w'.cell? ⟨gb458, 4, none⟩ = some (.int .i64 ((rd_T75 l0_1 x28_1).f1.f1.f0.f2)) ∧ w'.cell? ⟨gb458, 5, none⟩ = some (.int .i64 ((rd_T75 l0_1 x28_1).f1.f1.f0.f3)) ∧ w'.cell? ⟨gb458, 6, none⟩ = some (.int .i64 ((rd_T75 l0_1 x28_1).f1.f1.f0.f4)) ∧ w'.cell? ⟨gb458, 7, none⟩ = some (.int .i64 ((rd_T75 l0_1 x28_1).f1.f1.f1.f0)) ∧ w'.cell? ⟨gb458, 8, none⟩ = some (.int .i64 ((rd_T75 l0_1 x28_1).f1.f1.f1.f1)) ∧ w'.cell? ⟨gb458, 9, none⟩ = some (.int .i64 ((rd_T75 l0_1 x28_1).f1.f1.f1.f2)) ∧ w'.cell? ⟨gb458, 10, none⟩ = some (.int .i64 ((rd_T75 l0_1 x28_1).f1.f1.f1.f3)) ∧ w'.cell? ⟨gb458, 11, none⟩ = some (.int .i64 ((rd_T75 l0_1 x28_1).f1.f1.f1.f4)) ∧ w'.cell? ⟨gb458, 12, none⟩ = some (.int .i64 ((rd_T75 l0_1 x28_1).f1.f1.f2)) ∧ w'.cell? ⟨gb458, 13, none⟩ = some (.int .i64 ((rd_T75 l0_1 x28_1).f1.f1.f3)) ∧ w'.cell? ⟨gb458, 14, none⟩ = some (.int .i64 ((rd_T75 l0_1 x28_1).f1.f1.f4)) ∧ w'.cell? ⟨gb458, 15, none⟩ = some (.int .i64 ((rd_T75 l0_1 x28_1).f2))) (ds := [8]) #[false, false, false, false, false, false, false, false, false] (by kernel_rfl) rfl rfl ⟨(blk_cell BK456.out 0).trans rfl, (blk_cell BK456.out 1).trans rfl, (blk_cell BK458.out 0).trans rfl, (blk_cell BK458.out 1).trans rfl, (blk_cell BK458.out 2).trans rfl, (blk_cell BK458.out 3).trans rfl, (blk_cell BK458.out 4).trans rfl, (blk_cell BK458.out 5).trans rfl, (blk_cell BK458.out 6).trans rfl, (blk_cell BK458.out 7).trans rfl, (blk_cell BK458.out 8).trans rfl, (blk_cell BK458.out 9).trans rfl, (blk_cell BK458.out 10).trans rfl, (blk_cell BK458.out 11).trans rfl, (blk_cell BK458.out 12).trans rfl, (blk_cell BK458.out 13).trans rfl, (blk_cell BK458.out 14).trans rfl, (blk_cell BK458.out 15).trans rfl⟩ (fun hHeld => ?_); refine with_tabW impl_TableGrow.tab10 impl_TableGrow.bits10 (fun HT_ HW_ => ?_)
           generalize w35s.drew = w41 at HO_457001 BK449 BK450 BK456 BK458 HB hHeld ⊢
           refine Gv.pu 0 (some 34) HT_ ?_
           refine Gv.pu 3 (some 37) HT_ ?_
           refine take_ (i := 1) (N := some 35) (v := ?_) (a' := ?_) #[true, true, false, true, false, false, false, false, false] rfl rfl (take_ofW HT_.out HW_.out (by kernel_rfl)) (fun _ _ _ h => h) (Or.inl ⟨by rfl, ?_⟩) hHeld ?_ ?_
           rotate_left
           ·rintro w' ⟨s0, s1, s2, s3, s4, s5, s6, s7, s8, s9, s10, s11, s12, s13, s14, s15, s16, s17⟩
            first | ((refine Gv.load_run (t := 75) (A := ⟨gb458, 0, none⟩) (cs := [_, _, _, _, _, _, _, _, _, _, _, _, _, _, _, _]) (x := ?xx31_) ?ho31_ ?hx31_ ⟨s2, s3, s4, s5, s6, s7, s8, s9, s10, s11, s12, s13, s14, s15, s16, s17, trivial⟩ Try.underlying75 rfl (by kernel_rfl)); (case ho31_ => rfl); (case hx31_ => rfl)) | (go_simp; with_reducible rfl)
           rotate_left
           ·simp only [Act.put, List.setIfInBounds_toArray, List.set_cons_zero, List.set_cons_succ, i64_w, i32_w]
            rfl
           refine take_ (i := 2) (N := some 36) (v := ?_) (a' := ?_) #[true, true, true, true, false, false, false, false, false] rfl rfl (take_ofW HT_.out HW_.out (by kernel_rfl)) (fun _ _ _ h => h) (Or.inl ⟨by rfl, ?_⟩) hHeld ?_ ?_
           rotate_left
           ·rintro w' ⟨s0, s1, s2, s3, s4, s5, s6, s7, s8, s9, s10, s11, s12, s13, s14, s15, s16, s17⟩
            first | ((refine Gv.load_run (t := 75) (A := ⟨gb458, 0, none⟩) (cs := [_, _, _, _, _, _, _, _, _, _, _, _, _, _, _, _]) (x := ?xx33_) ?ho33_ ?hx33_ ⟨s2, s3, s4, s5, s6, s7, s8, s9, s10, s11, s12, s13, s14, s15, s16, s17, trivial⟩ Try.underlying75 rfl (by kernel_rfl)); (case ho33_ => rfl); (case hx33_ => rfl)) | (go_simp; with_reducible rfl)
           rotate_left
           ·simp only [Act.put, List.setIfInBounds_toArray, List.set_cons_zero, List.set_cons_succ, i64_w, i32_w]
            rfl
           refine take_ (i := 4) (N := some 38) (v := ?_) (a' := ?_) #[true, true, true, true, true, false, false, false, false] rfl rfl (take_ofW HT_.out HW_.out (by kernel_rfl)) (fun _ _ _ h => h) (Or.inl ⟨by rfl, ?_⟩) hHeld ?_ ?_
           rotate_left
           ·rintro w' ⟨s0, s1, s2, s3, s4, s5, s6, s7, s8, s9, s10, s11, s12, s13, s14, s15, s16, s17⟩
            first | ((refine Gv.load_run (t := 75) (A := ⟨gb458, 0, none⟩) (cs := [_, _, _, _, _, _, _, _, _, _, _, _, _, _, _, _]) (x := ?xx35_) ?ho35_ ?hx35_ ⟨s2, s3, s4, s5, s6, s7, s8, s9, s10, s11, s12, s13, s14, s15, s16, s17, trivial⟩ Try.underlying75 rfl (by kernel_rfl)); (case ho35_ => rfl); (case hx35_ => rfl)) | (go_simp; with_reducible rfl)
           rotate_left
           ·simp only [Act.put, List.setIfInBounds_toArray, List.set_cons_zero, List.set_cons_succ, i64_w, i32_w]
            rfl
           refine take_ (i := 6) (N := some 40) (v := ?_) (a' := ?_) #[true, true, true, true, true, false, true, false, false] rfl rfl (take_ofW HT_.out HW_.out (by kernel_rfl)) (fun _ _ _ h => h) (Or.inl ⟨by rfl, ?_⟩) hHeld ?_ ?_
           rotate_left
           ·rintro w' ⟨s0, s1, s2, s3, s4, s5, s6, s7, s8, s9, s10, s11, s12, s13, s14, s15, s16, s17⟩
            first | ((refine Gv.load_run (t := 75) (A := ⟨gb458, 0, none⟩) (cs := [_, _, _, _, _, _, _, _, _, _, _, _, _, _, _, _]) (x := ?xx37_) ?ho37_ ?hx37_ ⟨s2, s3, s4, s5, s6, s7, s8, s9, s10, s11, s12, s13, s14, s15, s16, s17, trivial⟩ Try.underlying75 rfl (by kernel_rfl)); (case ho37_ => rfl); (case hx37_ => rfl)) | (go_simp; with_reducible rfl)
           rotate_left
           ·simp only [Act.put, List.setIfInBounds_toArray, List.set_cons_zero, List.set_cons_succ, i64_w, i32_w]
            rfl
           refine one_ (i := 5) (N := some 39) #[true, true, true, true, true, true, true, false, false] rfl rfl (one_of HT_.out (by kernel_rfl)) (by decide) (fun K hK => ?_)
           refine goes_ Try.func58 (by kernel_rfl) rfl #[.agg #[.int .i64 t452, .slice Ao42 x457001_1.length co42], .agg #[.int .i64 ((rd_T75 l0_1 x28_1).f1.f0), .int .i64 ((rd_T75 l0_1 x28_1).f1.f1.f0.f0), .int .i64 ((rd_T75 l0_1 x28_1).f1.f1.f0.f1), .int .i64 ((rd_T75 l0_1 x28_1).f1.f1.f0.f2), .int .i64 ((rd_T75 l0_1 x28_1).f1.f1.f0.f3), .int .i64 ((rd_T75 l0_1 x28_1).f1.f1.f0.f4), .int .i64 ((rd_T75 l0_1 x28_1).f1.f1.f1.f0), .int .i64 ((rd_T75 l0_1 x28_1).f1.f1.f1.f1), .int .i64 ((rd_T75 l0_1 x28_1).f1.f1.f1.f2), .int .i64 ((rd_T75 l0_1 x28_1).f1.f1.f1.f3), .int .i64 ((rd_T75 l0_1 x28_1).f1.f1.f1.f4), .int .i64 ((rd_T75 l0_1 x28_1).f1.f1.f2), .int .i64 ((rd_T75 l0_1 x28_1).f1.f1.f3), .int .i64 ((rd_T75 l0_1 x28_1).f1.f1.f4)]] (by rfl) rfl rfl Gv.lm ?_
           with_reducible refine (impl_Table_probe.calls k1 t452 _ _ x457001_1 ((rd_T75 l0_1 x28_1).f1.f0) ((rd_T75 l0_1 x28_1).f1.f1.f0.f0) ((rd_T75 l0_1 x28_1).f1.f1.f0.f1) ((rd_T75 l0_1 x28_1).f1.f1.f0.f2) ((rd_T75 l0_1 x28_1).f1.f1.f0.f3) ((rd_T75 l0_1 x28_1).f1.f1.f0.f4) ((rd_T75 l0_1 x28_1).f1.f1.f1.f0) ((rd_T75 l0_1 x28_1).f1.f1.f1.f1) ((rd_T75 l0_1 x28_1).f1.f1.f1.f2) ((rd_T75 l0_1 x28_1).f1.f1.f1.f3) ((rd_T75 l0_1 x28_1).f1.f1.f1.f4) ((rd_T75 l0_1 x28_1).f1.f1.f2) ((rd_T75 l0_1 x28_1).f1.f1.f3) ((rd_T75 l0_1 x28_1).f1.f1.f4) t459 _ ?side1 ?side2 A31.out).mono ?_
           (case side1 => repeat (first | exact (Kd.R_reads' HO_457001.out).2.2 | (with_reducible refine Kd.C_alloc ?_ _) | (with_reducible refine Kd.C_drewN ?_ _) | (with_reducible refine Kd.C_drew ?_)))
           (case side2 => exact (Kd.R_reads' HO_457001.out).2.1)
           rintro e w43 ⟨rfl, hb⟩
           refine ⟨_, rfl, ?_⟩
           replace HO_457001 := Gv.a0 (Kd.R_below (Gv.kr HO_457001.out) hb)
           replace BK449 := Gv.a0 (Gv.bb BK449.out hb)
           replace BK450 := Gv.a0 (Gv.bb BK450.out hb)
           replace BK456 := Gv.a0 (Gv.bb BK456.out hb)
           replace BK458 := Gv.a0 (Gv.bb BK458.out hb)
           replace HB := Gv.a0 (below_step Gv.bw hb)
           (try clear hb)
           (try clear hb2)
           (try clear hk)
           (try clear hi)
           have p34 : 0 ≤ (t459 : Int) := of_decide_eq_true (by first | (with_reducible assumption) | assumption)
           have q34 : (t459 : Int) < ((x457001_1.length : Int) : Int) := of_decide_eq_true (by first | (with_reducible assumption) | assumption)
           obtain ⟨go34, co34, eo34, gb34, gl34, cl34, HG34⟩ := Kd.R_form HO_457001.out (by omega)
           (first | cases eo34 | (injection eo34 with ea_ en_ ec_; (first | subst ea_ | (injection ea_ with ea_; subst ea_)); subst ec_; clear en_))
           have GB34 := Gv.a0 gb34
           have GG34 := Gv.a0 HG34
           clear gb34 gl34 HG34
           obtain ⟨ce34, hcl34, hM34, hcc34, hfr34⟩ := Kd.R_elem HO_457001.out z75 (t459 : Int) p34 q34
           obtain rfl := k75_openM hM34
           have hx34_0 : World.cell? _ ⟨go34, (t459 : Int).toNat * 16, none⟩ = some (.bool ((rd_T75 x457001_1 t459).f0)) := hcc34 0 _ rfl
           have hx34_1 : World.cell? _ ⟨go34, (t459 : Int).toNat * 16 + 1, none⟩ = some (.int .i64 ((rd_T75 x457001_1 t459).f1.f0)) := hcc34 1 _ rfl
           have hx34_2 : World.cell? _ ⟨go34, (t459 : Int).toNat * 16 + 2, none⟩ = some (.int .i64 ((rd_T75 x457001_1 t459).f1.f1.f0.f0)) := hcc34 2 _ rfl
           have hx34_3 : World.cell? _ ⟨go34, (t459 : Int).toNat * 16 + 3, none⟩ = some (.int .i64 ((rd_T75 x457001_1 t459).f1.f1.f0.f1)) := hcc34 3 _ rfl
           have hx34_4 : World.cell? _ ⟨go34, (t459 : Int).toNat * 16 + 4, none⟩ = some (.int .i64 ((rd_T75 x457001_1 t459).f1.f1.f0.f2)) := hcc34 4 _ rfl
           have hx34_5 : World.cell? _ ⟨go34, (t459 : Int).toNat * 16 + 5, none⟩ = some (.int .i64 ((rd_T75 x457001_1 t459).f1.f1.f0.f3)) := hcc34 5 _ rfl
           have hx34_6 : World.cell? _ ⟨go34, (t459 : Int).toNat * 16 + 6, none⟩ = some (.int .i64 ((rd_T75 x457001_1 t459).f1.f1.f0.f4)) := hcc34 6 _ rfl
           have hx34_7 : World.cell? _ ⟨go34, (t459 : Int).toNat * 16 + 7, none⟩ = some (.int .i64 ((rd_T75 x457001_1 t459).f1.f1.f1.f0)) := hcc34 7 _ rfl
           have hx34_8 : World.cell? _ ⟨go34, (t459 : Int).toNat * 16 + 8, none⟩ = some (.int .i64 ((rd_T75 x457001_1 t459).f1.f1.f1.f1)) := hcc34 8 _ rfl
           have hx34_9 : World.cell? _ ⟨go34, (t459 : Int).toNat * 16 + 9, none⟩ = some (.int .i64 ((rd_T75 x457001_1 t459).f1.f1.f1.f2)) := hcc34 9 _ rfl
           have hx34_10 : World.cell? _ ⟨go34, (t459 : Int).toNat * 16 + 10, none⟩ = some (.int .i64 ((rd_T75 x457001_1 t459).f1.f1.f1.f3)) := hcc34 10 _ rfl
           have hx34_11 : World.cell? _ ⟨go34, (t459 : Int).toNat * 16 + 11, none⟩ = some (.int .i64 ((rd_T75 x457001_1 t459).f1.f1.f1.f4)) := hcc34 11 _ rfl
           have hx34_12 : World.cell? _ ⟨go34, (t459 : Int).toNat * 16 + 12, none⟩ = some (.int .i64 ((rd_T75 x457001_1 t459).f1.f1.f2)) := hcc34 12 _ rfl
           have hx34_13 : World.cell? _ ⟨go34, (t459 : Int).toNat * 16 + 13, none⟩ = some (.int .i64 ((rd_T75 x457001_1 t459).f1.f1.f3)) := hcc34 13 _ rfl
           have hx34_14 : World.cell? _ ⟨go34, (t459 : Int).toNat * 16 + 14, none⟩ = some (.int .i64 ((rd_T75 x457001_1 t459).f1.f1.f4)) := hcc34 14 _ rfl
           have hx34_15 : World.cell? _ ⟨go34, (t459 : Int).toNat * 16 + 15, none⟩ = some (.int .i64 ((rd_T75 x457001_1 t459).f2)) := hcc34 15 _ rfl
           have hf34_0 : World.frozen? _ ⟨go34, (t459 : Int).toNat * 16, none⟩ = false := hfr34 0
           have hf34_1 : World.frozen? _ ⟨go34, (t459 : Int).toNat * 16 + 1, none⟩ = false := hfr34 1
           have hf34_2 : World.frozen? _ ⟨go34, (t459 : Int).toNat * 16 + 2, none⟩ = false := hfr34 2
           have hf34_3 : World.frozen? _ ⟨go34, (t459 : Int).toNat * 16 + 3, none⟩ = false := hfr34 3
           have hf34_4 : World.frozen? _ ⟨go34, (t459 : Int).toNat * 16 + 4, none⟩ = false := hfr34 4
           have hf34_5 : World.frozen? _ ⟨go34, (t459 : Int).toNat * 16 + 5, none⟩ = false := hfr34 5
           have hf34_6 : World.frozen? _ ⟨go34, (t459 : Int).toNat * 16 + 6, none⟩ = false := hfr34 6
           have hf34_7 : World.frozen? _ ⟨go34, (t459 : Int).toNat * 16 + 7, none⟩ = false := hfr34 7
           have hf34_8 : World.frozen? _ ⟨go34, (t459 : Int).toNat * 16 + 8, none⟩ = false := hfr34 8
           have hf34_9 : World.frozen? _ ⟨go34, (t459 : Int).toNat * 16 + 9, none⟩ = false := hfr34 9
           have hf34_10 : World.frozen? _ ⟨go34, (t459 : Int).toNat * 16 + 10, none⟩ = false := hfr34 10
           have hf34_11 : World.frozen? _ ⟨go34, (t459 : Int).toNat * 16 + 11, none⟩ = false := hfr34 11
           have hf34_12 : World.frozen? _ ⟨go34, (t459 : Int).toNat * 16 + 12, none⟩ = false := hfr34 12
           have hf34_13 : World.frozen? _ ⟨go34, (t459 : Int).toNat * 16 + 13, none⟩ = false := hfr34 13
           have hf34_14 : World.frozen? _ ⟨go34, (t459 : Int).toNat * 16 + 14, none⟩ = false := hfr34 14
           have hf34_15 : World.frozen? _ ⟨go34, (t459 : Int).toNat * 16 + 15, none⟩ = false := hfr34 15
           clear hcl34 hcc34 hfr34 hM34
           replace p34 := eq_true p34
           replace q34 := eq_true q34
           obtain ⟨ce44, hcl44, hM44, hcc44, hfr44⟩ := Kd.R_elem HO_457001.out z75 (t459 : Int) (of_decide_eq_true (by first | (with_reducible assumption) | assumption)) (by have h_ : (t459 : Int) < ((x457001_1.length : Int) : Int) := of_decide_eq_true (by first | (with_reducible assumption) | assumption); first | exact h_ | (have e_ := (Kd.R_reads' HO_457001.out).1; omega) | simpa using h_)
           obtain rfl := k75_openM hM44
           have HP44 := (Kd.R_seg HO_457001.out (t459 : Int) (of_decide_eq_true (by first | (with_reducible assumption) | assumption)) (by have h_ : (t459 : Int) < ((x457001_1.length : Int) : Int) := of_decide_eq_true (by first | (with_reducible assumption) | assumption); first | exact h_ | (have e_ := (Kd.R_reads' HO_457001.out).1; omega) | simpa using h_) (seg := [.bool true, .int .i64 ((rd_T75 l0_1 x28_1).f1.f0), .int .i64 ((rd_T75 l0_1 x28_1).f1.f1.f0.f0), .int .i64 ((rd_T75 l0_1 x28_1).f1.f1.f0.f1), .int .i64 ((rd_T75 l0_1 x28_1).f1.f1.f0.f2), .int .i64 ((rd_T75 l0_1 x28_1).f1.f1.f0.f3), .int .i64 ((rd_T75 l0_1 x28_1).f1.f1.f0.f4), .int .i64 ((rd_T75 l0_1 x28_1).f1.f1.f1.f0), .int .i64 ((rd_T75 l0_1 x28_1).f1.f1.f1.f1), .int .i64 ((rd_T75 l0_1 x28_1).f1.f1.f1.f2), .int .i64 ((rd_T75 l0_1 x28_1).f1.f1.f1.f3), .int .i64 ((rd_T75 l0_1 x28_1).f1.f1.f1.f4), .int .i64 ((rd_T75 l0_1 x28_1).f1.f1.f2), .int .i64 ((rd_T75 l0_1 x28_1).f1.f1.f3), .int .i64 ((rd_T75 l0_1 x28_1).f1.f1.f4), .int .i64 ((rd_T75 l0_1 x28_1).f2)]) (j := 0) hcl44 hcc44 (show 16 ≤ 16 from by decide) (x' := (⟨true, (⟨(rd_T75 l0_1 x28_1).f1.f0, (⟨(⟨(rd_T75 l0_1 x28_1).f1.f1.f0.f0, (rd_T75 l0_1 x28_1).f1.f1.f0.f1, (rd_T75 l0_1 x28_1).f1.f1.f0.f2, (rd_T75 l0_1 x28_1).f1.f1.f0.f3, (rd_T75 l0_1 x28_1).f1.f1.f0.f4⟩ : S29), (⟨(rd_T75 l0_1 x28_1).f1.f1.f1.f0, (rd_T75 l0_1 x28_1).f1.f1.f1.f1, (rd_T75 l0_1 x28_1).f1.f1.f1.f2, (rd_T75 l0_1 x28_1).f1.f1.f1.f3, (rd_T75 l0_1 x28_1).f1.f1.f1.f4⟩ : S29), (rd_T75 l0_1 x28_1).f1.f1.f2, (rd_T75 l0_1 x28_1).f1.f1.f3, (rd_T75 l0_1 x28_1).f1.f1.f4⟩ : S31)⟩ : S33), (rd_T75 l0_1 x28_1).f2⟩ : S75)) (k75_mkM _ _ _ (⟨true, (⟨(rd_T75 l0_1 x28_1).f1.f0, (⟨(⟨(rd_T75 l0_1 x28_1).f1.f1.f0.f0, (rd_T75 l0_1 x28_1).f1.f1.f0.f1, (rd_T75 l0_1 x28_1).f1.f1.f0.f2, (rd_T75 l0_1 x28_1).f1.f1.f0.f3, (rd_T75 l0_1 x28_1).f1.f1.f0.f4⟩ : S29), (⟨(rd_T75 l0_1 x28_1).f1.f1.f1.f0, (rd_T75 l0_1 x28_1).f1.f1.f1.f1, (rd_T75 l0_1 x28_1).f1.f1.f1.f2, (rd_T75 l0_1 x28_1).f1.f1.f1.f3, (rd_T75 l0_1 x28_1).f1.f1.f1.f4⟩ : S29), (rd_T75 l0_1 x28_1).f1.f1.f2, (rd_T75 l0_1 x28_1).f1.f1.f3, (rd_T75 l0_1 x28_1).f1.f1.f4⟩ : S31)⟩ : S33), (rd_T75 l0_1 x28_1).f2⟩ : S75) ) (fun _ hk => hk)).1
           rw [← Ny460.out] at HP44
           have HQ44 := Gv.a0 HP44
           clear hcl44 hcc44 hfr44 hM44 HP44
           refine hK.out _ _ ⟨(blk_cell BK456.out 0).trans rfl, (blk_cell BK456.out 1).trans rfl, (blk_cell BK458.out 0).trans rfl, (blk_cell BK458.out 1).trans rfl, (blk_cell BK458.out 2).trans rfl, (blk_cell BK458.out 3).trans rfl, (blk_cell BK458.out 4).trans rfl, (blk_cell BK458.out 5).trans rfl, (blk_cell BK458.out 6).trans rfl, (blk_cell BK458.out 7).trans rfl, (blk_cell BK458.out 8).trans rfl, (blk_cell BK458.out 9).trans rfl, (blk_cell BK458.out 10).trans rfl, (blk_cell BK458.out 11).trans rfl, (blk_cell BK458.out 12).trans rfl, (blk_cell BK458.out 13).trans rfl, (blk_cell BK458.out 14).trans rfl, (blk_cell BK458.out 15).trans rfl⟩ (fun hHeld => ?_)
           clear hK K
           refine norm_ (a' := ?_) ?_ ?_
           rotate_left
           ·show Act.put _ (some 39) _ = _
            simp only [Act.put, List.setIfInBounds_toArray, List.set_cons_zero, List.set_cons_succ, i64_w, i32_w]
            rfl
           refine Gv.pu 7 (some 41) HT_ ?_
           refine last_ (i := 8) (N := none) #[true, true, true, true, true, true, true, true, true] rfl rfl (one_of HT_.out (by kernel_rfl)) (by decide) (fun K hK => ?_)
           refine skip_ (w1 := ?_) (by rfl) rfl ?_ ?_
           rotate_left
           ·go_simp
            rfl
           refine hK.out _ _ ?_
           clear hK K
           refine done_ (done_of HT_.out (by kernel_rfl)) ?_
           try go_wp2
           go_roundg k1
           case measure => have := HK1.out; omega
           case rel => exact ⟨(wrap64 (x28_1 + 1)), (y460), (.slice (some ⟨go34, 0, none⟩) x457001_1.length co42), Gv.rq, H', ⟨by have := HK1.out; omega⟩, ⟨by (with_reducible repeat (first | apply Kd.R_alloc | apply Kd.R_drewN | apply Kd.R_drew)); exact Kd.R_mono HQ44.out (fun _ hk => trivial)⟩, ⟨by (with_reducible repeat (first | refine blk_drewN ?_ _ | refine blk_drew ?_ | refine blk_alloc ?_ _)); refine blk_far ?_ (by have h_ := Kd.R_ne HO_457001.out BK449.out (by decide); intro e_; exact h_ (by rw [e_]; rfl)) _; (with_reducible repeat (first | refine blk_drewN ?_ _ | refine blk_drew ?_ | refine blk_alloc ?_ _)); refine blk_far ?_ (by have h_ := Kd.R_ne HO_457001.out BK449.out (by decide); intro e_; exact h_ (by rw [e_]; rfl)) _; (with_reducible repeat (first | refine blk_drewN ?_ _ | refine blk_drew ?_ | refine blk_alloc ?_ _)); refine blk_far ?_ (by have h_ := Kd.R_ne HO_457001.out BK449.out (by decide); intro e_; exact h_ (by rw [e_]; rfl)) _; (with_reducible repeat (first | refine blk_drewN ?_ _ | refine blk_drew ?_ | refine blk_alloc ?_ _)); refine blk_far ?_ (by have h_ := Kd.R_ne HO_457001.out BK449.out (by decide); intro e_; exact h_ (by rw [e_]; rfl)) _; (with_reducible repeat (first | refine blk_drewN ?_ _ | refine blk_drew ?_ | refine blk_alloc ?_ _)); refine blk_far ?_ (by have h_ := Kd.R_ne HO_457001.out BK449.out (by decide); intro e_; exact h_ (by rw [e_]; rfl)) _; (with_reducible repeat (first | refine blk_drewN ?_ _ | refine blk_drew ?_ | refine blk_alloc ?_ _)); refine blk_far ?_ (by have h_ := Kd.R_ne HO_457001.out BK449.out (by decide); intro e_; exact h_ (by rw [e_]; rfl)) _; (with_reducible repeat (first | refine blk_drewN ?_ _ | refine blk_drew ?_ | refine blk_alloc ?_ _)); refine blk_far ?_ (by have h_ := Kd.R_ne HO_457001.out BK449.out (by decide); intro e_; exact h_ (by rw [e_]; rfl)) _; (with_reducible repeat (first | refine blk_drewN ?_ _ | refine blk_drew ?_ | refine blk_alloc ?_ _)); refine blk_far ?_ (by have h_ := Kd.R_ne HO_457001.out BK449.out (by decide); intro e_; exact h_ (by rw [e_]; rfl)) _; (with_reducible repeat (first | refine blk_drewN ?_ _ | refine blk_drew ?_ | refine blk_alloc ?_ _)); refine blk_far ?_ (by have h_ := Kd.R_ne HO_457001.out BK449.out (by decide); intro e_; exact h_ (by rw [e_]; rfl)) _; (with_reducible repeat (first | refine blk_drewN ?_ _ | refine blk_drew ?_ | refine blk_alloc ?_ _)); refine blk_far ?_ (by have h_ := Kd.R_ne HO_457001.out BK449.out (by decide); intro e_; exact h_ (by rw [e_]; rfl)) _; (with_reducible repeat (first | refine blk_drewN ?_ _ | refine blk_drew ?_ | refine blk_alloc ?_ _)); refine blk_far ?_ (by have h_ := Kd.R_ne HO_457001.out BK449.out (by decide); intro e_; exact h_ (by rw [e_]; rfl)) _; (with_reducible repeat (first | refine blk_drewN ?_ _ | refine blk_drew ?_ | refine blk_alloc ?_ _)); refine blk_far ?_ (by have h_ := Kd.R_ne HO_457001.out BK449.out (by decide); intro e_; exact h_ (by rw [e_]; rfl)) _; (with_reducible repeat (first | refine blk_drewN ?_ _ | refine blk_drew ?_ | refine blk_alloc ?_ _)); refine blk_far ?_ (by have h_ := Kd.R_ne HO_457001.out BK449.out (by decide); intro e_; exact h_ (by rw [e_]; rfl)) _; (with_reducible repeat (first | refine blk_drewN ?_ _ | refine blk_drew ?_ | refine blk_alloc ?_ _)); refine blk_far ?_ (by have h_ := Kd.R_ne HO_457001.out BK449.out (by decide); intro e_; exact h_ (by rw [e_]; rfl)) _; (with_reducible repeat (first | refine blk_drewN ?_ _ | refine blk_drew ?_ | refine blk_alloc ?_ _)); refine blk_far ?_ (by have h_ := Kd.R_ne HO_457001.out BK449.out (by decide); intro e_; exact h_ (by rw [e_]; rfl)) _; (with_reducible repeat (first | refine blk_drewN ?_ _ | refine blk_drew ?_ | refine blk_alloc ?_ _)); refine blk_far ?_ (by have h_ := Kd.R_ne HO_457001.out BK449.out (by decide); intro e_; exact h_ (by rw [e_]; rfl)) _; (with_reducible repeat (first | refine blk_drewN ?_ _ | refine blk_drew ?_ | refine blk_alloc ?_ _)); exact BK449.out⟩, ⟨by (with_reducible repeat (first | refine blk_drewN ?_ _ | refine blk_drew ?_ | refine blk_alloc ?_ _)); refine blk_far ?_ (by have h_ := Kd.R_ne HO_457001.out BK450.out (by decide); intro e_; exact h_ (by rw [e_]; rfl)) _; (with_reducible repeat (first | refine blk_drewN ?_ _ | refine blk_drew ?_ | refine blk_alloc ?_ _)); refine blk_far ?_ (by have h_ := Kd.R_ne HO_457001.out BK450.out (by decide); intro e_; exact h_ (by rw [e_]; rfl)) _; (with_reducible repeat (first | refine blk_drewN ?_ _ | refine blk_drew ?_ | refine blk_alloc ?_ _)); refine blk_far ?_ (by have h_ := Kd.R_ne HO_457001.out BK450.out (by decide); intro e_; exact h_ (by rw [e_]; rfl)) _; (with_reducible repeat (first | refine blk_drewN ?_ _ | refine blk_drew ?_ | refine blk_alloc ?_ _)); refine blk_far ?_ (by have h_ := Kd.R_ne HO_457001.out BK450.out (by decide); intro e_; exact h_ (by rw [e_]; rfl)) _; (with_reducible repeat (first | refine blk_drewN ?_ _ | refine blk_drew ?_ | refine blk_alloc ?_ _)); refine blk_far ?_ (by have h_ := Kd.R_ne HO_457001.out BK450.out (by decide); intro e_; exact h_ (by rw [e_]; rfl)) _; (with_reducible repeat (first | refine blk_drewN ?_ _ | refine blk_drew ?_ | refine blk_alloc ?_ _)); refine blk_far ?_ (by have h_ := Kd.R_ne HO_457001.out BK450.out (by decide); intro e_; exact h_ (by rw [e_]; rfl)) _; (with_reducible repeat (first | refine blk_drewN ?_ _ | refine blk_drew ?_ | refine blk_alloc ?_ _)); refine blk_far ?_ (by have h_ := Kd.R_ne HO_457001.out BK450.out (by decide); intro e_; exact h_ (by rw [e_]; rfl)) _; (with_reducible repeat (first | refine blk_drewN ?_ _ | refine blk_drew ?_ | refine blk_alloc ?_ _)); refine blk_far ?_ (by have h_ := Kd.R_ne HO_457001.out BK450.out (by decide); intro e_; exact h_ (by rw [e_]; rfl)) _; (with_reducible repeat (first | refine blk_drewN ?_ _ | refine blk_drew ?_ | refine blk_alloc ?_ _)); refine blk_far ?_ (by have h_ := Kd.R_ne HO_457001.out BK450.out (by decide); intro e_; exact h_ (by rw [e_]; rfl)) _; (with_reducible repeat (first | refine blk_drewN ?_ _ | refine blk_drew ?_ | refine blk_alloc ?_ _)); refine blk_far ?_ (by have h_ := Kd.R_ne HO_457001.out BK450.out (by decide); intro e_; exact h_ (by rw [e_]; rfl)) _; (with_reducible repeat (first | refine blk_drewN ?_ _ | refine blk_drew ?_ | refine blk_alloc ?_ _)); refine blk_far ?_ (by have h_ := Kd.R_ne HO_457001.out BK450.out (by decide); intro e_; exact h_ (by rw [e_]; rfl)) _; (with_reducible repeat (first | refine blk_drewN ?_ _ | refine blk_drew ?_ | refine blk_alloc ?_ _)); refine blk_far ?_ (by have h_ := Kd.R_ne HO_457001.out BK450.out (by decide); intro e_; exact h_ (by rw [e_]; rfl)) _; (with_reducible repeat (first | refine blk_drewN ?_ _ | refine blk_drew ?_ | refine blk_alloc ?_ _)); refine blk_far ?_ (by have h_ := Kd.R_ne HO_457001.out BK450.out (by decide); intro e_; exact h_ (by rw [e_]; rfl)) _; (with_reducible repeat (first | refine blk_drewN ?_ _ | refine blk_drew ?_ | refine blk_alloc ?_ _)); refine blk_far ?_ (by have h_ := Kd.R_ne HO_457001.out BK450.out (by decide); intro e_; exact h_ (by rw [e_]; rfl)) _; (with_reducible repeat (first | refine blk_drewN ?_ _ | refine blk_drew ?_ | refine blk_alloc ?_ _)); refine blk_far ?_ (by have h_ := Kd.R_ne HO_457001.out BK450.out (by decide); intro e_; exact h_ (by rw [e_]; rfl)) _; (with_reducible repeat (first | refine blk_drewN ?_ _ | refine blk_drew ?_ | refine blk_alloc ?_ _)); refine blk_far ?_ (by have h_ := Kd.R_ne HO_457001.out BK450.out (by decide); intro e_; exact h_ (by rw [e_]; rfl)) _; (with_reducible repeat (first | refine blk_drewN ?_ _ | refine blk_drew ?_ | refine blk_alloc ?_ _)); exact BK450.out⟩, ⟨by (with_reducible repeat (first | refine blk_drewN ?_ _ | refine blk_drew ?_ | refine blk_alloc ?_ _)); refine blk_far ?_ (by have h_ := Kd.R_ne HO_457001.out BK456.out (by decide); intro e_; exact h_ (by rw [e_]; rfl)) _; (with_reducible repeat (first | refine blk_drewN ?_ _ | refine blk_drew ?_ | refine blk_alloc ?_ _)); refine blk_far ?_ (by have h_ := Kd.R_ne HO_457001.out BK456.out (by decide); intro e_; exact h_ (by rw [e_]; rfl)) _; (with_reducible repeat (first | refine blk_drewN ?_ _ | refine blk_drew ?_ | refine blk_alloc ?_ _)); refine blk_far ?_ (by have h_ := Kd.R_ne HO_457001.out BK456.out (by decide); intro e_; exact h_ (by rw [e_]; rfl)) _; (with_reducible repeat (first | refine blk_drewN ?_ _ | refine blk_drew ?_ | refine blk_alloc ?_ _)); refine blk_far ?_ (by have h_ := Kd.R_ne HO_457001.out BK456.out (by decide); intro e_; exact h_ (by rw [e_]; rfl)) _; (with_reducible repeat (first | refine blk_drewN ?_ _ | refine blk_drew ?_ | refine blk_alloc ?_ _)); refine blk_far ?_ (by have h_ := Kd.R_ne HO_457001.out BK456.out (by decide); intro e_; exact h_ (by rw [e_]; rfl)) _; (with_reducible repeat (first | refine blk_drewN ?_ _ | refine blk_drew ?_ | refine blk_alloc ?_ _)); refine blk_far ?_ (by have h_ := Kd.R_ne HO_457001.out BK456.out (by decide); intro e_; exact h_ (by rw [e_]; rfl)) _; (with_reducible repeat (first | refine blk_drewN ?_ _ | refine blk_drew ?_ | refine blk_alloc ?_ _)); refine blk_far ?_ (by have h_ := Kd.R_ne HO_457001.out BK456.out (by decide); intro e_; exact h_ (by rw [e_]; rfl)) _; (with_reducible repeat (first | refine blk_drewN ?_ _ | refine blk_drew ?_ | refine blk_alloc ?_ _)); refine blk_far ?_ (by have h_ := Kd.R_ne HO_457001.out BK456.out (by decide); intro e_; exact h_ (by rw [e_]; rfl)) _; (with_reducible repeat (first | refine blk_drewN ?_ _ | refine blk_drew ?_ | refine blk_alloc ?_ _)); refine blk_far ?_ (by have h_ := Kd.R_ne HO_457001.out BK456.out (by decide); intro e_; exact h_ (by rw [e_]; rfl)) _; (with_reducible repeat (first | refine blk_drewN ?_ _ | refine blk_drew ?_ | refine blk_alloc ?_ _)); refine blk_far ?_ (by have h_ := Kd.R_ne HO_457001.out BK456.out (by decide); intro e_; exact h_ (by rw [e_]; rfl)) _; (with_reducible repeat (first | refine blk_drewN ?_ _ | refine blk_drew ?_ | refine blk_alloc ?_ _)); refine blk_far ?_ (by have h_ := Kd.R_ne HO_457001.out BK456.out (by decide); intro e_; exact h_ (by rw [e_]; rfl)) _; (with_reducible repeat (first | refine blk_drewN ?_ _ | refine blk_drew ?_ | refine blk_alloc ?_ _)); refine blk_far ?_ (by have h_ := Kd.R_ne HO_457001.out BK456.out (by decide); intro e_; exact h_ (by rw [e_]; rfl)) _; (with_reducible repeat (first | refine blk_drewN ?_ _ | refine blk_drew ?_ | refine blk_alloc ?_ _)); refine blk_far ?_ (by have h_ := Kd.R_ne HO_457001.out BK456.out (by decide); intro e_; exact h_ (by rw [e_]; rfl)) _; (with_reducible repeat (first | refine blk_drewN ?_ _ | refine blk_drew ?_ | refine blk_alloc ?_ _)); refine blk_far ?_ (by have h_ := Kd.R_ne HO_457001.out BK456.out (by decide); intro e_; exact h_ (by rw [e_]; rfl)) _; (with_reducible repeat (first | refine blk_drewN ?_ _ | refine blk_drew ?_ | refine blk_alloc ?_ _)); refine blk_far ?_ (by have h_ := Kd.R_ne HO_457001.out BK456.out (by decide); intro e_; exact h_ (by rw [e_]; rfl)) _; (with_reducible repeat (first | refine blk_drewN ?_ _ | refine blk_drew ?_ | refine blk_alloc ?_ _)); refine blk_far ?_ (by have h_ := Kd.R_ne HO_457001.out BK456.out (by decide); intro e_; exact h_ (by rw [e_]; rfl)) _; (with_reducible repeat (first | refine blk_drewN ?_ _ | refine blk_drew ?_ | refine blk_alloc ?_ _)); exact BK456.out⟩, ⟨Gv.bw⟩⟩
          ·rw [if_neg c33] at H
           exact absurd H (by simp)
         ·rw [if_neg c32] at H
          exact absurd H (by simp)
        ·replace c30 := Bool.eq_false_iff.mpr c30
         subst c30
         have H1 : (impl_TableGrow.l0 k1 l0_1 (l0_1.length : Int) (wrap64 (x28_1 + 1)) t452 x457001_1) = some (r1, r2, r3) := by rw [if_neg (show ¬ (false = true) by decide)] at H; exact H
         clear H
         have H := H1
         clear H1
         have H' := Gv.a0 H
         clear H
         have p457 : 0 ≤ (x28_1 : Int) := of_decide_eq_true (by first | (with_reducible assumption) | assumption)
         have q457 : x28_1 < (l0_1.length : Int) := of_decide_eq_true (by first | (with_reducible assumption) | assumption)
         obtain ⟨ad457, e457, hx457_0, hx457_1, hx457_2, hx457_3, hx457_4, hx457_5, hx457_6, hx457_7, hx457_8, hx457_9, hx457_10, hx457_11, hx457_12, hx457_13, hx457_14, hx457_15⟩ := at_T75 HR0_1.out x28_1 p457 q457
         (try rw [← Nbq29.out] at hx457_0)
         cases e457
         replace hx457_0 := Gv.bx HB.out hx457_0
         replace hx457_1 := Gv.bx HB.out hx457_1
         replace hx457_2 := Gv.bx HB.out hx457_2
         replace hx457_3 := Gv.bx HB.out hx457_3
         replace hx457_4 := Gv.bx HB.out hx457_4
         replace hx457_5 := Gv.bx HB.out hx457_5
         replace hx457_6 := Gv.bx HB.out hx457_6
         replace hx457_7 := Gv.bx HB.out hx457_7
         replace hx457_8 := Gv.bx HB.out hx457_8
         replace hx457_9 := Gv.bx HB.out hx457_9
         replace hx457_10 := Gv.bx HB.out hx457_10
         replace hx457_11 := Gv.bx HB.out hx457_11
         replace hx457_12 := Gv.bx HB.out hx457_12
         replace hx457_13 := Gv.bx HB.out hx457_13
         replace hx457_14 := Gv.bx HB.out hx457_14
         replace hx457_15 := Gv.bx HB.out hx457_15
         replace p457 := eq_true p457
         replace q457 := eq_true q457
         go_wp2_with (first | ((with_reducible refine gate_dst (N := 6) rfl ?_); refine box_event ?hg (N := 6) ?hd (cs := #[.bool false, .int .i64 0, .int .i64 0, .int .i64 0, .int .i64 0, .int .i64 0, .int .i64 0, .int .i64 0, .int .i64 0, .int .i64 0, .int .i64 0, .int .i64 0, .int .i64 0, .int .i64 0, .int .i64 0, .int .i64 0]) (t := 75) ?hr ?_; (case hd => rfl); (case hg => rfl); (case hr => first | (go_simp; done) | (go_simp; rfl)); intro gb458 hg w45 hbox hb; replace HO_457001 := Gv.a0 (Kd.R_below (Kd.R_elderB (Gv.kr HO_457001.out) gb458 (Nat.le_of_eq hg.symm)) hb); have BK458 := Gv.a0 (hbox); have GW458 := Gv.a0 ((Gv.ble hg Gv.bw : w.heap.size ≤ gb458)); have GE458 := Gv.a0 ((Gv.ble hg Gv.bw : w.heap.size ≤ gb458)); replace HB := Gv.a0 (below_step Gv.bw hb); have NB449_458 := Gv.a0 ((Gv.nlt hg (Gv.kb BK449.out) : gb449 ≠ gb458)); have NB458_449 := Gv.a0 ((Gv.ngt hg (Gv.kb BK449.out) : gb458 ≠ gb449)); replace BK449 := Gv.a0 (Gv.bb BK449.out hb); have NB450_458 := Gv.a0 ((Gv.nlt hg (Gv.kb BK450.out) : gb450 ≠ gb458)); have NB458_450 := Gv.a0 ((Gv.ngt hg (Gv.kb BK450.out) : gb458 ≠ gb450)); replace BK450 := Gv.a0 (Gv.bb BK450.out hb); have NB456_458 := Gv.a0 ((Gv.nlt hg (Gv.kb BK456.out) : gb456 ≠ gb458)); have NB458_456 := Gv.a0 ((Gv.ngt hg (Gv.kb BK456.out) : gb458 ≠ gb456)); replace BK456 := Gv.a0 (Gv.bb BK456.out hb); clear hb hbox hg; have hnb46 := NB458_449.out; have hnc46 := NB449_458.out; have hnb47 := NB458_450.out; have hnc47 := NB450_458.out; have hnb48 := NB458_456.out; have hnc48 := NB456_458.out; obtain ⟨hcz49_0, hcz49_1, hcz49_2, hcz49_3, hcz49_4, hcz49_5, hcz49_6, hcz49_7, hcz49_8, hcz49_9, hcz49_10, hcz49_11, hcz49_12, hcz49_13, hcz49_14, hcz49_15⟩ := Gv.c16 BK458.out; obtain ⟨hfz49_0, hfz49_1, hfz49_2, hfz49_3, hfz49_4, hfz49_5, hfz49_6, hfz49_7, hfz49_8, hfz49_9, hfz49_10, hfz49_11, hfz49_12, hfz49_13, hfz49_14, hfz49_15⟩ := Gv.f16 BK458.out) | ((with_reducible refine gate_store (t := 75) (p := 6) rfl ?_); refine Gv.store_event rfl rfl rfl rfl rfl (Gv.kb BK458.out) (by kernel_rfl) rfl (by simp; and_intros <;> rfl) ?_; intro w45s hbox hoth hbel; have n0_ := Gv.a0 (hbox); have n1_ := Gv.a0 (hbel w Gv.bw GE458.out); have n2_ := Gv.a0 ((hoth gb449 NB449_458.out).trans (Gv.kb BK449.out)); have n3_ := Gv.a0 ((hoth gb450 NB450_458.out).trans (Gv.kb BK450.out)); have n4_ := Gv.a0 ((hoth gb456 NB456_458.out).trans (Gv.kb BK456.out)); (first | have n5_ := Gv.a0 (Gv.ro (Gv.kr HO_457001.out) (Gv.kb BK458.out) (by decide) hoth) | have n5_ := Gv.a0 (Kd.R_move (Gv.kr HO_457001.out) (fun k hk => hoth k (by first | exact hk.2 | exact hk.2.2 | exact hk.1.2 | exact hk.2.2.2)))); clear BK458 HB BK449 BK450 BK456 HO_457001; have BK458 := n0_; have HB := n1_; have BK449 := n2_; have BK450 := n3_; have BK456 := n4_; have HO_457001 := n5_; clear n0_ n1_ n2_ n3_ n4_ n5_ hbox hoth hbel; (try clear hcz49_0 hcz49_1 hcz49_2 hcz49_3 hcz49_4 hcz49_5 hcz49_6 hcz49_7 hcz49_8 hcz49_9 hcz49_10 hcz49_11 hcz49_12 hcz49_13 hcz49_14 hcz49_15 hfz49_0 hfz49_1 hfz49_2 hfz49_3 hfz49_4 hfz49_5 hfz49_6 hfz49_7 hfz49_8 hfz49_9 hfz49_10 hfz49_11 hfz49_12 hfz49_13 hfz49_14 hfz49_15); obtain ⟨hcz49_0, hcz49_1, hcz49_2, hcz49_3, hcz49_4, hcz49_5, hcz49_6, hcz49_7, hcz49_8, hcz49_9, hcz49_10, hcz49_11, hcz49_12, hcz49_13, hcz49_14, hcz49_15⟩ := Gv.c16 BK458.out; obtain ⟨hfz49_0, hfz49_1, hfz49_2, hfz49_3, hfz49_4, hfz49_5, hfz49_6, hfz49_7, hfz49_8, hfz49_9, hfz49_10, hfz49_11, hfz49_12, hfz49_13, hfz49_14, hfz49_15⟩ := Gv.f16 BK458.out) | ((with_reducible refine Gv.gate_load (t := 75) rfl ?_); (try (refine gate_guard (by rfl) ?_; dsimp only)); refine wpList_load_row rfl 75 _ rfl gb458 rfl 75 _ _ _ (by first | exact Gv.kb0 BK458.out | exact Gv.kb1 (Gv.kb0 BK458.out)) Try.underlying75 rfl (by kernel_rfl) ?_) | ((with_reducible refine Gv.gate_load (t := 33) rfl ?_); (try (refine gate_guard (by rfl) ?_; dsimp only)); refine Gv.sub_event (g := gb458) 14 rfl rfl rfl (by first | exact Gv.kb0 BK458.out | exact Gv.kb1 (Gv.kb0 BK458.out)) Try.underlying33 rfl (by kernel_rfl) ?_) | ((with_reducible refine Gv.gate_load (t := 31) rfl ?_); (try (refine gate_guard (by rfl) ?_; dsimp only)); refine Gv.sub_event (g := gb458) 13 rfl rfl rfl (by first | exact Gv.kb0 BK458.out | exact Gv.kb1 (Gv.kb0 BK458.out)) Try.underlying31 rfl (by kernel_rfl) ?_) | ((with_reducible refine Gv.gate_load (t := 75) rfl ?_); refine Gv.load_event (cs := [_, _, _, _, _, _, _, _, _, _, _, _, _, _, _, _]) rfl rfl rfl ⟨hx457_0, hx457_1, hx457_2, hx457_3, hx457_4, hx457_5, hx457_6, hx457_7, hx457_8, hx457_9, hx457_10, hx457_11, hx457_12, hx457_13, hx457_14, hx457_15, trivial⟩ Try.underlying75 rfl (by kernel_rfl) ?_))
         go_roundg k1
         case measure => have := HK1.out; omega
         case rel => exact ⟨(wrap64 (x28_1 + 1)), (x457001_1), (u457001), Gv.rq, H', ⟨by have := HK1.out; omega⟩, ⟨by (with_reducible repeat (first | apply Kd.R_alloc | apply Kd.R_drewN | apply Kd.R_drew)); exact Kd.R_mono HO_457001.out (fun _ hk => by first | exact trivial | exact hk | exact hk.1 | exact hk.2 | exact hk.elim)⟩, ⟨by (with_reducible repeat (first | refine blk_drewN ?_ _ | refine blk_drew ?_ | refine blk_alloc ?_ _)); (repeat (refine blk_far ?_ NB449_458.out _; (with_reducible repeat (first | refine blk_drewN ?_ _ | refine blk_drew ?_ | refine blk_alloc ?_ _)))); (with_reducible repeat (first | refine blk_drewN ?_ _ | refine blk_drew ?_ | refine blk_alloc ?_ _)); exact BK449.out⟩, ⟨by (with_reducible repeat (first | refine blk_drewN ?_ _ | refine blk_drew ?_ | refine blk_alloc ?_ _)); (repeat (refine blk_far ?_ NB450_458.out _; (with_reducible repeat (first | refine blk_drewN ?_ _ | refine blk_drew ?_ | refine blk_alloc ?_ _)))); (with_reducible repeat (first | refine blk_drewN ?_ _ | refine blk_drew ?_ | refine blk_alloc ?_ _)); exact BK450.out⟩, ⟨by (with_reducible repeat (first | refine blk_drewN ?_ _ | refine blk_drew ?_ | refine blk_alloc ?_ _)); (repeat (refine blk_far ?_ NB456_458.out _; (with_reducible repeat (first | refine blk_drewN ?_ _ | refine blk_drew ?_ | refine blk_alloc ?_ _)))); (with_reducible repeat (first | refine blk_drewN ?_ _ | refine blk_drew ?_ | refine blk_alloc ?_ _)); exact BK456.out⟩, ⟨Gv.bw⟩⟩
       ·rw [if_neg c28] at H
        exact absurd H (by simp)
      ·rw [if_neg c27] at H
       exact absurd H (by simp)
     ·rw [if_neg c26] at H
      have c26b0 : decide (x28_1 < (l0_1.length : Int)) = false := decide_eq_false c26
      clear c26
      simp only [Option.some.injEq, Prod.mk.injEq] at H
      obtain ⟨rfl, rfl, rfl⟩ := H
      have hnb50 := NB456_449.out
      have hnc50 := NB449_456.out
      have hnb51 := NB456_450.out
      have hnc51 := NB450_456.out
      have hcz52_0 : wr.cell? ⟨gb456, 0, none⟩ = some (.int .i64 t452) := (blk_cell BK456.out 0).trans rfl
      have hcz52_1 : wr.cell? ⟨gb456, 1, none⟩ = some (u457001) := (blk_cell BK456.out 1).trans rfl
      have hfz52_0 := blk_frozen BK456.out 0
      have hfz52_1 := blk_frozen BK456.out 1
      have hnb53 := NB450_449.out
      have hnc53 := NB449_450.out
      have hcz54_0 : wr.cell? ⟨gb450, 0, none⟩ = some (.int .i64 0) := (blk_cell BK450.out 0).trans rfl
      have hcz54_1 : wr.cell? ⟨gb450, 1, none⟩ = some (.slice none 0 0) := (blk_cell BK450.out 1).trans rfl
      have hfz54_0 := blk_frozen BK450.out 0
      have hfz54_1 := blk_frozen BK450.out 1
      obtain ⟨Ao55, co55, eo55⟩ := Kd.R_slice HO_457001.out
      subst eo55
      go_wp2_with (first | ((with_reducible refine Gv.gate_load (t := 75) rfl ?_); (try (refine gate_guard (by rfl) ?_; dsimp only)); refine wpList_load_row rfl 75 _ rfl gb458 rfl 75 _ _ _ (by first | exact Gv.kb0 BK458.out | exact Gv.kb1 (Gv.kb0 BK458.out)) Try.underlying75 rfl (by kernel_rfl) ?_) | ((with_reducible refine Gv.gate_load (t := 33) rfl ?_); (try (refine gate_guard (by rfl) ?_; dsimp only)); refine Gv.sub_event (g := gb458) 14 rfl rfl rfl (by first | exact Gv.kb0 BK458.out | exact Gv.kb1 (Gv.kb0 BK458.out)) Try.underlying33 rfl (by kernel_rfl) ?_) | ((with_reducible refine Gv.gate_load (t := 31) rfl ?_); (try (refine gate_guard (by rfl) ?_; dsimp only)); refine Gv.sub_event (g := gb458) 13 rfl rfl rfl (by first | exact Gv.kb0 BK458.out | exact Gv.kb1 (Gv.kb0 BK458.out)) Try.underlying31 rfl (by kernel_rfl) ?_))
      refine bodyPost_ret (results_ct rfl _ _ gb450 40 #[.int .i64 t452, .slice Ao55 x457001_1.length co55] (0, 0) _ rfl (by (with_reducible repeat (first | refine blk_drewN ?_ _ | refine blk_drew ?_ | refine blk_alloc ?_ _)); refine blk_put (cs := #[.int .i64 t452, .slice none 0 0]) ?_ 1 _ rfl; (with_reducible repeat (first | refine blk_drewN ?_ _ | refine blk_drew ?_ | refine blk_alloc ?_ _)); refine blk_put (cs := #[.int .i64 0, .slice none 0 0]) ?_ 0 _ rfl; (with_reducible repeat (first | refine blk_drewN ?_ _ | refine blk_drew ?_ | refine blk_alloc ?_ _)); exact BK450.out) Try.underlying40 rfl (by kernel_rfl)) rfl ?_
      exact ⟨_, Gv.rt, by (with_reducible repeat (first | apply Kd.R_alloc | apply Kd.R_drewN | apply Kd.R_drew)); exact Kd.R_mono (Kd.R_far (p := ⟨gb450, 1, none⟩) (Kd.R_far (p := ⟨gb450, 0, none⟩) (Kd.R_types HO_457001.out BK450.out (by decide)) (fun _ hk => hk.2) (.int .i64 t452)) (fun _ hk => hk.2) (.slice Ao55 x457001_1.length co55)) (fun _ hk => trivial), Gv.bw⟩
 ·replace c3 := Bool.eq_false_iff.mpr c3
  subst c3
  have H1 : (some (0, ([] : List (S75)), 1)) = some (r1, r2, r3) := by rw [if_neg (show ¬ (false = true) by decide)] at H; exact H
  clear H
  have H := H1
  clear H1
  simp only [Option.some.injEq, Prod.mk.injEq] at H
  obtain ⟨rfl, rfl, rfl⟩ := H
  go_enter Try.func32, Try.ntmps32
  go_wp2_with (first | ((with_reducible refine gate_dst (N := 1) rfl ?_); refine box_event ?hg (N := 1) ?hd (cs := #[.int .i64 a0_0, .slice A0_1 l0_1.length c0_1]) (t := 40) ?hr ?_; (case hd => rfl); (case hg => rfl); (case hr => first | (go_simp; done) | (go_simp; rfl)); intro gb449 hg w56 hbox hb; have BK449 := Gv.a0 (hbox); have GW449 := Gv.a0 ((Gv.ble hg Gv.bw : w.heap.size ≤ gb449)); have GE449 := Gv.a0 ((Gv.ble hg Gv.bw : w.heap.size ≤ gb449)); replace HB := Gv.a0 (below_step Gv.bw hb); clear hb hbox hg) | ((with_reducible refine gate_dst (N := 2) rfl ?_); refine box_event ?hg (N := 2) ?hd (cs := #[.int .i64 0, .slice none 0 0]) (t := 40) ?hr ?_; (case hd => rfl); (case hg => rfl); (case hr => first | (go_simp; done) | (go_simp; rfl)); intro gb450 hg w57 hbox hb; have BK450 := Gv.a0 (hbox); have GW450 := Gv.a0 ((Gv.ble hg Gv.bw : w.heap.size ≤ gb450)); have GE450 := Gv.a0 ((Gv.ble hg Gv.bw : w.heap.size ≤ gb450)); replace HB := Gv.a0 (below_step Gv.bw hb); have NB449_450 := Gv.a0 ((Gv.nlt hg (Gv.kb BK449.out) : gb449 ≠ gb450)); have NB450_449 := Gv.a0 ((Gv.ngt hg (Gv.kb BK449.out) : gb450 ≠ gb449)); replace BK449 := Gv.a0 (Gv.bb BK449.out hb); clear hb hbox hg; have hnb58 := NB449_450.out; have hnc58 := NB450_449.out; have hcz59_0 : w57.cell? ⟨gb449, 0, none⟩ = some (.int .i64 a0_0) := (blk_cell BK449.out 0).trans rfl; have hcz59_1 : w57.cell? ⟨gb449, 1, none⟩ = some (.slice A0_1 l0_1.length c0_1) := (blk_cell BK449.out 1).trans rfl; have hfz59_0 := blk_frozen BK449.out 0; have hfz59_1 := blk_frozen BK449.out 1) | ((with_reducible refine gate_callee (f := 26) rfl ?_); refine goesL_ (some 9) rfl rfl Try.func26 (by kernel_rfl) rfl #[.agg #[.int .i64 a0_0, .slice A0_1 l0_1.length c0_1]] rfl Gv.lm ?_; (with_reducible refine (impl_TableOk.calls k a0_0 _ _ l0_1 false _ ?side1 ?side2 A2.out).mono ?_); (case side1 => repeat (first | exact (Kd.C_below HR0_1.out HB.out) | (with_reducible refine Kd.C_alloc ?_ _) | (with_reducible refine Kd.C_drewN ?_ _) | (with_reducible refine Kd.C_drew ?_))); (case side2 => exact HC0_1.out); rintro e w60 ⟨rfl, hb⟩; refine ⟨_, rfl, ?_⟩; replace BK449 := Gv.a0 (Gv.bb BK449.out hb); replace BK450 := Gv.a0 (Gv.bb BK450.out hb); replace HB := Gv.a0 (below_step Gv.bw hb); clear hb; have hcz61_0 : w60.cell? ⟨gb450, 0, none⟩ = some (.int .i64 0) := (blk_cell BK450.out 0).trans rfl; have hcz61_1 : w60.cell? ⟨gb450, 1, none⟩ = some (.slice none 0 0) := (blk_cell BK450.out 1).trans rfl; have hfz61_0 := blk_frozen BK450.out 0; have hfz61_1 := blk_frozen BK450.out 1) | ((with_reducible refine Gv.gate_load (t := 75) rfl ?_); (try (refine gate_guard (by rfl) ?_; dsimp only)); refine wpList_load_row rfl 75 _ rfl gb458 rfl 75 _ _ _ (by first | exact Gv.kb0 BK458.out | exact Gv.kb1 (Gv.kb0 BK458.out)) Try.underlying75 rfl (by kernel_rfl) ?_) | ((with_reducible refine Gv.gate_load (t := 33) rfl ?_); (try (refine gate_guard (by rfl) ?_; dsimp only)); refine Gv.sub_event (g := gb458) 14 rfl rfl rfl (by first | exact Gv.kb0 BK458.out | exact Gv.kb1 (Gv.kb0 BK458.out)) Try.underlying33 rfl (by kernel_rfl) ?_) | ((with_reducible refine Gv.gate_load (t := 31) rfl ?_); (try (refine gate_guard (by rfl) ?_; dsimp only)); refine Gv.sub_event (g := gb458) 13 rfl rfl rfl (by first | exact Gv.kb0 BK458.out | exact Gv.kb1 (Gv.kb0 BK458.out)) Try.underlying31 rfl (by kernel_rfl) ?_))
  refine bodyPost_ret (results_ct rfl _ _ gb450 40 #[.int .i64 0, .slice none 0 0] (0, 0) _ rfl (by (with_reducible repeat (first | refine blk_drewN ?_ _ | refine blk_drew ?_ | refine blk_alloc ?_ _)); refine blk_put (cs := #[.int .i64 0, .slice none 0 0]) ?_ 1 _ rfl; (with_reducible repeat (first | refine blk_drewN ?_ _ | refine blk_drew ?_ | refine blk_alloc ?_ _)); refine blk_put (cs := #[.int .i64 0, .slice none 0 0]) ?_ 0 _ rfl; (with_reducible repeat (first | refine blk_drewN ?_ _ | refine blk_drew ?_ | refine blk_alloc ?_ _)); exact BK450.out) Try.underlying40 rfl (by kernel_rfl)) rfl ?_
  exact ⟨_, Gv.rt, by first | exact Kd.R_nil _ _ _ _ _ | exact Kd.N_nil _ _ _ _ _ | exact Kd.V_nil _ _ _ _ _ | exact Kd.Q_nil _ _ _ _ _ | exact Kd.S_nil _ _ _ _ _, Gv.bw⟩

/-! ### laws_FnExactTableGrow: function 9 -/
def laws_FnExactTableGrow.f (k : Nat) (a0_0 : Int) (l0_1 : List (S94)) : Option (Bool) := (laws_szTable.f a0_0 l0_1 1048576).bind fun t462 => (if t462 < 0 then (some true) else ((laws_toTable.f k a0_0 l0_1).bind fun bt463 => ((spec_TableGrow.f k bt463.1 bt463.2).bind fun bt467 => ((laws_toTable.f k a0_0 l0_1).bind fun bt473 => ((impl_TableGrow.f k bt473.1 bt473.2).bind fun bt478 => ((laws_eqTable.f k bt478.1 bt478.2.1 bt467.1 bt467.2.1).bind fun t484 => (if t484 = true then (if bt478.2.2 = bt467.2.2 then ((laws_toTable.f k a0_0 l0_1).bind fun bt485 => ((laws_eqTable.f k bt473.1 bt473.2 bt485.1 bt485.2).bind fun t489 => (if t489 = true then ((laws_markTable.f bt473.1 bt473.2 1).bind fun bt490 => (if bt490.1 < 0 then (none) else ((laws_eqTable.f k bt478.1 bt478.2.1 bt467.1 bt467.2.1).bind fun t492 => (if t492 = true then ((laws_markTable.f bt478.1 bt478.2.1 1).bind fun bt493 => ((laws_heldTable.f bt478.1 bt493.2 1).bind fun t495 => (if t495 < 0 then (none) else (if t495 = bt493.1 then ((laws_toTable.f k a0_0 l0_1).bind fun bt496 => ((impl_TableGrow.f k bt496.1 bt496.2).bind fun bt500 => ((laws_eqTable.f k bt500.1 bt500.2.1 bt467.1 bt467.2.1).bind fun t506 => (if t506 = true then (if bt500.2.2 = bt467.2.2 then ((laws_heldTable.f bt478.1 bt493.2 1).bind fun t507 => (if t507 < 0 then (none) else (if t507 = bt493.1 then (some true) else (none)))) else (none)) else (none))))) else (none))))) else (none))))) else (none)))) else (none)) else (none))))))))
set_option maxHeartbeats 8000000 in
set_option maxRecDepth 100000 in
theorem laws_FnExactTableGrow.calls (k : Nat) (a0_0 : Int) (A0_1 : Option Addr) (c0_1 : Nat) (l0_1 : List (S94)) (r : Bool) (w : World) (hr0_1 : Kd.C k94 w A0_1 l0_1.length l0_1) (hc0_1 : l0_1.length ≤ c0_1) (h : laws_FnExactTableGrow.f k a0_0 l0_1 = some r) :
  Calls Try.prog 9 #[.agg #[.int .i64 a0_0, .slice A0_1 l0_1.length c0_1]] w fun e w' => e = .returned (.bool r) ∧ Below w.heap.size w w' := by
 have hu47 := Try.underlying47
 have hu40 := Try.underlying40
 have HR0_1 := Gv.a0 hr0_1
 have HC0_1 := Gv.a0 hc0_1
 clear hr0_1 hc0_1
 have HB := Gv.a0 (Below.refl w.heap.size w)
 have H : ((laws_szTable.f a0_0 l0_1 1048576).bind fun t462 => (if t462 < 0 then (some true) else ((laws_toTable.f k a0_0 l0_1).bind fun bt463 => ((spec_TableGrow.f k bt463.1 bt463.2).bind fun bt467 => ((laws_toTable.f k a0_0 l0_1).bind fun bt473 => ((impl_TableGrow.f k bt473.1 bt473.2).bind fun bt478 => ((laws_eqTable.f k bt478.1 bt478.2.1 bt467.1 bt467.2.1).bind fun t484 => (if t484 = true then (if bt478.2.2 = bt467.2.2 then ((laws_toTable.f k a0_0 l0_1).bind fun bt485 => ((laws_eqTable.f k bt473.1 bt473.2 bt485.1 bt485.2).bind fun t489 => (if t489 = true then ((laws_markTable.f bt473.1 bt473.2 1).bind fun bt490 => (if bt490.1 < 0 then (none) else ((laws_eqTable.f k bt478.1 bt478.2.1 bt467.1 bt467.2.1).bind fun t492 => (if t492 = true then ((laws_markTable.f bt478.1 bt478.2.1 1).bind fun bt493 => ((laws_heldTable.f bt478.1 bt493.2 1).bind fun t495 => (if t495 < 0 then (none) else (if t495 = bt493.1 then ((laws_toTable.f k a0_0 l0_1).bind fun bt496 => ((impl_TableGrow.f k bt496.1 bt496.2).bind fun bt500 => ((laws_eqTable.f k bt500.1 bt500.2.1 bt467.1 bt467.2.1).bind fun t506 => (if t506 = true then (if bt500.2.2 = bt467.2.2 then ((laws_heldTable.f bt478.1 bt493.2 1).bind fun t507 => (if t507 < 0 then (none) else (if t507 = bt493.1 then (some true) else (none)))) else (none)) else (none))))) else (none))))) else (none))))) else (none)))) else (none)) else (none))))))))) = some r := h
 clear h
 replace H := Option.bind_eq_some_iff.mp H
 obtain ⟨t462, A20, H⟩ := H
 replace H : (if t462 < 0 then (some true) else ((laws_toTable.f k a0_0 l0_1).bind fun bt463 => ((spec_TableGrow.f k bt463.1 bt463.2).bind fun bt467 => ((laws_toTable.f k a0_0 l0_1).bind fun bt473 => ((impl_TableGrow.f k bt473.1 bt473.2).bind fun bt478 => ((laws_eqTable.f k bt478.1 bt478.2.1 bt467.1 bt467.2.1).bind fun t484 => (if t484 = true then (if bt478.2.2 = bt467.2.2 then ((laws_toTable.f k a0_0 l0_1).bind fun bt485 => ((laws_eqTable.f k bt473.1 bt473.2 bt485.1 bt485.2).bind fun t489 => (if t489 = true then ((laws_markTable.f bt473.1 bt473.2 1).bind fun bt490 => (if bt490.1 < 0 then (none) else ((laws_eqTable.f k bt478.1 bt478.2.1 bt467.1 bt467.2.1).bind fun t492 => (if t492 = true then ((laws_markTable.f bt478.1 bt478.2.1 1).bind fun bt493 => ((laws_heldTable.f bt478.1 bt493.2 1).bind fun t495 => (if t495 < 0 then (none) else (if t495 = bt493.1 then ((laws_toTable.f k a0_0 l0_1).bind fun bt496 => ((impl_TableGrow.f k bt496.1 bt496.2).bind fun bt500 => ((laws_eqTable.f k bt500.1 bt500.2.1 bt467.1 bt467.2.1).bind fun t506 => (if t506 = true then (if bt500.2.2 = bt467.2.2 then ((laws_heldTable.f bt478.1 bt493.2 1).bind fun t507 => (if t507 < 0 then (none) else (if t507 = bt493.1 then (some true) else (none)))) else (none)) else (none))))) else (none))))) else (none))))) else (none)))) else (none)) else (none)))))))) = some r := H
 have A2 := Gv.a0 A20
 clear A20
 by_cases c3 : t462 < 0
 ·rw [if_pos c3] at H
  have c3b0 : decide (t462 < 0) = true := decide_eq_true c3
  clear c3
  obtain rfl := Option.some.inj H
  go_enter Try.func9, Try.ntmps9
  go_wp2_with (first | ((with_reducible refine gate_dst (N := 1) rfl ?_); refine box_event ?hg (N := 1) ?hd (cs := #[.int .i64 a0_0, .slice A0_1 l0_1.length c0_1]) (t := 47) ?hr ?_; (case hd => rfl); (case hg => rfl); (case hr => first | (go_simp; done) | (go_simp; rfl)); intro gb461 hg w4 hbox hb; have BK461 := Gv.a0 (hbox); have GW461 := Gv.a0 ((Gv.ble hg Gv.bw : w.heap.size ≤ gb461)); have GE461 := Gv.a0 ((Gv.ble hg Gv.bw : w.heap.size ≤ gb461)); replace HB := Gv.a0 (below_step Gv.bw hb); clear hb hbox hg; have hcz5_0 : w4.cell? ⟨gb461, 0, none⟩ = some (.int .i64 a0_0) := (blk_cell BK461.out 0).trans rfl; have hcz5_1 : w4.cell? ⟨gb461, 1, none⟩ = some (.slice A0_1 l0_1.length c0_1) := (blk_cell BK461.out 1).trans rfl; have hfz5_0 := blk_frozen BK461.out 0; have hfz5_1 := blk_frozen BK461.out 1) | ((with_reducible refine gate_callee (f := 23) rfl ?_); refine goesL_ (some 16) rfl rfl Try.func23 (by kernel_rfl) rfl #[.agg #[.int .i64 a0_0, .slice A0_1 l0_1.length c0_1], .int .i64 1048576] rfl Gv.lm ?_; (with_reducible refine (laws_szTable.calls a0_0 _ _ l0_1 1048576 t462 _ ?side1 ?side2 A2.out).mono ?_); (case side1 => repeat (first | exact (Kd.C_below HR0_1.out HB.out) | (with_reducible refine Kd.C_alloc ?_ _) | (with_reducible refine Kd.C_drewN ?_ _) | (with_reducible refine Kd.C_drew ?_))); (case side2 => exact HC0_1.out); rintro e w6 ⟨rfl, hb⟩; refine ⟨_, rfl, ?_⟩; replace BK461 := Gv.a0 (Gv.bb BK461.out hb); replace HB := Gv.a0 (below_step Gv.bw hb); clear hb))
  go_ret
  exact ⟨Gv.rt, Gv.bw⟩
 ·rw [if_neg c3] at H
  have c3b0 : decide (t462 < 0) = false := decide_eq_false c3
  clear c3
  replace H := Option.bind_eq_some_iff.mp H
  obtain ⟨⟨t463, t464⟩, A70, H⟩ := H
  replace H : ((spec_TableGrow.f k t463 t464).bind fun bt467 => ((laws_toTable.f k a0_0 l0_1).bind fun bt473 => ((impl_TableGrow.f k bt473.1 bt473.2).bind fun bt478 => ((laws_eqTable.f k bt478.1 bt478.2.1 bt467.1 bt467.2.1).bind fun t484 => (if t484 = true then (if bt478.2.2 = bt467.2.2 then ((laws_toTable.f k a0_0 l0_1).bind fun bt485 => ((laws_eqTable.f k bt473.1 bt473.2 bt485.1 bt485.2).bind fun t489 => (if t489 = true then ((laws_markTable.f bt473.1 bt473.2 1).bind fun bt490 => (if bt490.1 < 0 then (none) else ((laws_eqTable.f k bt478.1 bt478.2.1 bt467.1 bt467.2.1).bind fun t492 => (if t492 = true then ((laws_markTable.f bt478.1 bt478.2.1 1).bind fun bt493 => ((laws_heldTable.f bt478.1 bt493.2 1).bind fun t495 => (if t495 < 0 then (none) else (if t495 = bt493.1 then ((laws_toTable.f k a0_0 l0_1).bind fun bt496 => ((impl_TableGrow.f k bt496.1 bt496.2).bind fun bt500 => ((laws_eqTable.f k bt500.1 bt500.2.1 bt467.1 bt467.2.1).bind fun t506 => (if t506 = true then (if bt500.2.2 = bt467.2.2 then ((laws_heldTable.f bt478.1 bt493.2 1).bind fun t507 => (if t507 < 0 then (none) else (if t507 = bt493.1 then (some true) else (none)))) else (none)) else (none))))) else (none))))) else (none))))) else (none)))) else (none)) else (none)))))) = some r := H
  have A7 := Gv.a0 A70
  clear A70
  replace H := Option.bind_eq_some_iff.mp H
  obtain ⟨⟨t467, t468, t471⟩, A80, H⟩ := H
  replace H : ((laws_toTable.f k a0_0 l0_1).bind fun bt473 => ((impl_TableGrow.f k bt473.1 bt473.2).bind fun bt478 => ((laws_eqTable.f k bt478.1 bt478.2.1 t467 t468).bind fun t484 => (if t484 = true then (if bt478.2.2 = t471 then ((laws_toTable.f k a0_0 l0_1).bind fun bt485 => ((laws_eqTable.f k bt473.1 bt473.2 bt485.1 bt485.2).bind fun t489 => (if t489 = true then ((laws_markTable.f bt473.1 bt473.2 1).bind fun bt490 => (if bt490.1 < 0 then (none) else ((laws_eqTable.f k bt478.1 bt478.2.1 t467 t468).bind fun t492 => (if t492 = true then ((laws_markTable.f bt478.1 bt478.2.1 1).bind fun bt493 => ((laws_heldTable.f bt478.1 bt493.2 1).bind fun t495 => (if t495 < 0 then (none) else (if t495 = bt493.1 then ((laws_toTable.f k a0_0 l0_1).bind fun bt496 => ((impl_TableGrow.f k bt496.1 bt496.2).bind fun bt500 => ((laws_eqTable.f k bt500.1 bt500.2.1 t467 t468).bind fun t506 => (if t506 = true then (if bt500.2.2 = t471 then ((laws_heldTable.f bt478.1 bt493.2 1).bind fun t507 => (if t507 < 0 then (none) else (if t507 = bt493.1 then (some true) else (none)))) else (none)) else (none))))) else (none))))) else (none))))) else (none)))) else (none)) else (none))))) = some r := H
  have A8 := Gv.a0 A80
  clear A80
  replace H := Option.bind_eq_some_iff.mp H
  obtain ⟨⟨t473, t474⟩, A90, H⟩ := H
  replace H : ((impl_TableGrow.f k t473 t474).bind fun bt478 => ((laws_eqTable.f k bt478.1 bt478.2.1 t467 t468).bind fun t484 => (if t484 = true then (if bt478.2.2 = t471 then ((laws_toTable.f k a0_0 l0_1).bind fun bt485 => ((laws_eqTable.f k t473 t474 bt485.1 bt485.2).bind fun t489 => (if t489 = true then ((laws_markTable.f t473 t474 1).bind fun bt490 => (if bt490.1 < 0 then (none) else ((laws_eqTable.f k bt478.1 bt478.2.1 t467 t468).bind fun t492 => (if t492 = true then ((laws_markTable.f bt478.1 bt478.2.1 1).bind fun bt493 => ((laws_heldTable.f bt478.1 bt493.2 1).bind fun t495 => (if t495 < 0 then (none) else (if t495 = bt493.1 then ((laws_toTable.f k a0_0 l0_1).bind fun bt496 => ((impl_TableGrow.f k bt496.1 bt496.2).bind fun bt500 => ((laws_eqTable.f k bt500.1 bt500.2.1 t467 t468).bind fun t506 => (if t506 = true then (if bt500.2.2 = t471 then ((laws_heldTable.f bt478.1 bt493.2 1).bind fun t507 => (if t507 < 0 then (none) else (if t507 = bt493.1 then (some true) else (none)))) else (none)) else (none))))) else (none))))) else (none))))) else (none)))) else (none)) else (none)))) = some r := H
  have A9 := Gv.a0 A90
  clear A90
  replace H := Option.bind_eq_some_iff.mp H
  obtain ⟨⟨t478, t479, t482⟩, A100, H⟩ := H
  replace H : ((laws_eqTable.f k t478 t479 t467 t468).bind fun t484 => (if t484 = true then (if t482 = t471 then ((laws_toTable.f k a0_0 l0_1).bind fun bt485 => ((laws_eqTable.f k t473 t474 bt485.1 bt485.2).bind fun t489 => (if t489 = true then ((laws_markTable.f t473 t474 1).bind fun bt490 => (if bt490.1 < 0 then (none) else ((laws_eqTable.f k t478 t479 t467 t468).bind fun t492 => (if t492 = true then ((laws_markTable.f t478 t479 1).bind fun bt493 => ((laws_heldTable.f t478 bt493.2 1).bind fun t495 => (if t495 < 0 then (none) else (if t495 = bt493.1 then ((laws_toTable.f k a0_0 l0_1).bind fun bt496 => ((impl_TableGrow.f k bt496.1 bt496.2).bind fun bt500 => ((laws_eqTable.f k bt500.1 bt500.2.1 t467 t468).bind fun t506 => (if t506 = true then (if bt500.2.2 = t471 then ((laws_heldTable.f t478 bt493.2 1).bind fun t507 => (if t507 < 0 then (none) else (if t507 = bt493.1 then (some true) else (none)))) else (none)) else (none))))) else (none))))) else (none))))) else (none)))) else (none)) else (none))) = some r := H
  have A10 := Gv.a0 A100
  clear A100
  replace H := Option.bind_eq_some_iff.mp H
  obtain ⟨t484, A110, H⟩ := H
  replace H : (if t484 = true then (if t482 = t471 then ((laws_toTable.f k a0_0 l0_1).bind fun bt485 => ((laws_eqTable.f k t473 t474 bt485.1 bt485.2).bind fun t489 => (if t489 = true then ((laws_markTable.f t473 t474 1).bind fun bt490 => (if bt490.1 < 0 then (none) else ((laws_eqTable.f k t478 t479 t467 t468).bind fun t492 => (if t492 = true then ((laws_markTable.f t478 t479 1).bind fun bt493 => ((laws_heldTable.f t478 bt493.2 1).bind fun t495 => (if t495 < 0 then (none) else (if t495 = bt493.1 then ((laws_toTable.f k a0_0 l0_1).bind fun bt496 => ((impl_TableGrow.f k bt496.1 bt496.2).bind fun bt500 => ((laws_eqTable.f k bt500.1 bt500.2.1 t467 t468).bind fun t506 => (if t506 = true then (if bt500.2.2 = t471 then ((laws_heldTable.f t478 bt493.2 1).bind fun t507 => (if t507 < 0 then (none) else (if t507 = bt493.1 then (some true) else (none)))) else (none)) else (none))))) else (none))))) else (none))))) else (none)))) else (none)) else (none)) = some r := H
  have A11 := Gv.a0 A110
  clear A110
  by_cases c12 : t484 = true
  ·subst c12
   have H1 : (if t482 = t471 then ((laws_toTable.f k a0_0 l0_1).bind fun bt485 => ((laws_eqTable.f k t473 t474 bt485.1 bt485.2).bind fun t489 => (if t489 = true then ((laws_markTable.f t473 t474 1).bind fun bt490 => (if bt490.1 < 0 then (none) else ((laws_eqTable.f k t478 t479 t467 t468).bind fun t492 => (if t492 = true then ((laws_markTable.f t478 t479 1).bind fun bt493 => ((laws_heldTable.f t478 bt493.2 1).bind fun t495 => (if t495 < 0 then (none) else (if t495 = bt493.1 then ((laws_toTable.f k a0_0 l0_1).bind fun bt496 => ((impl_TableGrow.f k bt496.1 bt496.2).bind fun bt500 => ((laws_eqTable.f k bt500.1 bt500.2.1 t467 t468).bind fun t506 => (if t506 = true then (if bt500.2.2 = t471 then ((laws_heldTable.f t478 bt493.2 1).bind fun t507 => (if t507 < 0 then (none) else (if t507 = bt493.1 then (some true) else (none)))) else (none)) else (none))))) else (none))))) else (none))))) else (none)))) else (none)) = some r := by rw [if_pos rfl] at H; exact H
   clear H
   have H := H1
   clear H1
   by_cases c13 : t482 = t471
   ·rw [if_pos c13] at H
    have c13b0 : (t482 == t471) = true := beq_iff_eq.mpr c13
    have c13b1 : (t482 != t471) = false := bne_eq_false_iff_eq.mpr c13
    clear c13
    replace H := Option.bind_eq_some_iff.mp H
    obtain ⟨⟨t485, t486⟩, A140, H⟩ := H
    replace H : ((laws_eqTable.f k t473 t474 t485 t486).bind fun t489 => (if t489 = true then ((laws_markTable.f t473 t474 1).bind fun bt490 => (if bt490.1 < 0 then (none) else ((laws_eqTable.f k t478 t479 t467 t468).bind fun t492 => (if t492 = true then ((laws_markTable.f t478 t479 1).bind fun bt493 => ((laws_heldTable.f t478 bt493.2 1).bind fun t495 => (if t495 < 0 then (none) else (if t495 = bt493.1 then ((laws_toTable.f k a0_0 l0_1).bind fun bt496 => ((impl_TableGrow.f k bt496.1 bt496.2).bind fun bt500 => ((laws_eqTable.f k bt500.1 bt500.2.1 t467 t468).bind fun t506 => (if t506 = true then (if bt500.2.2 = t471 then ((laws_heldTable.f t478 bt493.2 1).bind fun t507 => (if t507 < 0 then (none) else (if t507 = bt493.1 then (some true) else (none)))) else (none)) else (none))))) else (none))))) else (none))))) else (none))) = some r := H
    have A14 := Gv.a0 A140
    clear A140
    replace H := Option.bind_eq_some_iff.mp H
    obtain ⟨t489, A150, H⟩ := H
    replace H : (if t489 = true then ((laws_markTable.f t473 t474 1).bind fun bt490 => (if bt490.1 < 0 then (none) else ((laws_eqTable.f k t478 t479 t467 t468).bind fun t492 => (if t492 = true then ((laws_markTable.f t478 t479 1).bind fun bt493 => ((laws_heldTable.f t478 bt493.2 1).bind fun t495 => (if t495 < 0 then (none) else (if t495 = bt493.1 then ((laws_toTable.f k a0_0 l0_1).bind fun bt496 => ((impl_TableGrow.f k bt496.1 bt496.2).bind fun bt500 => ((laws_eqTable.f k bt500.1 bt500.2.1 t467 t468).bind fun t506 => (if t506 = true then (if bt500.2.2 = t471 then ((laws_heldTable.f t478 bt493.2 1).bind fun t507 => (if t507 < 0 then (none) else (if t507 = bt493.1 then (some true) else (none)))) else (none)) else (none))))) else (none))))) else (none))))) else (none)) = some r := H
    have A15 := Gv.a0 A150
    clear A150
    by_cases c16 : t489 = true
    ·subst c16
     have H1 : ((laws_markTable.f t473 t474 1).bind fun bt490 => (if bt490.1 < 0 then (none) else ((laws_eqTable.f k t478 t479 t467 t468).bind fun t492 => (if t492 = true then ((laws_markTable.f t478 t479 1).bind fun bt493 => ((laws_heldTable.f t478 bt493.2 1).bind fun t495 => (if t495 < 0 then (none) else (if t495 = bt493.1 then ((laws_toTable.f k a0_0 l0_1).bind fun bt496 => ((impl_TableGrow.f k bt496.1 bt496.2).bind fun bt500 => ((laws_eqTable.f k bt500.1 bt500.2.1 t467 t468).bind fun t506 => (if t506 = true then (if bt500.2.2 = t471 then ((laws_heldTable.f t478 bt493.2 1).bind fun t507 => (if t507 < 0 then (none) else (if t507 = bt493.1 then (some true) else (none)))) else (none)) else (none))))) else (none))))) else (none))))) = some r := by rw [if_pos rfl] at H; exact H
     clear H
     have H := H1
     clear H1
     replace H := Option.bind_eq_some_iff.mp H
     obtain ⟨⟨t490, t491⟩, A170, H⟩ := H
     replace H : (if t490 < 0 then (none) else ((laws_eqTable.f k t478 t479 t467 t468).bind fun t492 => (if t492 = true then ((laws_markTable.f t478 t479 1).bind fun bt493 => ((laws_heldTable.f t478 bt493.2 1).bind fun t495 => (if t495 < 0 then (none) else (if t495 = bt493.1 then ((laws_toTable.f k a0_0 l0_1).bind fun bt496 => ((impl_TableGrow.f k bt496.1 bt496.2).bind fun bt500 => ((laws_eqTable.f k bt500.1 bt500.2.1 t467 t468).bind fun t506 => (if t506 = true then (if bt500.2.2 = t471 then ((laws_heldTable.f t478 bt493.2 1).bind fun t507 => (if t507 < 0 then (none) else (if t507 = bt493.1 then (some true) else (none)))) else (none)) else (none))))) else (none))))) else (none)))) = some r := H
     have A17 := Gv.a0 A170
     clear A170
     by_cases c18 : t490 < 0
     ·rw [if_pos c18] at H
      exact absurd H (by simp)
     ·rw [if_neg c18] at H
      have c18b0 : decide (t490 < 0) = false := decide_eq_false c18
      clear c18
      replace H := Option.bind_eq_some_iff.mp H
      obtain ⟨t492, A190, H⟩ := H
      replace H : (if t492 = true then ((laws_markTable.f t478 t479 1).bind fun bt493 => ((laws_heldTable.f t478 bt493.2 1).bind fun t495 => (if t495 < 0 then (none) else (if t495 = bt493.1 then ((laws_toTable.f k a0_0 l0_1).bind fun bt496 => ((impl_TableGrow.f k bt496.1 bt496.2).bind fun bt500 => ((laws_eqTable.f k bt500.1 bt500.2.1 t467 t468).bind fun t506 => (if t506 = true then (if bt500.2.2 = t471 then ((laws_heldTable.f t478 bt493.2 1).bind fun t507 => (if t507 < 0 then (none) else (if t507 = bt493.1 then (some true) else (none)))) else (none)) else (none))))) else (none))))) else (none)) = some r := H
      have A19 := Gv.a0 A190
      clear A190
      by_cases c20 : t492 = true
      ·subst c20
       have H1 : ((laws_markTable.f t478 t479 1).bind fun bt493 => ((laws_heldTable.f t478 bt493.2 1).bind fun t495 => (if t495 < 0 then (none) else (if t495 = bt493.1 then ((laws_toTable.f k a0_0 l0_1).bind fun bt496 => ((impl_TableGrow.f k bt496.1 bt496.2).bind fun bt500 => ((laws_eqTable.f k bt500.1 bt500.2.1 t467 t468).bind fun t506 => (if t506 = true then (if bt500.2.2 = t471 then ((laws_heldTable.f t478 bt493.2 1).bind fun t507 => (if t507 < 0 then (none) else (if t507 = bt493.1 then (some true) else (none)))) else (none)) else (none))))) else (none))))) = some r := by rw [if_pos rfl] at H; exact H
       clear H
       have H := H1
       clear H1
       replace H := Option.bind_eq_some_iff.mp H
       obtain ⟨⟨t493, t494⟩, A210, H⟩ := H
       replace H : ((laws_heldTable.f t478 t494 1).bind fun t495 => (if t495 < 0 then (none) else (if t495 = t493 then ((laws_toTable.f k a0_0 l0_1).bind fun bt496 => ((impl_TableGrow.f k bt496.1 bt496.2).bind fun bt500 => ((laws_eqTable.f k bt500.1 bt500.2.1 t467 t468).bind fun t506 => (if t506 = true then (if bt500.2.2 = t471 then ((laws_heldTable.f t478 t494 1).bind fun t507 => (if t507 < 0 then (none) else (if t507 = t493 then (some true) else (none)))) else (none)) else (none))))) else (none)))) = some r := H
       have A21 := Gv.a0 A210
       clear A210
       replace H := Option.bind_eq_some_iff.mp H
       obtain ⟨t495, A220, H⟩ := H
       replace H : (if t495 < 0 then (none) else (if t495 = t493 then ((laws_toTable.f k a0_0 l0_1).bind fun bt496 => ((impl_TableGrow.f k bt496.1 bt496.2).bind fun bt500 => ((laws_eqTable.f k bt500.1 bt500.2.1 t467 t468).bind fun t506 => (if t506 = true then (if bt500.2.2 = t471 then ((laws_heldTable.f t478 t494 1).bind fun t507 => (if t507 < 0 then (none) else (if t507 = t493 then (some true) else (none)))) else (none)) else (none))))) else (none))) = some r := H
       have A22 := Gv.a0 A220
       clear A220
       by_cases c23 : t495 < 0
       ·rw [if_pos c23] at H
        exact absurd H (by simp)
       ·rw [if_neg c23] at H
        have c23b0 : decide (t495 < 0) = false := decide_eq_false c23
        clear c23
        by_cases c24 : t495 = t493
        ·rw [if_pos c24] at H
         have c24b0 : (t495 == t493) = true := beq_iff_eq.mpr c24
         have c24b1 : (t495 != t493) = false := bne_eq_false_iff_eq.mpr c24
         clear c24
         replace H := Option.bind_eq_some_iff.mp H
         obtain ⟨⟨t496, t497⟩, A250, H⟩ := H
         replace H : ((impl_TableGrow.f k t496 t497).bind fun bt500 => ((laws_eqTable.f k bt500.1 bt500.2.1 t467 t468).bind fun t506 => (if t506 = true then (if bt500.2.2 = t471 then ((laws_heldTable.f t478 t494 1).bind fun t507 => (if t507 < 0 then (none) else (if t507 = t493 then (some true) else (none)))) else (none)) else (none)))) = some r := H
         have A25 := Gv.a0 A250
         clear A250
         replace H := Option.bind_eq_some_iff.mp H
         obtain ⟨⟨t500, t501, t504⟩, A260, H⟩ := H
         replace H : ((laws_eqTable.f k t500 t501 t467 t468).bind fun t506 => (if t506 = true then (if t504 = t471 then ((laws_heldTable.f t478 t494 1).bind fun t507 => (if t507 < 0 then (none) else (if t507 = t493 then (some true) else (none)))) else (none)) else (none))) = some r := H
         have A26 := Gv.a0 A260
         clear A260
         replace H := Option.bind_eq_some_iff.mp H
         obtain ⟨t506, A270, H⟩ := H
         replace H : (if t506 = true then (if t504 = t471 then ((laws_heldTable.f t478 t494 1).bind fun t507 => (if t507 < 0 then (none) else (if t507 = t493 then (some true) else (none)))) else (none)) else (none)) = some r := H
         have A27 := Gv.a0 A270
         clear A270
         by_cases c28 : t506 = true
         ·subst c28
          have H1 : (if t504 = t471 then ((laws_heldTable.f t478 t494 1).bind fun t507 => (if t507 < 0 then (none) else (if t507 = t493 then (some true) else (none)))) else (none)) = some r := by rw [if_pos rfl] at H; exact H
          clear H
          have H := H1
          clear H1
          by_cases c29 : t504 = t471
          ·rw [if_pos c29] at H
           have c29b0 : (t504 == t471) = true := beq_iff_eq.mpr c29
           have c29b1 : (t504 != t471) = false := bne_eq_false_iff_eq.mpr c29
           clear c29
           replace H := Option.bind_eq_some_iff.mp H
           obtain ⟨t507, A300, H⟩ := H
           replace H : (if t507 < 0 then (none) else (if t507 = t493 then (some true) else (none))) = some r := H
           have A30 := Gv.a0 A300
           clear A300
           by_cases c31 : t507 < 0
           ·rw [if_pos c31] at H
            exact absurd H (by simp)
           ·rw [if_neg c31] at H
            have c31b0 : decide (t507 < 0) = false := decide_eq_false c31
            clear c31
            by_cases c32 : t507 = t493
            ·rw [if_pos c32] at H
             have c32b0 : (t507 == t493) = true := beq_iff_eq.mpr c32
             have c32b1 : (t507 != t493) = false := bne_eq_false_iff_eq.mpr c32
             clear c32
             obtain rfl := Option.some.inj H
             go_enter Try.func9, Try.ntmps9
             try go_wp2_with (first | ((with_reducible refine gate_dst (N := 1) rfl ?_); refine box_event ?hg (N := 1) ?hd (cs := #[.int .i64 a0_0, .slice A0_1 l0_1.length c0_1]) (t := 47) ?hr ?_; (case hd => rfl); (case hg => rfl); (case hr => first | (go_simp; done) | (go_simp; rfl)); intro gb461 hg w33 hbox hb; have BK461 := Gv.a0 (hbox); have GW461 := Gv.a0 ((Gv.ble hg Gv.bw : w.heap.size ≤ gb461)); have GE461 := Gv.a0 ((Gv.ble hg Gv.bw : w.heap.size ≤ gb461)); replace HB := Gv.a0 (below_step Gv.bw hb); clear hb hbox hg; have hcz34_0 : w33.cell? ⟨gb461, 0, none⟩ = some (.int .i64 a0_0) := (blk_cell BK461.out 0).trans rfl; have hcz34_1 : w33.cell? ⟨gb461, 1, none⟩ = some (.slice A0_1 l0_1.length c0_1) := (blk_cell BK461.out 1).trans rfl; have hfz34_0 := blk_frozen BK461.out 0; have hfz34_1 := blk_frozen BK461.out 1) | ((with_reducible refine gate_callee (f := 23) rfl ?_); refine goesL_ (some 16) rfl rfl Try.func23 (by kernel_rfl) rfl #[.agg #[.int .i64 a0_0, .slice A0_1 l0_1.length c0_1], .int .i64 1048576] rfl Gv.lm ?_; (with_reducible refine (laws_szTable.calls a0_0 _ _ l0_1 1048576 t462 _ ?side1 ?side2 A2.out).mono ?_); (case side1 => repeat (first | exact (Kd.C_below HR0_1.out HB.out) | (with_reducible refine Kd.C_alloc ?_ _) | (with_reducible refine Kd.C_drewN ?_ _) | (with_reducible refine Kd.C_drew ?_))); (case side2 => exact HC0_1.out); rintro e w35 ⟨rfl, hb⟩; refine ⟨_, rfl, ?_⟩; replace BK461 := Gv.a0 (Gv.bb BK461.out hb); replace HB := Gv.a0 (below_step Gv.bw hb); clear hb; have hcz36_0 : w35.cell? ⟨gb461, 0, none⟩ = some (.int .i64 a0_0) := (blk_cell BK461.out 0).trans rfl; have hcz36_1 : w35.cell? ⟨gb461, 1, none⟩ = some (.slice A0_1 l0_1.length c0_1) := (blk_cell BK461.out 1).trans rfl; have hfz36_0 := blk_frozen BK461.out 0; have hfz36_1 := blk_frozen BK461.out 1) | ((with_reducible refine gate_callee (f := 25) rfl ?_); refine goesL_ (some 21) rfl rfl Try.func25 (by kernel_rfl) rfl #[.agg #[.int .i64 a0_0, .slice A0_1 l0_1.length c0_1]] rfl Gv.lm ?_; (with_reducible refine (laws_toTable.calls k a0_0 _ _ l0_1 t463 t464 _ ?side1 ?side2 A7.out).mono ?_); (case side1 => repeat (first | exact (Kd.C_below HR0_1.out HB.out) | (with_reducible refine Kd.C_alloc ?_ _) | (with_reducible refine Kd.C_drewN ?_ _) | (with_reducible refine Kd.C_drew ?_))); (case side2 => exact HC0_1.out); rintro e w37 ⟨v465, rfl, ho0, hb⟩; refine ⟨_, rfl, ?_⟩; have HO466 := Gv.a0 (Kd.R_lower ho0 (below_size Gv.bw)); replace BK461 := Gv.a0 (Gv.bb BK461.out hb); replace HB := Gv.a0 (below_step Gv.bw hb); clear hb ho0; obtain ⟨Ao38, co38, eo38⟩ := Kd.R_slice HO466.out; subst eo38) | ((with_reducible refine gate_callee (f := 31) rfl ?_); refine goesL_ (some 22) rfl rfl Try.func31 (by kernel_rfl) rfl #[.agg #[.int .i64 t463, .slice Ao38 t464.length co38]] rfl Gv.lm ?_; (with_reducible refine (spec_TableGrow.calls k t463 _ _ t464 t467 t468 t471 _ ?side1 ?side2 A8.out).mono ?_); (case side1 => repeat (first | exact (Kd.R_reads' HO466.out).2.2 | (with_reducible refine Kd.C_alloc ?_ _) | (with_reducible refine Kd.C_drewN ?_ _) | (with_reducible refine Kd.C_drew ?_))); (case side2 => exact (Kd.R_reads' HO466.out).2.1); rintro e w39 ⟨v469, rfl, ho0, hb⟩; refine ⟨_, rfl, ?_⟩; have HO470 := Gv.a0 (Kd.R_lower (Kd.R_new' ho0 (Kd.R_lt (Gv.kr HO466.out))) (below_size Gv.bw)); replace HO466 := Gv.a0 (Kd.R_elder' (Gv.kr HO466.out) (Kd.R_base ho0) hb); replace BK461 := Gv.a0 (Gv.bb BK461.out hb); replace HB := Gv.a0 (below_step Gv.bw hb); clear hb ho0) | ((with_reducible refine gate_dst (N := 4) rfl ?_); refine box_event ?hg (N := 4) ?hd (cs := #[.int .i64 0, .slice none 0 0]) (t := 40) ?hr ?_; (case hd => rfl); (case hg => rfl); (case hr => first | (go_simp; done) | (go_simp; rfl)); intro gb472 hg w40 hbox hb; replace HO466 := Gv.a0 (Kd.R_below (Gv.kr HO466.out) hb); replace HO470 := Gv.a0 (Kd.R_below (Gv.kr HO470.out) hb); have BK472 := Gv.a0 (hbox); have GW472 := Gv.a0 ((Gv.ble hg Gv.bw : w.heap.size ≤ gb472)); have GE472 := Gv.a0 ((Gv.ble hg Gv.bw : w.heap.size ≤ gb472)); replace HB := Gv.a0 (below_step Gv.bw hb); have NB461_472 := Gv.a0 ((Gv.nlt hg (Gv.kb BK461.out) : gb461 ≠ gb472)); have NB472_461 := Gv.a0 ((Gv.ngt hg (Gv.kb BK461.out) : gb472 ≠ gb461)); replace BK461 := Gv.a0 (Gv.bb BK461.out hb); clear hb hbox hg; have hnb41 := NB472_461.out; have hnc41 := NB461_472.out; have hcz42_0 : w40.cell? ⟨gb472, 0, none⟩ = some (.int .i64 0) := (blk_cell BK472.out 0).trans rfl; have hcz42_1 : w40.cell? ⟨gb472, 1, none⟩ = some (.slice none 0 0) := (blk_cell BK472.out 1).trans rfl; have hfz42_0 := blk_frozen BK472.out 0; have hfz42_1 := blk_frozen BK472.out 1; obtain ⟨Ao43, co43, eo43⟩ := Kd.R_slice HO470.out; subst eo43; have hcz44_0 : w40.cell? ⟨gb461, 0, none⟩ = some (.int .i64 a0_0) := (blk_cell BK461.out 0).trans rfl; have hcz44_1 : w40.cell? ⟨gb461, 1, none⟩ = some (.slice A0_1 l0_1.length c0_1) := (blk_cell BK461.out 1).trans rfl; have hfz44_0 := blk_frozen BK461.out 0; have hfz44_1 := blk_frozen BK461.out 1) | ((with_reducible refine gate_callee (f := 25) rfl ?_); refine goesL_ (some 26) rfl rfl Try.func25 (by kernel_rfl) rfl #[.agg #[.int .i64 a0_0, .slice A0_1 l0_1.length c0_1]] rfl Gv.lm ?_; (with_reducible refine (laws_toTable.calls k a0_0 _ _ l0_1 t473 t474 _ ?side1 ?side2 A9.out).mono ?_); (case side1 => exact Kd.C_below HR0_1.out Gv.bw); (case side2 => exact HC0_1.out); rintro e w45 ⟨v475, rfl, ho0, hb⟩; refine ⟨_, rfl, ?_⟩; have HO476 := Gv.a0 (Kd.R_lower (Kd.R_new' (Kd.R_new' ho0 (Kd.R_lt (by (with_reducible repeat (first | apply Kd.R_alloc | apply Kd.R_drewN | apply Kd.R_drew)); exact (Kd.R_mono (Kd.R_far (p := ⟨gb472, 1, none⟩) (Kd.R_far (p := ⟨gb472, 0, none⟩) (Kd.R_types HO466.out BK472.out (by decide)) (fun _ hk => hk.2) (.int .i64 t467)) (fun _ hk => hk.2) (.slice Ao43 t468.length co43)) (fun _ h_ => h_.1))))) (Kd.R_lt (by (with_reducible repeat (first | apply Kd.R_alloc | apply Kd.R_drewN | apply Kd.R_drew)); exact (Kd.R_mono (Kd.R_far (p := ⟨gb472, 1, none⟩) (Kd.R_far (p := ⟨gb472, 0, none⟩) (Kd.R_types HO470.out BK472.out (by decide)) (fun _ hk => hk.2) (.int .i64 t467)) (fun _ hk => hk.2) (.slice Ao43 t468.length co43)) (fun _ h_ => h_.1))))) (below_size Gv.bw)); replace HO466 := Gv.a0 (Kd.R_elder' (by (with_reducible repeat (first | apply Kd.R_alloc | apply Kd.R_drewN | apply Kd.R_drew)); exact (Kd.R_mono (Kd.R_far (p := ⟨gb472, 1, none⟩) (Kd.R_far (p := ⟨gb472, 0, none⟩) (Kd.R_types HO466.out BK472.out (by decide)) (fun _ hk => hk.2) (.int .i64 t467)) (fun _ hk => hk.2) (.slice Ao43 t468.length co43)) (fun _ h_ => h_.1))) (Kd.R_base ho0) hb); replace HO470 := Gv.a0 (Kd.R_elder' (by (with_reducible repeat (first | apply Kd.R_alloc | apply Kd.R_drewN | apply Kd.R_drew)); exact (Kd.R_mono (Kd.R_far (p := ⟨gb472, 1, none⟩) (Kd.R_far (p := ⟨gb472, 0, none⟩) (Kd.R_types HO470.out BK472.out (by decide)) (fun _ hk => hk.2) (.int .i64 t467)) (fun _ hk => hk.2) (.slice Ao43 t468.length co43)) (fun _ h_ => h_.1))) (Kd.R_base ho0) hb); replace BK461 := Gv.a0 (blk_below (g := gb461) (o := .cells #[.int .i64 a0_0, .slice A0_1 l0_1.length c0_1] 47 (0, 0)) Gv.bkf hb); replace BK472 := Gv.a0 (blk_below (g := gb472) (o := .cells #[.int .i64 t467, .slice Ao43 t468.length co43] 40 (0, 0)) (by (with_reducible repeat (first | refine blk_drewN ?_ _ | refine blk_drew ?_ | refine blk_alloc ?_ _)); refine blk_put (cs := #[.int .i64 t467, .slice none 0 0]) ?_ 1 _ rfl; (with_reducible repeat (first | refine blk_drewN ?_ _ | refine blk_drew ?_ | refine blk_alloc ?_ _)); refine blk_put (cs := #[.int .i64 0, .slice none 0 0]) ?_ 0 _ rfl; (with_reducible repeat (first | refine blk_drewN ?_ _ | refine blk_drew ?_ | refine blk_alloc ?_ _)); exact BK472.out) hb); replace HB := Gv.a0 (below_step Gv.bw hb); clear hb ho0) | ((with_reducible refine gate_dst (N := 6) rfl ?_); refine box_event ?hg (N := 6) ?hd (cs := #[.int .i64 0, .slice none 0 0]) (t := 40) ?hr ?_; (case hd => rfl); (case hg => rfl); (case hr => first | (go_simp; done) | (go_simp; rfl)); intro gb477 hg w46 hbox hb; replace HO466 := Gv.a0 (Kd.R_below (Gv.kr HO466.out) hb); replace HO470 := Gv.a0 (Kd.R_below (Gv.kr HO470.out) hb); replace HO476 := Gv.a0 (Kd.R_below (Gv.kr HO476.out) hb); have BK477 := Gv.a0 (hbox); have GW477 := Gv.a0 ((Gv.ble hg Gv.bw : w.heap.size ≤ gb477)); have GE477 := Gv.a0 ((Gv.ble hg Gv.bw : w.heap.size ≤ gb477)); replace HB := Gv.a0 (below_step Gv.bw hb); have NB461_477 := Gv.a0 ((Gv.nlt hg (Gv.kb BK461.out) : gb461 ≠ gb477)); have NB477_461 := Gv.a0 ((Gv.ngt hg (Gv.kb BK461.out) : gb477 ≠ gb461)); replace BK461 := Gv.a0 (Gv.bb BK461.out hb); have NB472_477 := Gv.a0 ((Gv.nlt hg (Gv.kb BK472.out) : gb472 ≠ gb477)); have NB477_472 := Gv.a0 ((Gv.ngt hg (Gv.kb BK472.out) : gb477 ≠ gb472)); replace BK472 := Gv.a0 (Gv.bb BK472.out hb); clear hb hbox hg; have hnb47 := NB477_461.out; have hnc47 := NB461_477.out; have hnb48 := NB477_472.out; have hnc48 := NB472_477.out; have hcz49_0 : w46.cell? ⟨gb477, 0, none⟩ = some (.int .i64 0) := (blk_cell BK477.out 0).trans rfl; have hcz49_1 : w46.cell? ⟨gb477, 1, none⟩ = some (.slice none 0 0) := (blk_cell BK477.out 1).trans rfl; have hfz49_0 := blk_frozen BK477.out 0; have hfz49_1 := blk_frozen BK477.out 1; obtain ⟨Ao50, co50, eo50⟩ := Kd.R_slice HO476.out; subst eo50) | ((with_reducible refine gate_callee (f := 32) rfl ?_); refine goesL_ (some 29) rfl rfl Try.func32 (by kernel_rfl) rfl #[.agg #[.int .i64 t473, .slice Ao50 t474.length co50]] rfl Gv.lm ?_; (with_reducible refine (impl_TableGrow.calls k t473 _ _ t474 t478 t479 t482 _ ?side1 ?side2 A10.out).mono ?_); (case side1 => refine (Kd.R_reads' (e := 75) (base := w.heap.size) (ok := fun k_ => ((True ∧ some k_ ≠ (.slice Ao38 t464.length co38 : Value).ownBlock) ∧ some k_ ≠ (.slice Ao43 t468.length co43 : Value).ownBlock)) (n := t474.length) (c := co50) ?_).2.2; exact (by (with_reducible repeat (first | apply Kd.R_alloc | apply Kd.R_drewN | apply Kd.R_drew)); exact (Kd.R_mono (Kd.R_far (p := ⟨gb477, 1, none⟩) (Kd.R_far (p := ⟨gb477, 0, none⟩) (Kd.R_types HO476.out BK477.out (by decide)) (fun _ hk => hk.2) (.int .i64 t473)) (fun _ hk => hk.2) (.slice Ao50 t474.length co50)) (fun _ h_ => h_.1)))); (case side2 => exact (Kd.R_reads' HO476.out).2.1); rintro e w51 ⟨v480, rfl, ho0, hb⟩; refine ⟨_, rfl, ?_⟩; have HO481 := Gv.a0 (Kd.R_lower (Kd.R_new' (Kd.R_new' (Kd.R_new' ho0 (Kd.R_lt (by (with_reducible repeat (first | apply Kd.R_alloc | apply Kd.R_drewN | apply Kd.R_drew)); exact (Kd.R_mono (Kd.R_far (p := ⟨gb477, 1, none⟩) (Kd.R_far (p := ⟨gb477, 0, none⟩) (Kd.R_types HO466.out BK477.out (by decide)) (fun _ hk => hk.2) (.int .i64 t473)) (fun _ hk => hk.2) (.slice Ao50 t474.length co50)) (fun _ h_ => h_.1))))) (Kd.R_lt (by (with_reducible repeat (first | apply Kd.R_alloc | apply Kd.R_drewN | apply Kd.R_drew)); exact (Kd.R_mono (Kd.R_far (p := ⟨gb477, 1, none⟩) (Kd.R_far (p := ⟨gb477, 0, none⟩) (Kd.R_types HO470.out BK477.out (by decide)) (fun _ hk => hk.2) (.int .i64 t473)) (fun _ hk => hk.2) (.slice Ao50 t474.length co50)) (fun _ h_ => h_.1))))) (Kd.R_lt (by (with_reducible repeat (first | apply Kd.R_alloc | apply Kd.R_drewN | apply Kd.R_drew)); exact (Kd.R_mono (Kd.R_far (p := ⟨gb477, 1, none⟩) (Kd.R_far (p := ⟨gb477, 0, none⟩) (Kd.R_types HO476.out BK477.out (by decide)) (fun _ hk => hk.2) (.int .i64 t473)) (fun _ hk => hk.2) (.slice Ao50 t474.length co50)) (fun _ h_ => h_.1))))) (below_size Gv.bw)); replace HO466 := Gv.a0 (Kd.R_elder' (by (with_reducible repeat (first | apply Kd.R_alloc | apply Kd.R_drewN | apply Kd.R_drew)); exact (Kd.R_mono (Kd.R_far (p := ⟨gb477, 1, none⟩) (Kd.R_far (p := ⟨gb477, 0, none⟩) (Kd.R_types HO466.out BK477.out (by decide)) (fun _ hk => hk.2) (.int .i64 t473)) (fun _ hk => hk.2) (.slice Ao50 t474.length co50)) (fun _ h_ => h_.1))) (Kd.R_base ho0) hb); replace HO470 := Gv.a0 (Kd.R_elder' (by (with_reducible repeat (first | apply Kd.R_alloc | apply Kd.R_drewN | apply Kd.R_drew)); exact (Kd.R_mono (Kd.R_far (p := ⟨gb477, 1, none⟩) (Kd.R_far (p := ⟨gb477, 0, none⟩) (Kd.R_types HO470.out BK477.out (by decide)) (fun _ hk => hk.2) (.int .i64 t473)) (fun _ hk => hk.2) (.slice Ao50 t474.length co50)) (fun _ h_ => h_.1))) (Kd.R_base ho0) hb); replace HO476 := Gv.a0 (Kd.R_elder' (by (with_reducible repeat (first | apply Kd.R_alloc | apply Kd.R_drewN | apply Kd.R_drew)); exact (Kd.R_mono (Kd.R_far (p := ⟨gb477, 1, none⟩) (Kd.R_far (p := ⟨gb477, 0, none⟩) (Kd.R_types HO476.out BK477.out (by decide)) (fun _ hk => hk.2) (.int .i64 t473)) (fun _ hk => hk.2) (.slice Ao50 t474.length co50)) (fun _ h_ => h_.1))) (Kd.R_base ho0) hb); replace BK461 := Gv.a0 (blk_below (g := gb461) (o := .cells #[.int .i64 a0_0, .slice A0_1 l0_1.length c0_1] 47 (0, 0)) Gv.bkf hb); replace BK472 := Gv.a0 (blk_below (g := gb472) (o := .cells #[.int .i64 t467, .slice Ao43 t468.length co43] 40 (0, 0)) Gv.bkf hb); replace BK477 := Gv.a0 (blk_below (g := gb477) (o := .cells #[.int .i64 t473, .slice Ao50 t474.length co50] 40 (0, 0)) (by (with_reducible repeat (first | refine blk_drewN ?_ _ | refine blk_drew ?_ | refine blk_alloc ?_ _)); refine blk_put (cs := #[.int .i64 t473, .slice none 0 0]) ?_ 1 _ rfl; (with_reducible repeat (first | refine blk_drewN ?_ _ | refine blk_drew ?_ | refine blk_alloc ?_ _)); refine blk_put (cs := #[.int .i64 0, .slice none 0 0]) ?_ 0 _ rfl; (with_reducible repeat (first | refine blk_drewN ?_ _ | refine blk_drew ?_ | refine blk_alloc ?_ _)); exact BK477.out) hb); replace HB := Gv.a0 (below_step Gv.bw hb); clear hb ho0) | ((with_reducible refine gate_dst (N := 7) rfl ?_); refine box_event ?hg (N := 7) ?hd (cs := #[.int .i64 0, .slice none 0 0]) (t := 40) ?hr ?_; (case hd => rfl); (case hg => rfl); (case hr => first | (go_simp; done) | (go_simp; rfl)); intro gb483 hg w52 hbox hb; replace HO466 := Gv.a0 (Kd.R_below (Gv.kr HO466.out) hb); replace HO470 := Gv.a0 (Kd.R_below (Gv.kr HO470.out) hb); replace HO476 := Gv.a0 (Kd.R_below (Gv.kr HO476.out) hb); replace HO481 := Gv.a0 (Kd.R_below (Gv.kr HO481.out) hb); have BK483 := Gv.a0 (hbox); have GW483 := Gv.a0 ((Gv.ble hg Gv.bw : w.heap.size ≤ gb483)); have GE483 := Gv.a0 ((Gv.ble hg Gv.bw : w.heap.size ≤ gb483)); replace HB := Gv.a0 (below_step Gv.bw hb); have NB461_483 := Gv.a0 ((Gv.nlt hg (Gv.kb BK461.out) : gb461 ≠ gb483)); have NB483_461 := Gv.a0 ((Gv.ngt hg (Gv.kb BK461.out) : gb483 ≠ gb461)); replace BK461 := Gv.a0 (Gv.bb BK461.out hb); have NB472_483 := Gv.a0 ((Gv.nlt hg (Gv.kb BK472.out) : gb472 ≠ gb483)); have NB483_472 := Gv.a0 ((Gv.ngt hg (Gv.kb BK472.out) : gb483 ≠ gb472)); replace BK472 := Gv.a0 (Gv.bb BK472.out hb); have NB477_483 := Gv.a0 ((Gv.nlt hg (Gv.kb BK477.out) : gb477 ≠ gb483)); have NB483_477 := Gv.a0 ((Gv.ngt hg (Gv.kb BK477.out) : gb483 ≠ gb477)); replace BK477 := Gv.a0 (Gv.bb BK477.out hb); clear hb hbox hg; have hnb53 := NB483_461.out; have hnc53 := NB461_483.out; have hnb54 := NB483_472.out; have hnc54 := NB472_483.out; have hnb55 := NB483_477.out; have hnc55 := NB477_483.out; have hcz56_0 : w52.cell? ⟨gb483, 0, none⟩ = some (.int .i64 0) := (blk_cell BK483.out 0).trans rfl; have hcz56_1 : w52.cell? ⟨gb483, 1, none⟩ = some (.slice none 0 0) := (blk_cell BK483.out 1).trans rfl; have hfz56_0 := blk_frozen BK483.out 0; have hfz56_1 := blk_frozen BK483.out 1; obtain ⟨Ao57, co57, eo57⟩ := Kd.R_slice HO481.out; subst eo57; have hcz58_0 : w52.cell? ⟨gb472, 0, none⟩ = some (.int .i64 t467) := (blk_cell BK472.out 0).trans rfl; have hcz58_1 : w52.cell? ⟨gb472, 1, none⟩ = some (.slice Ao43 t468.length co43) := (blk_cell BK472.out 1).trans rfl; have hfz58_0 := blk_frozen BK472.out 0; have hfz58_1 := blk_frozen BK472.out 1) | ((with_reducible refine gate_callee (f := 20) rfl ?_); refine goesL_ (some 34) rfl rfl Try.func20 (by kernel_rfl) rfl #[.agg #[.int .i64 t478, .slice Ao57 t479.length co57], .agg #[.int .i64 t467, .slice Ao43 t468.length co43]] rfl Gv.lm ?_; (with_reducible refine (laws_eqTable.calls k t478 _ _ t479 t467 _ _ t468 true _ ?side1 ?side2 ?side3 ?side4 A11.out).mono ?_); (case side1 => refine (Kd.R_reads' (e := 75) (base := w.heap.size) (ok := fun k_ => (((True ∧ some k_ ≠ (.slice Ao38 t464.length co38 : Value).ownBlock) ∧ some k_ ≠ (.slice Ao43 t468.length co43 : Value).ownBlock) ∧ some k_ ≠ (.slice Ao50 t474.length co50 : Value).ownBlock)) (n := t479.length) (c := co57) ?_).2.2; exact (by (with_reducible repeat (first | apply Kd.R_alloc | apply Kd.R_drewN | apply Kd.R_drew)); exact (Kd.R_mono (Kd.R_far (p := ⟨gb483, 1, none⟩) (Kd.R_far (p := ⟨gb483, 0, none⟩) (Kd.R_types HO481.out BK483.out (by decide)) (fun _ hk => hk.2) (.int .i64 t478)) (fun _ hk => hk.2) (.slice Ao57 t479.length co57)) (fun _ h_ => h_.1)))); (case side2 => exact (Kd.R_reads' HO481.out).2.1); (case side3 => refine (Kd.R_reads' (e := 75) (base := w.heap.size) (ok := fun k_ => (((True ∧ some k_ ≠ (.slice Ao38 t464.length co38 : Value).ownBlock) ∧ some k_ ≠ (.slice Ao50 t474.length co50 : Value).ownBlock) ∧ some k_ ≠ (.slice Ao57 t479.length co57 : Value).ownBlock)) (n := t468.length) (c := co43) ?_).2.2; exact (by (with_reducible repeat (first | apply Kd.R_alloc | apply Kd.R_drewN | apply Kd.R_drew)); exact (Kd.R_mono (Kd.R_far (p := ⟨gb483, 1, none⟩) (Kd.R_far (p := ⟨gb483, 0, none⟩) (Kd.R_types HO470.out BK483.out (by decide)) (fun _ hk => hk.2) (.int .i64 t478)) (fun _ hk => hk.2) (.slice Ao57 t479.length co57)) (fun _ h_ => h_.1)))); (case side4 => exact (Kd.R_reads' HO470.out).2.1); rintro e w59 ⟨rfl, hb⟩; refine ⟨_, rfl, ?_⟩; replace HO466 := Gv.a0 (Kd.R_below (by (with_reducible repeat (first | apply Kd.R_alloc | apply Kd.R_drewN | apply Kd.R_drew)); exact (Kd.R_mono (Kd.R_far (p := ⟨gb483, 1, none⟩) (Kd.R_far (p := ⟨gb483, 0, none⟩) (Kd.R_types HO466.out BK483.out (by decide)) (fun _ hk => hk.2) (.int .i64 t478)) (fun _ hk => hk.2) (.slice Ao57 t479.length co57)) (fun _ h_ => h_.1))) hb); replace HO470 := Gv.a0 (Kd.R_below (by (with_reducible repeat (first | apply Kd.R_alloc | apply Kd.R_drewN | apply Kd.R_drew)); exact (Kd.R_mono (Kd.R_far (p := ⟨gb483, 1, none⟩) (Kd.R_far (p := ⟨gb483, 0, none⟩) (Kd.R_types HO470.out BK483.out (by decide)) (fun _ hk => hk.2) (.int .i64 t478)) (fun _ hk => hk.2) (.slice Ao57 t479.length co57)) (fun _ h_ => h_.1))) hb); replace HO476 := Gv.a0 (Kd.R_below (by (with_reducible repeat (first | apply Kd.R_alloc | apply Kd.R_drewN | apply Kd.R_drew)); exact (Kd.R_mono (Kd.R_far (p := ⟨gb483, 1, none⟩) (Kd.R_far (p := ⟨gb483, 0, none⟩) (Kd.R_types HO476.out BK483.out (by decide)) (fun _ hk => hk.2) (.int .i64 t478)) (fun _ hk => hk.2) (.slice Ao57 t479.length co57)) (fun _ h_ => h_.1))) hb); replace HO481 := Gv.a0 (Kd.R_below (by (with_reducible repeat (first | apply Kd.R_alloc | apply Kd.R_drewN | apply Kd.R_drew)); exact (Kd.R_mono (Kd.R_far (p := ⟨gb483, 1, none⟩) (Kd.R_far (p := ⟨gb483, 0, none⟩) (Kd.R_types HO481.out BK483.out (by decide)) (fun _ hk => hk.2) (.int .i64 t478)) (fun _ hk => hk.2) (.slice Ao57 t479.length co57)) (fun _ h_ => h_.1))) hb); replace BK461 := Gv.a0 (blk_below (g := gb461) (o := .cells #[.int .i64 a0_0, .slice A0_1 l0_1.length c0_1] 47 (0, 0)) Gv.bkf hb); replace BK472 := Gv.a0 (blk_below (g := gb472) (o := .cells #[.int .i64 t467, .slice Ao43 t468.length co43] 40 (0, 0)) Gv.bkf hb); replace BK477 := Gv.a0 (blk_below (g := gb477) (o := .cells #[.int .i64 t473, .slice Ao50 t474.length co50] 40 (0, 0)) Gv.bkf hb); replace BK483 := Gv.a0 (blk_below (g := gb483) (o := .cells #[.int .i64 t478, .slice Ao57 t479.length co57] 40 (0, 0)) (by (with_reducible repeat (first | refine blk_drewN ?_ _ | refine blk_drew ?_ | refine blk_alloc ?_ _)); refine blk_put (cs := #[.int .i64 t478, .slice none 0 0]) ?_ 1 _ rfl; (with_reducible repeat (first | refine blk_drewN ?_ _ | refine blk_drew ?_ | refine blk_alloc ?_ _)); refine blk_put (cs := #[.int .i64 0, .slice none 0 0]) ?_ 0 _ rfl; (with_reducible repeat (first | refine blk_drewN ?_ _ | refine blk_drew ?_ | refine blk_alloc ?_ _)); exact BK483.out) hb); replace HB := Gv.a0 (below_step Gv.bw hb); clear hb))
             replace HO466 := Gv.a0 (Kd.R_drew HO466.out)
             replace HO470 := Gv.a0 (Kd.R_drew HO470.out)
             replace HO476 := Gv.a0 (Kd.R_drew HO476.out)
             replace HO481 := Gv.a0 (Kd.R_drew HO481.out)
             replace BK461 := Gv.a0 (blk_drew BK461.out)
             replace BK472 := Gv.a0 (blk_drew BK472.out)
             replace BK477 := Gv.a0 (blk_drew BK477.out)
             replace BK483 := Gv.a0 (blk_drew BK483.out)
             replace HB := Gv.a0 (below_drew1 HB.out)
             refine start_ (n := 5) (S := fun w' => w'.cell? ⟨gb477, 0, none⟩ = some (.int .i64 t473) ∧ w'.cell? ⟨gb477, 1, none⟩ = some (.slice Ao50 t474.length co50) ∧ w'.cell? ⟨gb461, 0, none⟩ = some (.int .i64 a0_0) ∧ w'.cell? ⟨gb461, 1, none⟩ = some (.slice A0_1 l0_1.length c0_1)) (ds := []) #[false, false, false, false, false] (by kernel_rfl) rfl rfl ⟨(blk_cell BK477.out 0).trans rfl, (blk_cell BK477.out 1).trans rfl, (blk_cell BK461.out 0).trans rfl, (blk_cell BK461.out 1).trans rfl⟩ (fun hHeld => ?_)
             generalize w59.drew = w60 at HO466 HO470 HO476 HO481 BK461 BK472 BK477 BK483 HB hHeld ⊢
             refine take_ (i := 0) (N := some 41) (v := ?_) (a' := ?_) #[true, false, false, false, false] rfl rfl (by kernel_rfl) (fun _ _ _ h => h) (Or.inl ⟨by rfl, ?_⟩) hHeld ?_ ?_
             rotate_left
             ·rintro w' ⟨s0, s1, s2, s3⟩
              go_simp
              with_reducible rfl
             rotate_left
             ·simp only [Act.put, List.setIfInBounds_toArray, List.set_cons_zero, List.set_cons_succ, i64_w, i32_w]
              rfl
             refine take_ (i := 1) (N := some 42) (v := ?_) (a' := ?_) #[true, true, false, false, false] rfl rfl (by kernel_rfl) (fun _ _ _ h => h) (Or.inl ⟨by rfl, ?_⟩) hHeld ?_ ?_
             rotate_left
             ·rintro w' ⟨s0, s1, s2, s3⟩
              go_simp
              with_reducible rfl
             rotate_left
             ·simp only [Act.put, List.setIfInBounds_toArray, List.set_cons_zero, List.set_cons_succ, i64_w, i32_w]
              rfl
             refine one_ (i := 2) (N := some 43) #[true, true, true, false, false] rfl rfl (by kernel_rfl) (by decide) (fun K hK => ?_)
             refine goes_ Try.func25 (by kernel_rfl) rfl #[.agg #[.int .i64 a0_0, .slice A0_1 l0_1.length c0_1]] (by rfl) rfl rfl Gv.lm ?_
             with_reducible refine (laws_toTable.calls k a0_0 _ _ l0_1 t485 t486 _ ?side1 ?side2 A14.out).mono ?_
             (case side1 => repeat (first | exact (Kd.C_below HR0_1.out HB.out) | (with_reducible refine Kd.C_alloc ?_ _) | (with_reducible refine Kd.C_drewN ?_ _) | (with_reducible refine Kd.C_drew ?_)))
             (case side2 => exact HC0_1.out)
             rintro e w61 ⟨v487, rfl, ho0, hb⟩
             refine ⟨_, rfl, ?_⟩
             have HO488 := Gv.a0 (Kd.R_lower (Kd.R_new' (Kd.R_new' (Kd.R_new' (Kd.R_new' ho0 (Kd.R_lt (Gv.kr HO466.out))) (Kd.R_lt (Gv.kr HO470.out))) (Kd.R_lt (Gv.kr HO476.out))) (Kd.R_lt (Gv.kr HO481.out))) (below_size Gv.bw))
             replace HO466 := Gv.a0 (Kd.R_elder' (Gv.kr HO466.out) (Kd.R_base ho0) hb)
             replace HO470 := Gv.a0 (Kd.R_elder' (Gv.kr HO470.out) (Kd.R_base ho0) hb)
             replace HO476 := Gv.a0 (Kd.R_elder' (Gv.kr HO476.out) (Kd.R_base ho0) hb)
             replace HO481 := Gv.a0 (Kd.R_elder' (Gv.kr HO481.out) (Kd.R_base ho0) hb)
             replace BK461 := Gv.a0 (Gv.bb BK461.out hb)
             replace BK472 := Gv.a0 (Gv.bb BK472.out hb)
             replace BK477 := Gv.a0 (Gv.bb BK477.out hb)
             replace BK483 := Gv.a0 (Gv.bb BK483.out hb)
             replace HB := Gv.a0 (below_step Gv.bw hb)
             (try clear hb)
             (try clear hb2)
             (try clear hk)
             (try clear hi)
             (try clear ho0)
             obtain ⟨Ao62, co62, eo62⟩ := Kd.R_slice HO488.out
             (first | subst eo62 | (injection eo62 with f1_ f2_ f3_; have f4_ := f1_.symm; have f5_ := f3_.symm; clear f1_ f2_ f3_; subst f4_; subst f5_))
             refine hK.out _ _ ⟨(blk_cell BK477.out 0).trans rfl, (blk_cell BK477.out 1).trans rfl, (blk_cell BK461.out 0).trans rfl, (blk_cell BK461.out 1).trans rfl⟩ (fun hHeld => ?_)
             clear hK K
             refine norm_ (a' := ?_) ?_ ?_
             rotate_left
             ·show Act.put _ (some 43) _ = _
              simp only [Act.put, List.setIfInBounds_toArray, List.set_cons_zero, List.set_cons_succ, i64_w, i32_w]
              rfl
             refine one_ (i := 3) (N := some 44) #[true, true, true, true, false] rfl rfl (by kernel_rfl) (by decide) (fun K hK => ?_)
             refine goes_ Try.func20 (by kernel_rfl) rfl #[.agg #[.int .i64 t473, .slice Ao50 t474.length co50], .agg #[.int .i64 t485, .slice Ao62 t486.length co62]] (by rfl) rfl rfl Gv.lm ?_
             with_reducible refine (laws_eqTable.calls k t473 _ _ t474 t485 _ _ t486 true _ ?side1 ?side2 ?side3 ?side4 A15.out).mono ?_
             (case side1 => repeat (first | exact (Kd.R_reads' HO476.out).2.2 | (with_reducible refine Kd.C_alloc ?_ _) | (with_reducible refine Kd.C_drewN ?_ _) | (with_reducible refine Kd.C_drew ?_)))
             (case side2 => exact (Kd.R_reads' HO476.out).2.1)
             (case side3 => repeat (first | exact (Kd.R_reads' HO488.out).2.2 | (with_reducible refine Kd.C_alloc ?_ _) | (with_reducible refine Kd.C_drewN ?_ _) | (with_reducible refine Kd.C_drew ?_)))
             (case side4 => exact (Kd.R_reads' HO488.out).2.1)
             rintro e w63 ⟨rfl, hb⟩
             refine ⟨_, rfl, ?_⟩
             replace HO466 := Gv.a0 (Kd.R_below (Gv.kr HO466.out) hb)
             replace HO470 := Gv.a0 (Kd.R_below (Gv.kr HO470.out) hb)
             replace HO476 := Gv.a0 (Kd.R_below (Gv.kr HO476.out) hb)
             replace HO481 := Gv.a0 (Kd.R_below (Gv.kr HO481.out) hb)
             replace HO488 := Gv.a0 (Kd.R_below (Gv.kr HO488.out) hb)
             replace BK461 := Gv.a0 (Gv.bb BK461.out hb)
             replace BK472 := Gv.a0 (Gv.bb BK472.out hb)
             replace BK477 := Gv.a0 (Gv.bb BK477.out hb)
             replace BK483 := Gv.a0 (Gv.bb BK483.out hb)
             replace HB := Gv.a0 (below_step Gv.bw hb)
             (try clear hb)
             (try clear hb2)
             (try clear hk)
             (try clear hi)
             refine hK.out _ _ ⟨(blk_cell BK477.out 0).trans rfl, (blk_cell BK477.out 1).trans rfl, (blk_cell BK461.out 0).trans rfl, (blk_cell BK461.out 1).trans rfl⟩ (fun hHeld => ?_)
             clear hK K
             refine norm_ (a' := ?_) ?_ ?_
             rotate_left
             ·show Act.put _ (some 44) _ = _
              simp only [Act.put, List.setIfInBounds_toArray, List.set_cons_zero, List.set_cons_succ, i64_w, i32_w]
              rfl
             refine pure_ (i := 4) (N := some 45) (v := ?_) (a' := ?_) #[true, true, true, true, true] rfl rfl (by kernel_rfl) (fun _ _ _ h => h) (Or.inl ⟨by rfl, ?_⟩) ?_ ?_
             rotate_left
             ·intro w'
              go_simp
              with_reducible rfl
             rotate_left
             ·simp only [Act.put, List.setIfInBounds_toArray, List.set_cons_zero, List.set_cons_succ, i64_w, i32_w]
              rfl
             refine done_ (by kernel_rfl) ?_
             have hcz64_0 : w63.cell? ⟨gb477, 0, none⟩ = some (.int .i64 t473) := (blk_cell BK477.out 0).trans rfl
             have hcz64_1 : w63.cell? ⟨gb477, 1, none⟩ = some (.slice Ao50 t474.length co50) := (blk_cell BK477.out 1).trans rfl
             have hfz64_0 := blk_frozen BK477.out 0
             have hfz64_1 := blk_frozen BK477.out 1
             try go_wp2_with (first | ((with_reducible refine gate_callee (f := 21) rfl ?_); refine goesL_ (some 48) rfl rfl Try.func21 (by kernel_rfl) rfl #[.agg #[.int .i64 t473, .slice Ao50 t474.length co50], .int .i64 1] rfl Gv.lm ?_; (with_reducible refine (laws_markTable.calls t473 (fun k_ => some k_ = (.slice Ao50 t474.length co50 : Value).ownBlock) (.slice Ao50 t474.length co50) t474 1 t490 t491 w _ ?side1 ?side2 A17.out).mono ?_); (case side1 => repeat (first | (with_reducible first | exact HB.out | apply below_alloc | apply pw_below_drewN | apply below_drew1 | refine below_set ?_ GE461.out | refine below_set ?_ GE472.out | refine below_set ?_ GE477.out | refine below_set ?_ GE483.out) | exact HB.out)); (case side2 => exact Kd.R_tight rfl HO476.out); rintro e w65 ⟨rfl, hy0, hb, hkp⟩; refine ⟨_, rfl, ?_⟩; replace BK461 := Gv.a0 (blk_kept Gv.bk hkp (fun hs_ => (fun e_ => (Kd.R_ne HO476.out BK461.out (by decide)) e_) hs_)); replace HO466 := Gv.a0 (Kd.R_mono (ok' := fun k_ => some k_ ≠ (.slice Ao43 t468.length co43 : Value).ownBlock ∧ some k_ ≠ (.slice Ao50 t474.length co50 : Value).ownBlock ∧ some k_ ≠ (.slice Ao57 t479.length co57 : Value).ownBlock ∧ some k_ ≠ (.slice Ao62 t486.length co62 : Value).ownBlock) (Kd.R_keptB (HO466.out) hkp (fun k_ hk_ hs_ => (hk_.1.1.2) hs_)) (fun k_ hk_ => ⟨hk_.1.1.1.1.2, hk_.1.1.1.2, hk_.1.1.2, hk_.1.2⟩)); replace HO470 := Gv.a0 (Kd.R_mono (ok' := fun k_ => some k_ ≠ (.slice Ao38 t464.length co38 : Value).ownBlock ∧ some k_ ≠ (.slice Ao50 t474.length co50 : Value).ownBlock ∧ some k_ ≠ (.slice Ao57 t479.length co57 : Value).ownBlock ∧ some k_ ≠ (.slice Ao62 t486.length co62 : Value).ownBlock) (Kd.R_keptB (HO470.out) hkp (fun k_ hk_ hs_ => (hk_.1.1.2) hs_)) (fun k_ hk_ => ⟨hk_.1.1.1.1.2, hk_.1.1.1.2, hk_.1.1.2, hk_.1.2⟩)); replace BK472 := Gv.a0 (blk_kept Gv.bk hkp (fun hs_ => (fun e_ => (Kd.R_ne HO476.out BK472.out (by decide)) e_) hs_)); replace BK477 := Gv.a0 (blk_kept Gv.bk hkp (fun hs_ => (fun e_ => (Kd.R_ne HO476.out BK477.out (by decide)) e_) hs_)); replace HO481 := Gv.a0 (Kd.R_mono (ok' := fun k_ => some k_ ≠ (.slice Ao38 t464.length co38 : Value).ownBlock ∧ some k_ ≠ (.slice Ao43 t468.length co43 : Value).ownBlock ∧ some k_ ≠ (.slice Ao50 t474.length co50 : Value).ownBlock ∧ some k_ ≠ (.slice Ao62 t486.length co62 : Value).ownBlock) (Kd.R_keptB (HO481.out) hkp (fun k_ hk_ hs_ => (hk_.1.2) hs_)) (fun k_ hk_ => ⟨hk_.1.1.1.1.2, hk_.1.1.1.2, hk_.1.1.2, hk_.1.2⟩)); replace BK483 := Gv.a0 (blk_kept Gv.bk hkp (fun hs_ => (fun e_ => (Kd.R_ne HO476.out BK483.out (by decide)) e_) hs_)); replace HO476 := Gv.a0 (Kd.R_reok rfl hy0 (fun k_ e_ => HO476.out.1 k_ e_)); replace HO488 := Gv.a0 (Kd.R_mono (ok' := fun k_ => some k_ ≠ (.slice Ao38 t464.length co38 : Value).ownBlock ∧ some k_ ≠ (.slice Ao43 t468.length co43 : Value).ownBlock ∧ some k_ ≠ (.slice Ao50 t474.length co50 : Value).ownBlock ∧ some k_ ≠ (.slice Ao57 t479.length co57 : Value).ownBlock) (Kd.R_keptB (HO488.out) hkp (fun k_ hk_ hs_ => (hk_.1.2) hs_)) (fun k_ hk_ => ⟨hk_.1.1.1.1.2, hk_.1.1.1.2, hk_.1.1.2, hk_.1.2⟩)); replace HB := Gv.a0 (hb); clear hb; (try clear hkp); (try clear hy0); have hcz66_0 : w65.cell? ⟨gb483, 0, none⟩ = some (.int .i64 t478) := (blk_cell BK483.out 0).trans rfl; have hcz66_1 : w65.cell? ⟨gb483, 1, none⟩ = some (.slice Ao57 t479.length co57) := (blk_cell BK483.out 1).trans rfl; have hfz66_0 := blk_frozen BK483.out 0; have hfz66_1 := blk_frozen BK483.out 1; have hcz67_0 : w65.cell? ⟨gb472, 0, none⟩ = some (.int .i64 t467) := (blk_cell BK472.out 0).trans rfl; have hcz67_1 : w65.cell? ⟨gb472, 1, none⟩ = some (.slice Ao43 t468.length co43) := (blk_cell BK472.out 1).trans rfl; have hfz67_0 := blk_frozen BK472.out 0; have hfz67_1 := blk_frozen BK472.out 1) | (go_at_call 20; (with_reducible refine (laws_eqTable.calls k t478 _ _ t479 t467 _ _ t468 true _ ?side1 ?side2 ?side3 ?side4 A19.out).mono ?_); (case side1 => repeat (first | exact (Kd.R_reads' HO481.out).2.2 | (with_reducible refine Kd.C_alloc ?_ _) | (with_reducible refine Kd.C_drewN ?_ _) | (with_reducible refine Kd.C_drew ?_))); (case side2 => exact (Kd.R_reads' HO481.out).2.1); (case side3 => repeat (first | exact (Kd.R_reads' HO470.out).2.2 | (with_reducible refine Kd.C_alloc ?_ _) | (with_reducible refine Kd.C_drewN ?_ _) | (with_reducible refine Kd.C_drew ?_))); (case side4 => exact (Kd.R_reads' HO470.out).2.1); rintro e w68 ⟨rfl, hb⟩; replace HO466 := Gv.a0 (Kd.R_below (Gv.kr HO466.out) hb); replace HO470 := Gv.a0 (Kd.R_below (Gv.kr HO470.out) hb); replace HO476 := Gv.a0 (Kd.R_below (Gv.kr HO476.out) hb); replace HO481 := Gv.a0 (Kd.R_below (Gv.kr HO481.out) hb); replace HO488 := Gv.a0 (Kd.R_below (Gv.kr HO488.out) hb); replace BK461 := Gv.a0 (Gv.bb BK461.out hb); replace BK472 := Gv.a0 (Gv.bb BK472.out hb); replace BK477 := Gv.a0 (Gv.bb BK477.out hb); replace BK483 := Gv.a0 (Gv.bb BK483.out hb); replace HB := Gv.a0 (below_step Gv.bw hb); clear hb; have hcz69_0 : w68.cell? ⟨gb483, 0, none⟩ = some (.int .i64 t478) := (blk_cell BK483.out 0).trans rfl; have hcz69_1 : w68.cell? ⟨gb483, 1, none⟩ = some (.slice Ao57 t479.length co57) := (blk_cell BK483.out 1).trans rfl; have hfz69_0 := blk_frozen BK483.out 0; have hfz69_1 := blk_frozen BK483.out 1) | ((with_reducible refine gate_callee (f := 21) rfl ?_); refine goesL_ (some 64) rfl rfl Try.func21 (by kernel_rfl) rfl #[.agg #[.int .i64 t478, .slice Ao57 t479.length co57], .int .i64 1] rfl Gv.lm ?_; (with_reducible refine (laws_markTable.calls t478 (fun k_ => some k_ = (.slice Ao57 t479.length co57 : Value).ownBlock) (.slice Ao57 t479.length co57) t479 1 t493 t494 w _ ?side1 ?side2 A21.out).mono ?_); (case side1 => repeat (first | (with_reducible first | exact HB.out | apply below_alloc | apply pw_below_drewN | apply below_drew1 | refine below_set ?_ GE461.out | refine below_set ?_ GE472.out | refine below_set ?_ GE477.out | refine below_set ?_ GE483.out) | exact HB.out)); (case side2 => exact Kd.R_tight rfl HO481.out); rintro e w70 ⟨rfl, hy0, hb, hkp⟩; refine ⟨_, rfl, ?_⟩; replace BK461 := Gv.a0 (blk_kept Gv.bk hkp (fun hs_ => (fun e_ => (Kd.R_ne HO481.out BK461.out (by decide)) e_) hs_)); replace HO466 := Gv.a0 (Kd.R_mono (ok' := fun k_ => some k_ ≠ (.slice Ao43 t468.length co43 : Value).ownBlock ∧ some k_ ≠ (.slice Ao50 t474.length co50 : Value).ownBlock ∧ some k_ ≠ (.slice Ao57 t479.length co57 : Value).ownBlock ∧ some k_ ≠ (.slice Ao62 t486.length co62 : Value).ownBlock) (Kd.R_keptB (HO466.out) hkp (fun k_ hk_ hs_ => (hk_.2.2.1) hs_)) (fun k_ hk_ => ⟨hk_.1.1, hk_.1.2.1, hk_.1.2.2.1, hk_.1.2.2.2⟩)); replace HO470 := Gv.a0 (Kd.R_mono (ok' := fun k_ => some k_ ≠ (.slice Ao38 t464.length co38 : Value).ownBlock ∧ some k_ ≠ (.slice Ao50 t474.length co50 : Value).ownBlock ∧ some k_ ≠ (.slice Ao57 t479.length co57 : Value).ownBlock ∧ some k_ ≠ (.slice Ao62 t486.length co62 : Value).ownBlock) (Kd.R_keptB (HO470.out) hkp (fun k_ hk_ hs_ => (hk_.2.2.1) hs_)) (fun k_ hk_ => ⟨hk_.1.1, hk_.1.2.1, hk_.1.2.2.1, hk_.1.2.2.2⟩)); replace BK472 := Gv.a0 (blk_kept Gv.bk hkp (fun hs_ => (fun e_ => (Kd.R_ne HO481.out BK472.out (by decide)) e_) hs_)); replace HO476 := Gv.a0 (Kd.R_mono (ok' := fun k_ => some k_ ≠ (.slice Ao38 t464.length co38 : Value).ownBlock ∧ some k_ ≠ (.slice Ao43 t468.length co43 : Value).ownBlock ∧ some k_ ≠ (.slice Ao57 t479.length co57 : Value).ownBlock ∧ some k_ ≠ (.slice Ao62 t486.length co62 : Value).ownBlock) (Kd.R_keptB (HO476.out) hkp (fun k_ hk_ hs_ => (hk_.1.2) hs_)) (fun k_ hk_ => ⟨hk_.1.1.1.1.2, hk_.1.1.1.2, hk_.1.1.2, hk_.1.2⟩)); replace BK477 := Gv.a0 (blk_kept Gv.bk hkp (fun hs_ => (fun e_ => (Kd.R_ne HO481.out BK477.out (by decide)) e_) hs_)); replace BK483 := Gv.a0 (blk_kept Gv.bk hkp (fun hs_ => (fun e_ => (Kd.R_ne HO481.out BK483.out (by decide)) e_) hs_)); replace HO481 := Gv.a0 (Kd.R_reok rfl hy0 (fun k_ e_ => HO481.out.1 k_ e_)); replace HO488 := Gv.a0 (Kd.R_mono (ok' := fun k_ => some k_ ≠ (.slice Ao38 t464.length co38 : Value).ownBlock ∧ some k_ ≠ (.slice Ao43 t468.length co43 : Value).ownBlock ∧ some k_ ≠ (.slice Ao50 t474.length co50 : Value).ownBlock ∧ some k_ ≠ (.slice Ao57 t479.length co57 : Value).ownBlock) (Kd.R_keptB (HO488.out) hkp (fun k_ hk_ hs_ => (hk_.2.2.2) hs_)) (fun k_ hk_ => ⟨hk_.1.1, hk_.1.2.1, hk_.1.2.2.1, hk_.1.2.2.2⟩)); replace HB := Gv.a0 (hb); clear hb; (try clear hkp); (try clear hy0); have hcz71_0 : w70.cell? ⟨gb483, 0, none⟩ = some (.int .i64 t478) := (blk_cell BK483.out 0).trans rfl; have hcz71_1 : w70.cell? ⟨gb483, 1, none⟩ = some (.slice Ao57 t479.length co57) := (blk_cell BK483.out 1).trans rfl; have hfz71_0 := blk_frozen BK483.out 0; have hfz71_1 := blk_frozen BK483.out 1) | ((with_reducible refine gate_callee (f := 22) rfl ?_); refine goesL_ (some 67) rfl rfl Try.func22 (by kernel_rfl) rfl #[.agg #[.int .i64 t478, .slice Ao57 t494.length co57], .int .i64 1] rfl (by (try simp only [List.map_toArray, List.map_cons, List.map_nil]); first | done | (rw [show t494.length = t479.length from (Kd.R_reads' HO481.out).1.symm] <;> rfl) | rfl | (simp only [List.length_drop, List.length_take]; rfl)) ?_; (with_reducible refine (laws_heldTable.calls t478 _ _ t494 1 t495 _ ?side1 ?side2 A22.out).mono ?_); (case side1 => repeat (first | exact (Kd.R_reads' HO481.out).2.2 | (with_reducible refine Kd.C_alloc ?_ _) | (with_reducible refine Kd.C_drewN ?_ _) | (with_reducible refine Kd.C_drew ?_))); (case side2 => rw [show t494.length = t479.length from (Kd.R_reads' HO481.out).1.symm]; exact (Kd.R_reads' HO481.out).2.1); rintro e w72 ⟨rfl, hb⟩; refine ⟨_, rfl, ?_⟩; replace HO466 := Gv.a0 (Kd.R_below (Gv.kr HO466.out) hb); replace HO470 := Gv.a0 (Kd.R_below (Gv.kr HO470.out) hb); replace HO476 := Gv.a0 (Kd.R_below (Gv.kr HO476.out) hb); replace HO481 := Gv.a0 (Kd.R_below (Gv.kr HO481.out) hb); replace HO488 := Gv.a0 (Kd.R_below (Gv.kr HO488.out) hb); replace BK461 := Gv.a0 (Gv.bb BK461.out hb); replace BK472 := Gv.a0 (Gv.bb BK472.out hb); replace BK477 := Gv.a0 (Gv.bb BK477.out hb); replace BK483 := Gv.a0 (Gv.bb BK483.out hb); replace HB := Gv.a0 (below_step Gv.bw hb); clear hb; have hcz73_0 : w72.cell? ⟨gb461, 0, none⟩ = some (.int .i64 a0_0) := (blk_cell BK461.out 0).trans rfl; have hcz73_1 : w72.cell? ⟨gb461, 1, none⟩ = some (.slice A0_1 l0_1.length c0_1) := (blk_cell BK461.out 1).trans rfl; have hfz73_0 := blk_frozen BK461.out 0; have hfz73_1 := blk_frozen BK461.out 1) | ((with_reducible refine gate_callee (f := 25) rfl ?_); refine goesL_ (some 75) rfl rfl Try.func25 (by kernel_rfl) rfl #[.agg #[.int .i64 a0_0, .slice A0_1 l0_1.length c0_1]] rfl Gv.lm ?_; (with_reducible refine (laws_toTable.calls k a0_0 _ _ l0_1 t496 t497 _ ?side1 ?side2 A25.out).mono ?_); (case side1 => repeat (first | exact (Kd.C_below HR0_1.out HB.out) | (with_reducible refine Kd.C_alloc ?_ _) | (with_reducible refine Kd.C_drewN ?_ _) | (with_reducible refine Kd.C_drew ?_))); (case side2 => exact HC0_1.out); rintro e w74 ⟨v498, rfl, ho0, hb⟩; refine ⟨_, rfl, ?_⟩; have HO499 := Gv.a0 (Kd.R_lower (Kd.R_new' (Kd.R_new' (Kd.R_new' (Kd.R_new' (Kd.R_new' ho0 (Kd.R_lt (Gv.kr HO466.out))) (Kd.R_lt (Gv.kr HO470.out))) (Kd.R_lt (Gv.kr HO476.out))) (Kd.R_lt (Gv.kr HO481.out))) (Kd.R_lt (Gv.kr HO488.out))) (below_size Gv.bw)); replace HO466 := Gv.a0 (Kd.R_elder' (Gv.kr HO466.out) (Kd.R_base ho0) hb); replace HO470 := Gv.a0 (Kd.R_elder' (Gv.kr HO470.out) (Kd.R_base ho0) hb); replace HO476 := Gv.a0 (Kd.R_elder' (Gv.kr HO476.out) (Kd.R_base ho0) hb); replace HO481 := Gv.a0 (Kd.R_elder' (Gv.kr HO481.out) (Kd.R_base ho0) hb); replace HO488 := Gv.a0 (Kd.R_elder' (Gv.kr HO488.out) (Kd.R_base ho0) hb); replace BK461 := Gv.a0 (Gv.bb BK461.out hb); replace BK472 := Gv.a0 (Gv.bb BK472.out hb); replace BK477 := Gv.a0 (Gv.bb BK477.out hb); replace BK483 := Gv.a0 (Gv.bb BK483.out hb); replace HB := Gv.a0 (below_step Gv.bw hb); clear hb ho0; obtain ⟨Ao75, co75, eo75⟩ := Kd.R_slice HO499.out; subst eo75) | ((with_reducible refine gate_callee (f := 32) rfl ?_); refine goesL_ (some 76) rfl rfl Try.func32 (by kernel_rfl) rfl #[.agg #[.int .i64 t496, .slice Ao75 t497.length co75]] rfl Gv.lm ?_; (with_reducible refine (impl_TableGrow.calls k t496 _ _ t497 t500 t501 t504 _ ?side1 ?side2 A26.out).mono ?_); (case side1 => repeat (first | exact (Kd.R_reads' HO499.out).2.2 | (with_reducible refine Kd.C_alloc ?_ _) | (with_reducible refine Kd.C_drewN ?_ _) | (with_reducible refine Kd.C_drew ?_))); (case side2 => exact (Kd.R_reads' HO499.out).2.1); rintro e w76 ⟨v502, rfl, ho0, hb⟩; refine ⟨_, rfl, ?_⟩; have HO503 := Gv.a0 (Kd.R_lower (Kd.R_new' (Kd.R_new' (Kd.R_new' (Kd.R_new' (Kd.R_new' (Kd.R_new' ho0 (Kd.R_lt (Gv.kr HO466.out))) (Kd.R_lt (Gv.kr HO470.out))) (Kd.R_lt (Gv.kr HO476.out))) (Kd.R_lt (Gv.kr HO481.out))) (Kd.R_lt (Gv.kr HO488.out))) (Kd.R_lt (Gv.kr HO499.out))) (below_size Gv.bw)); replace HO466 := Gv.a0 (Kd.R_elder' (Gv.kr HO466.out) (Kd.R_base ho0) hb); replace HO470 := Gv.a0 (Kd.R_elder' (Gv.kr HO470.out) (Kd.R_base ho0) hb); replace HO476 := Gv.a0 (Kd.R_elder' (Gv.kr HO476.out) (Kd.R_base ho0) hb); replace HO481 := Gv.a0 (Kd.R_elder' (Gv.kr HO481.out) (Kd.R_base ho0) hb); replace HO488 := Gv.a0 (Kd.R_elder' (Gv.kr HO488.out) (Kd.R_base ho0) hb); replace HO499 := Gv.a0 (Kd.R_elder' (Gv.kr HO499.out) (Kd.R_base ho0) hb); replace BK461 := Gv.a0 (Gv.bb BK461.out hb); replace BK472 := Gv.a0 (Gv.bb BK472.out hb); replace BK477 := Gv.a0 (Gv.bb BK477.out hb); replace BK483 := Gv.a0 (Gv.bb BK483.out hb); replace HB := Gv.a0 (below_step Gv.bw hb); clear hb ho0) | ((with_reducible refine gate_dst (N := 12) rfl ?_); refine box_event ?hg (N := 12) ?hd (cs := #[.int .i64 0, .slice none 0 0]) (t := 40) ?hr ?_; (case hd => rfl); (case hg => rfl); (case hr => first | (go_simp; done) | (go_simp; rfl)); intro gb505 hg w77 hbox hb; replace HO466 := Gv.a0 (Kd.R_below (Gv.kr HO466.out) hb); replace HO470 := Gv.a0 (Kd.R_below (Gv.kr HO470.out) hb); replace HO476 := Gv.a0 (Kd.R_below (Gv.kr HO476.out) hb); replace HO481 := Gv.a0 (Kd.R_below (Gv.kr HO481.out) hb); replace HO488 := Gv.a0 (Kd.R_below (Gv.kr HO488.out) hb); replace HO499 := Gv.a0 (Kd.R_below (Gv.kr HO499.out) hb); replace HO503 := Gv.a0 (Kd.R_below (Gv.kr HO503.out) hb); have BK505 := Gv.a0 (hbox); have GW505 := Gv.a0 ((Gv.ble hg Gv.bw : w.heap.size ≤ gb505)); have GE505 := Gv.a0 ((Gv.ble hg Gv.bw : w.heap.size ≤ gb505)); replace HB := Gv.a0 (below_step Gv.bw hb); have NB461_505 := Gv.a0 ((Gv.nlt hg (Gv.kb BK461.out) : gb461 ≠ gb505)); have NB505_461 := Gv.a0 ((Gv.ngt hg (Gv.kb BK461.out) : gb505 ≠ gb461)); replace BK461 := Gv.a0 (Gv.bb BK461.out hb); have NB472_505 := Gv.a0 ((Gv.nlt hg (Gv.kb BK472.out) : gb472 ≠ gb505)); have NB505_472 := Gv.a0 ((Gv.ngt hg (Gv.kb BK472.out) : gb505 ≠ gb472)); replace BK472 := Gv.a0 (Gv.bb BK472.out hb); have NB477_505 := Gv.a0 ((Gv.nlt hg (Gv.kb BK477.out) : gb477 ≠ gb505)); have NB505_477 := Gv.a0 ((Gv.ngt hg (Gv.kb BK477.out) : gb505 ≠ gb477)); replace BK477 := Gv.a0 (Gv.bb BK477.out hb); have NB483_505 := Gv.a0 ((Gv.nlt hg (Gv.kb BK483.out) : gb483 ≠ gb505)); have NB505_483 := Gv.a0 ((Gv.ngt hg (Gv.kb BK483.out) : gb505 ≠ gb483)); replace BK483 := Gv.a0 (Gv.bb BK483.out hb); clear hb hbox hg; have hnb78 := NB505_461.out; have hnc78 := NB461_505.out; have hnb79 := NB505_472.out; have hnc79 := NB472_505.out; have hnb80 := NB505_477.out; have hnc80 := NB477_505.out; have hnb81 := NB505_483.out; have hnc81 := NB483_505.out; have hcz82_0 : w77.cell? ⟨gb505, 0, none⟩ = some (.int .i64 0) := (blk_cell BK505.out 0).trans rfl; have hcz82_1 : w77.cell? ⟨gb505, 1, none⟩ = some (.slice none 0 0) := (blk_cell BK505.out 1).trans rfl; have hfz82_0 := blk_frozen BK505.out 0; have hfz82_1 := blk_frozen BK505.out 1; obtain ⟨Ao83, co83, eo83⟩ := Kd.R_slice HO503.out; subst eo83; have hcz84_0 : w77.cell? ⟨gb472, 0, none⟩ = some (.int .i64 t467) := (blk_cell BK472.out 0).trans rfl; have hcz84_1 : w77.cell? ⟨gb472, 1, none⟩ = some (.slice Ao43 t468.length co43) := (blk_cell BK472.out 1).trans rfl; have hfz84_0 := blk_frozen BK472.out 0; have hfz84_1 := blk_frozen BK472.out 1) | ((with_reducible refine gate_callee (f := 20) rfl ?_); refine goesL_ (some 81) rfl rfl Try.func20 (by kernel_rfl) rfl #[.agg #[.int .i64 t500, .slice Ao83 t501.length co83], .agg #[.int .i64 t467, .slice Ao43 t468.length co43]] rfl Gv.lm ?_; (with_reducible refine (laws_eqTable.calls k t500 _ _ t501 t467 _ _ t468 true _ ?side1 ?side2 ?side3 ?side4 A27.out).mono ?_); (case side1 => refine (Kd.R_reads' (e := 75) (base := w.heap.size) (ok := fun k_ => ((((((True ∧ some k_ ≠ (.slice Ao38 t464.length co38 : Value).ownBlock) ∧ some k_ ≠ (.slice Ao43 t468.length co43 : Value).ownBlock) ∧ some k_ ≠ (.slice Ao50 t474.length co50 : Value).ownBlock) ∧ some k_ ≠ (.slice Ao57 t479.length co57 : Value).ownBlock) ∧ some k_ ≠ (.slice Ao62 t486.length co62 : Value).ownBlock) ∧ some k_ ≠ (.slice Ao75 t497.length co75 : Value).ownBlock)) (n := t501.length) (c := co83) ?_).2.2; exact (by (with_reducible repeat (first | apply Kd.R_alloc | apply Kd.R_drewN | apply Kd.R_drew)); exact (Kd.R_mono (Kd.R_far (p := ⟨gb505, 1, none⟩) (Kd.R_far (p := ⟨gb505, 0, none⟩) (Kd.R_types HO503.out BK505.out (by decide)) (fun _ hk => hk.2) (.int .i64 t500)) (fun _ hk => hk.2) (.slice Ao83 t501.length co83)) (fun _ h_ => h_.1)))); (case side2 => exact (Kd.R_reads' HO503.out).2.1); (case side3 => refine (Kd.R_reads' (e := 75) (base := w.heap.size) (ok := fun k_ => (((some k_ ≠ (.slice Ao38 t464.length co38 : Value).ownBlock ∧ (some k_ ≠ (.slice Ao50 t474.length co50 : Value).ownBlock ∧ (some k_ ≠ (.slice Ao57 t479.length co57 : Value).ownBlock ∧ some k_ ≠ (.slice Ao62 t486.length co62 : Value).ownBlock))) ∧ some k_ ≠ (.slice Ao75 t497.length co75 : Value).ownBlock) ∧ some k_ ≠ (.slice Ao83 t501.length co83 : Value).ownBlock)) (n := t468.length) (c := co43) ?_).2.2; exact (by (with_reducible repeat (first | apply Kd.R_alloc | apply Kd.R_drewN | apply Kd.R_drew)); exact (Kd.R_mono (Kd.R_far (p := ⟨gb505, 1, none⟩) (Kd.R_far (p := ⟨gb505, 0, none⟩) (Kd.R_types HO470.out BK505.out (by decide)) (fun _ hk => hk.2) (.int .i64 t500)) (fun _ hk => hk.2) (.slice Ao83 t501.length co83)) (fun _ h_ => h_.1)))); (case side4 => exact (Kd.R_reads' HO470.out).2.1); rintro e w85 ⟨rfl, hb⟩; refine ⟨_, rfl, ?_⟩; replace HO466 := Gv.a0 (Kd.R_below (by (with_reducible repeat (first | apply Kd.R_alloc | apply Kd.R_drewN | apply Kd.R_drew)); exact (Kd.R_mono (Kd.R_far (p := ⟨gb505, 1, none⟩) (Kd.R_far (p := ⟨gb505, 0, none⟩) (Kd.R_types HO466.out BK505.out (by decide)) (fun _ hk => hk.2) (.int .i64 t500)) (fun _ hk => hk.2) (.slice Ao83 t501.length co83)) (fun _ h_ => h_.1))) hb); replace HO470 := Gv.a0 (Kd.R_below (by (with_reducible repeat (first | apply Kd.R_alloc | apply Kd.R_drewN | apply Kd.R_drew)); exact (Kd.R_mono (Kd.R_far (p := ⟨gb505, 1, none⟩) (Kd.R_far (p := ⟨gb505, 0, none⟩) (Kd.R_types HO470.out BK505.out (by decide)) (fun _ hk => hk.2) (.int .i64 t500)) (fun _ hk => hk.2) (.slice Ao83 t501.length co83)) (fun _ h_ => h_.1))) hb); replace HO476 := Gv.a0 (Kd.R_below (by (with_reducible repeat (first | apply Kd.R_alloc | apply Kd.R_drewN | apply Kd.R_drew)); exact (Kd.R_mono (Kd.R_far (p := ⟨gb505, 1, none⟩) (Kd.R_far (p := ⟨gb505, 0, none⟩) (Kd.R_types HO476.out BK505.out (by decide)) (fun _ hk => hk.2) (.int .i64 t500)) (fun _ hk => hk.2) (.slice Ao83 t501.length co83)) (fun _ h_ => h_.1))) hb); replace HO481 := Gv.a0 (Kd.R_below (by (with_reducible repeat (first | apply Kd.R_alloc | apply Kd.R_drewN | apply Kd.R_drew)); exact (Kd.R_mono (Kd.R_far (p := ⟨gb505, 1, none⟩) (Kd.R_far (p := ⟨gb505, 0, none⟩) (Kd.R_types HO481.out BK505.out (by decide)) (fun _ hk => hk.2) (.int .i64 t500)) (fun _ hk => hk.2) (.slice Ao83 t501.length co83)) (fun _ h_ => h_.1))) hb); replace HO488 := Gv.a0 (Kd.R_below (by (with_reducible repeat (first | apply Kd.R_alloc | apply Kd.R_drewN | apply Kd.R_drew)); exact (Kd.R_mono (Kd.R_far (p := ⟨gb505, 1, none⟩) (Kd.R_far (p := ⟨gb505, 0, none⟩) (Kd.R_types HO488.out BK505.out (by decide)) (fun _ hk => hk.2) (.int .i64 t500)) (fun _ hk => hk.2) (.slice Ao83 t501.length co83)) (fun _ h_ => h_.1))) hb); replace HO499 := Gv.a0 (Kd.R_below (by (with_reducible repeat (first | apply Kd.R_alloc | apply Kd.R_drewN | apply Kd.R_drew)); exact (Kd.R_mono (Kd.R_far (p := ⟨gb505, 1, none⟩) (Kd.R_far (p := ⟨gb505, 0, none⟩) (Kd.R_types HO499.out BK505.out (by decide)) (fun _ hk => hk.2) (.int .i64 t500)) (fun _ hk => hk.2) (.slice Ao83 t501.length co83)) (fun _ h_ => h_.1))) hb); replace HO503 := Gv.a0 (Kd.R_below (by (with_reducible repeat (first | apply Kd.R_alloc | apply Kd.R_drewN | apply Kd.R_drew)); exact (Kd.R_mono (Kd.R_far (p := ⟨gb505, 1, none⟩) (Kd.R_far (p := ⟨gb505, 0, none⟩) (Kd.R_types HO503.out BK505.out (by decide)) (fun _ hk => hk.2) (.int .i64 t500)) (fun _ hk => hk.2) (.slice Ao83 t501.length co83)) (fun _ h_ => h_.1))) hb); replace BK461 := Gv.a0 (blk_below (g := gb461) (o := .cells #[.int .i64 a0_0, .slice A0_1 l0_1.length c0_1] 47 (0, 0)) Gv.bkf hb); replace BK472 := Gv.a0 (blk_below (g := gb472) (o := .cells #[.int .i64 t467, .slice Ao43 t468.length co43] 40 (0, 0)) Gv.bkf hb); replace BK477 := Gv.a0 (blk_below (g := gb477) (o := .cells #[.int .i64 t473, .slice Ao50 t474.length co50] 40 (0, 0)) Gv.bkf hb); replace BK483 := Gv.a0 (blk_below (g := gb483) (o := .cells #[.int .i64 t478, .slice Ao57 t479.length co57] 40 (0, 0)) Gv.bkf hb); replace BK505 := Gv.a0 (blk_below (g := gb505) (o := .cells #[.int .i64 t500, .slice Ao83 t501.length co83] 40 (0, 0)) (by (with_reducible repeat (first | refine blk_drewN ?_ _ | refine blk_drew ?_ | refine blk_alloc ?_ _)); refine blk_put (cs := #[.int .i64 t500, .slice none 0 0]) ?_ 1 _ rfl; (with_reducible repeat (first | refine blk_drewN ?_ _ | refine blk_drew ?_ | refine blk_alloc ?_ _)); refine blk_put (cs := #[.int .i64 0, .slice none 0 0]) ?_ 0 _ rfl; (with_reducible repeat (first | refine blk_drewN ?_ _ | refine blk_drew ?_ | refine blk_alloc ?_ _)); exact BK505.out) hb); replace HB := Gv.a0 (below_step Gv.bw hb); clear hb; have hcz86_0 : w85.cell? ⟨gb483, 0, none⟩ = some (.int .i64 t478) := (blk_cell BK483.out 0).trans rfl; have hcz86_1 : w85.cell? ⟨gb483, 1, none⟩ = some (.slice Ao57 t479.length co57) := (blk_cell BK483.out 1).trans rfl; have hfz86_0 := blk_frozen BK483.out 0; have hfz86_1 := blk_frozen BK483.out 1) | ((with_reducible refine gate_callee (f := 22) rfl ?_); refine goesL_ (some 90) rfl rfl Try.func22 (by kernel_rfl) rfl #[.agg #[.int .i64 t478, .slice Ao57 t494.length co57], .int .i64 1] rfl (by (try simp only [List.map_toArray, List.map_cons, List.map_nil]); first | done | (rw [show t494.length = t479.length from (Kd.R_reads' HO481.out).1.symm] <;> rfl) | rfl | (simp only [List.length_drop, List.length_take]; rfl)) ?_; (with_reducible refine (laws_heldTable.calls t478 _ _ t494 1 t507 _ ?side1 ?side2 A30.out).mono ?_); (case side1 => repeat (first | exact (Kd.R_reads' HO481.out).2.2 | (with_reducible refine Kd.C_alloc ?_ _) | (with_reducible refine Kd.C_drewN ?_ _) | (with_reducible refine Kd.C_drew ?_))); (case side2 => rw [show t494.length = t479.length from (Kd.R_reads' HO481.out).1.symm]; exact (Kd.R_reads' HO481.out).2.1); rintro e w87 ⟨rfl, hb⟩; refine ⟨_, rfl, ?_⟩; replace HO466 := Gv.a0 (Kd.R_below (Gv.kr HO466.out) hb); replace HO470 := Gv.a0 (Kd.R_below (Gv.kr HO470.out) hb); replace HO476 := Gv.a0 (Kd.R_below (Gv.kr HO476.out) hb); replace HO481 := Gv.a0 (Kd.R_below (Gv.kr HO481.out) hb); replace HO488 := Gv.a0 (Kd.R_below (Gv.kr HO488.out) hb); replace HO499 := Gv.a0 (Kd.R_below (Gv.kr HO499.out) hb); replace HO503 := Gv.a0 (Kd.R_below (Gv.kr HO503.out) hb); replace BK461 := Gv.a0 (Gv.bb BK461.out hb); replace BK472 := Gv.a0 (Gv.bb BK472.out hb); replace BK477 := Gv.a0 (Gv.bb BK477.out hb); replace BK483 := Gv.a0 (Gv.bb BK483.out hb); replace BK505 := Gv.a0 (Gv.bb BK505.out hb); replace HB := Gv.a0 (below_step Gv.bw hb); clear hb))
             go_ret
             exact ⟨Gv.rt, Gv.bw⟩
            ·rw [if_neg c32] at H
             exact absurd H (by simp)
          ·rw [if_neg c29] at H
           exact absurd H (by simp)
         ·replace c28 := Bool.eq_false_iff.mpr c28
          subst c28
          have H1 : (none) = some r := by rw [if_neg (show ¬ (false = true) by decide)] at H; exact H
          clear H
          have H := H1
          clear H1
          exact absurd H (by simp)
        ·rw [if_neg c24] at H
         exact absurd H (by simp)
      ·replace c20 := Bool.eq_false_iff.mpr c20
       subst c20
       have H1 : (none) = some r := by rw [if_neg (show ¬ (false = true) by decide)] at H; exact H
       clear H
       have H := H1
       clear H1
       exact absurd H (by simp)
    ·replace c16 := Bool.eq_false_iff.mpr c16
     subst c16
     have H1 : (none) = some r := by rw [if_neg (show ¬ (false = true) by decide)] at H; exact H
     clear H
     have H := H1
     clear H1
     exact absurd H (by simp)
   ·rw [if_neg c13] at H
    exact absurd H (by simp)
  ·replace c12 := Bool.eq_false_iff.mpr c12
   subst c12
   have H1 : (none) = some r := by rw [if_neg (show ¬ (false = true) by decide)] at H; exact H
   clear H
   have H := H1
   clear H1
   exact absurd H (by simp)

end Go.Proofs.Ytfnpodebjejhpaa.PTg
