/- Plain Lean functions of a law's Go functions, their contracts, by a program of this session (wip/pr.py over the kit's print). -/
import Derived.Test.YtfnpodebjejhpaaPTkx0
import Derived.Test.YtfnpodebjejhpaaPTkx2
import Derived.Test.YtfnpodebjejhpaaPTkx3
import Derived.Test.YtfnpodebjejhpaaPTkx5
import Derived.Test.YtfnpodebjejhpaaPTkx6
namespace Go.Proofs.Ytfnpodebjejhpaa.PTk
open Go.RowKit Go.Proofs.YtfnpodebjejhpaaW.PrintWords Go.Proofs.YtfnpodebjejhpaaW.PrintLast Go.Proofs.YtfnpodebjejhpaaW.PrintMore
attribute [local go_sem] max2_int min2_int max_two min_two max_three min_three max_four min_four   -- for this text's walks alone
set_option linter.unusedVariables false
set_option linter.unusedSimpArgs false

attribute [local go_sem high] eqA75
/-! ### impl_TableOk: function 26 -/
mutual
def impl_TableOk.j0 : Nat → Bool → Int → List (S75) → Option (Bool)
 | 0, _, _, _ => none
 | k + 1, x25, x426000, x426001 => if x25 = true then (some false) else (impl_TableOk.l0 k x426001 (x426001.length : Int) 0 x426000 x426001)
def impl_TableOk.l0 : Nat → List (S75) → Int → Int → Int → List (S75) → Option (Bool)
 | 0, _, _, _, _, _ => none
 | k + 1, x27, x28, x29, x426000, x426001 => if x29 < x28 then (if 0 ≤ x29 then (if x29 < (x27.length : Int) then (if ((rd_T75 x27 x29).f0 = true) then ((impl_FlowKeyOk.f k ((rd_T75 x27 x29).f1.f0) ((rd_T75 x27 x29).f1.f1.f0.f0) ((rd_T75 x27 x29).f1.f1.f0.f1) ((rd_T75 x27 x29).f1.f1.f0.f2) ((rd_T75 x27 x29).f1.f1.f0.f3) ((rd_T75 x27 x29).f1.f1.f0.f4) ((rd_T75 x27 x29).f1.f1.f1.f0) ((rd_T75 x27 x29).f1.f1.f1.f1) ((rd_T75 x27 x29).f1.f1.f1.f2) ((rd_T75 x27 x29).f1.f1.f1.f3) ((rd_T75 x27 x29).f1.f1.f1.f4) ((rd_T75 x27 x29).f1.f1.f2) ((rd_T75 x27 x29).f1.f1.f3) ((rd_T75 x27 x29).f1.f1.f4)).bind fun t431 => (if t431 = true then ((impl_within.f ((rd_T75 x27 x29).f2) 0 1000000000000).bind fun t432 => (if t432 = true then ((impl_Table_probe.f k x426000 x426001 ((rd_T75 x27 x29).f1.f0) ((rd_T75 x27 x29).f1.f1.f0.f0) ((rd_T75 x27 x29).f1.f1.f0.f1) ((rd_T75 x27 x29).f1.f1.f0.f2) ((rd_T75 x27 x29).f1.f1.f0.f3) ((rd_T75 x27 x29).f1.f1.f0.f4) ((rd_T75 x27 x29).f1.f1.f1.f0) ((rd_T75 x27 x29).f1.f1.f1.f1) ((rd_T75 x27 x29).f1.f1.f1.f2) ((rd_T75 x27 x29).f1.f1.f1.f3) ((rd_T75 x27 x29).f1.f1.f1.f4) ((rd_T75 x27 x29).f1.f1.f2) ((rd_T75 x27 x29).f1.f1.f3) ((rd_T75 x27 x29).f1.f1.f4)).bind fun t433 => (if t433 = x29 then (impl_TableOk.l0 k x27 x28 (wrap64 (x29 + 1)) x426000 x426001) else (some false))) else (some false))) else (some false))) else (if (((rd_T75 x27 x29).f0) || ((!(((rd_T75 x27 x29).f1.f0) == 0) || (((!(((rd_T75 x27 x29).f1.f1.f0.f0) == 0) || (!(((rd_T75 x27 x29).f1.f1.f0.f1) == 0) || (!(((rd_T75 x27 x29).f1.f1.f0.f2) == 0) || (!(((rd_T75 x27 x29).f1.f1.f0.f3) == 0) || (!(((rd_T75 x27 x29).f1.f1.f0.f4) == 0)))))) || ((!(((rd_T75 x27 x29).f1.f1.f1.f0) == 0) || (!(((rd_T75 x27 x29).f1.f1.f1.f1) == 0) || (!(((rd_T75 x27 x29).f1.f1.f1.f2) == 0) || (!(((rd_T75 x27 x29).f1.f1.f1.f3) == 0) || (!(((rd_T75 x27 x29).f1.f1.f1.f4) == 0)))))) || (!(((rd_T75 x27 x29).f1.f1.f2) == 0) || (!(((rd_T75 x27 x29).f1.f1.f3) == 0) || (!(((rd_T75 x27 x29).f1.f1.f4) == 0)))))))) || (!(((rd_T75 x27 x29).f2) == 0)))) = true then (some false) else (impl_TableOk.l0 k x27 x28 (wrap64 (x29 + 1)) x426000 x426001))) else (none)) else (none)) else (some true)
end
def impl_TableOk.f (k : Nat) (a0_0 : Int) (l0_1 : List (S75)) : Option (Bool) := (impl_within.f a0_0 0 4294967295).bind fun t426 => (if t426 = true then ((impl_isCells.f (l0_1.length : Int)).bind fun t427 => (if t427 = true then ((impl_Table_used.f k a0_0 l0_1).bind fun t428 => (impl_TableOk.j0 k (decide ((wrap64 (4 * t428)) > (wrap64 (3 * (l0_1.length : Int))))) a0_0 l0_1)) else (impl_TableOk.j0 k true a0_0 l0_1))) else (impl_TableOk.j0 k true a0_0 l0_1))
theorem impl_TableOk.mono_l : ∀ k, (∀ y0 y1 y2, LeO (impl_TableOk.j0 k y0 y1 y2) (impl_TableOk.j0 (k + 1) y0 y1 y2)) ∧ (∀ y0 y1 y2 y3 y4, LeO (impl_TableOk.l0 k y0 y1 y2 y3 y4) (impl_TableOk.l0 (k + 1) y0 y1 y2 y3 y4))
 | 0 => ⟨fun _ _ _ r h => by simp [impl_TableOk.j0] at h, fun _ _ _ _ _ r h => by simp [impl_TableOk.l0] at h⟩
 | k + 1 => by
  obtain ⟨ih0, ih1⟩ := impl_TableOk.mono_l k
  refine ⟨?_, ?_⟩
  ·intro y0 y1 y2
   unfold impl_TableOk.j0
   repeat' first
   | (with_reducible exact ih0 _ _ _)
   | (with_reducible exact ih1 _ _ _ _ _)
   | (with_reducible exact impl_FlowKeyOk.mono _ _ _ _ _ _ _ _ _ _ _ _ _ _ _)
   | (with_reducible exact impl_Table_probe.mono _ _ _ _ _ _ _ _ _ _ _ _ _ _ _ _ _)
   | (with_reducible exact impl_Table_used.mono _ _ _)
   | (with_reducible exact LeO.refl _)
   | (with_reducible exact LeO.none _)
   | (with_reducible refine LeO.ite ?_ ?_)
   | (with_reducible refine LeO.bind ?_ (fun _ => ?_))
   | exact ih0 _ _ _
   | exact ih1 _ _ _ _ _
   | exact impl_FlowKeyOk.mono _ _ _ _ _ _ _ _ _ _ _ _ _ _ _
   | exact impl_Table_probe.mono _ _ _ _ _ _ _ _ _ _ _ _ _ _ _ _ _
   | exact impl_Table_used.mono _ _ _
   | exact LeO.none _
   | refine LeO.ite ?_ ?_
   | refine LeO.bind ?_ (fun _ => ?_)
  ·intro y0 y1 y2 y3 y4
   unfold impl_TableOk.l0
   repeat' first
   | (with_reducible exact ih0 _ _ _)
   | (with_reducible exact ih1 _ _ _ _ _)
   | (with_reducible exact impl_FlowKeyOk.mono _ _ _ _ _ _ _ _ _ _ _ _ _ _ _)
   | (with_reducible exact impl_Table_probe.mono _ _ _ _ _ _ _ _ _ _ _ _ _ _ _ _ _)
   | (with_reducible exact impl_Table_used.mono _ _ _)
   | (with_reducible exact LeO.refl _)
   | (with_reducible exact LeO.none _)
   | (with_reducible refine LeO.ite ?_ ?_)
   | (with_reducible refine LeO.bind ?_ (fun _ => ?_))
   | exact ih0 _ _ _
   | exact ih1 _ _ _ _ _
   | exact impl_FlowKeyOk.mono _ _ _ _ _ _ _ _ _ _ _ _ _ _ _
   | exact impl_Table_probe.mono _ _ _ _ _ _ _ _ _ _ _ _ _ _ _ _ _
   | exact impl_Table_used.mono _ _ _
   | exact LeO.none _
   | refine LeO.ite ?_ ?_
   | refine LeO.bind ?_ (fun _ => ?_)
theorem impl_TableOk.mono : ∀ a0 a1 k, LeO (impl_TableOk.f k a0 a1) (impl_TableOk.f (k + 1) a0 a1) := by
 intro a0 a1 k
 obtain ⟨ih0, ih1⟩ := impl_TableOk.mono_l k
 unfold impl_TableOk.f
 repeat' first
   | (with_reducible exact ih0 _ _ _)
   | (with_reducible exact ih1 _ _ _ _ _)
   | (with_reducible exact impl_FlowKeyOk.mono _ _ _ _ _ _ _ _ _ _ _ _ _ _ _)
   | (with_reducible exact impl_Table_probe.mono _ _ _ _ _ _ _ _ _ _ _ _ _ _ _ _ _)
   | (with_reducible exact impl_Table_used.mono _ _ _)
   | (with_reducible exact LeO.refl _)
   | (with_reducible exact LeO.none _)
   | (with_reducible refine LeO.ite ?_ ?_)
   | (with_reducible refine LeO.bind ?_ (fun _ => ?_))
   | exact ih0 _ _ _
   | exact ih1 _ _ _ _ _
   | exact impl_FlowKeyOk.mono _ _ _ _ _ _ _ _ _ _ _ _ _ _ _
   | exact impl_Table_probe.mono _ _ _ _ _ _ _ _ _ _ _ _ _ _ _ _ _
   | exact impl_Table_used.mono _ _ _
   | exact LeO.none _
   | refine LeO.ite ?_ ?_
   | refine LeO.bind ?_ (fun _ => ?_)
def impl_TableOk.T1 : Bool × List (List Nat × List Nat) := (true, [([], []), ([0], [0]), ([1], [1]), ([2], [2]), ([3, 2], [3]), ([4], [4]), ([5, 4], [4, 5]), ([6, 4], [4, 6]), ([7, 4, 4], [4, 7]), ([8, 4], [4, 8]), ([4, 9], [4, 9]), ([10, 8], [10]), ([11], [11]), ([12, 11, 11], [11, 12]), ([13, 11], [11, 13]), ([11], [11]), ([15, 11], [11, 15]), ([16, 11], [11, 16]), ([17, 11], [11, 17]), ([14, 18, 11], [11, 14, 18]), ([11, 19], [11, 19])])
def impl_TableOk.B1 : List Nat := [0, 1, 3, 7, 15, 31, 63, 127, 255, 511, 1023, 2047, 4095, 8191, 16383, 4095, 36863, 102399, 233471, 524287, 1048575]
theorem impl_TableOk.tab1 : rtab .any (opsOf Try.f26 1) = impl_TableOk.T1 := by kernel_rfl
theorem impl_TableOk.bits1 : waitsOk impl_TableOk.T1.2 impl_TableOk.B1 = true := by kernel_rfl
set_option maxHeartbeats 8000000 in
set_option maxRecDepth 100000 in
theorem impl_TableOk.calls (k : Nat) (a0_0 : Int) (A0_1 : Option Addr) (c0_1 : Nat) (l0_1 : List (S75)) (r : Bool) (w : World) (hr0_1 : Kd.C k75 w A0_1 l0_1.length l0_1) (hc0_1 : l0_1.length ≤ c0_1) (h : impl_TableOk.f k a0_0 l0_1 = some r) :
  Calls Try.prog 26 #[.agg #[.int .i64 a0_0, .slice A0_1 l0_1.length c0_1]] w fun e w' => e = .returned (.bool r) ∧ Below w.heap.size w w' := by
 have hu40 := Try.underlying40
 have hu75 := Try.underlying75
 have hu33 := Try.underlying33
 have HR0_1 := Gv.a0 hr0_1
 have HC0_1 := Gv.a0 hc0_1
 clear hr0_1 hc0_1
 have HB := Gv.a0 (Below.refl w.heap.size w)
 have H : ((impl_within.f a0_0 0 4294967295).bind fun t426 => (if t426 = true then ((impl_isCells.f (l0_1.length : Int)).bind fun t427 => (if t427 = true then ((impl_Table_used.f k a0_0 l0_1).bind fun t428 => (impl_TableOk.j0 k (decide ((wrap64 (4 * t428)) > (wrap64 (3 * (l0_1.length : Int))))) a0_0 l0_1)) else (impl_TableOk.j0 k true a0_0 l0_1))) else (impl_TableOk.j0 k true a0_0 l0_1))) = some r := h
 clear h
 have HC2 := Gv.a0 H
 clear H
 go_enter Try.func26, Try.ntmps26
 go_upto_region 1 with (first | ((with_reducible refine gate_dst (N := 1) rfl ?_); (try (refine gate_guard (by rfl) ?_; dsimp only)); refine box_event ?hg (N := 1) ?hd (cs := #[.int .i64 a0_0, .slice A0_1 l0_1.length c0_1]) (t := 40) ?hr ?_; (case hd => rfl); (case hg => rfl); (case hr => first | (go_simp; done) | (go_simp; rfl)); intro gb425 hg w3 hbox hb; have n0_ := Gv.a0 (below_step Gv.bw hb); have n1_ := Gv.a0 (hbox); have n2_ := Gv.a0 ((Gv.ble hg Gv.bw : w.heap.size ≤ gb425)); have n3_ := Gv.a0 ((Gv.ble hg Gv.bw : w.heap.size ≤ gb425)); clear HB; have HB := n0_; have BK425 := n1_; have GW425 := n2_; have GE425 := n3_; clear n0_ n1_ n2_ n3_; clear hb hbox hg) | ((with_reducible refine gate_store (t := 40) (p := 1) rfl ?_); refine Gv.store_event rfl rfl rfl rfl rfl (Gv.kb BK425.out) (by kernel_rfl) rfl (by simp; and_intros <;> rfl) ?_; intro w3s hbox hoth hbel; have n0_ := Gv.a0 (hbox); have n1_ := Gv.a0 (hbel w Gv.bw GE425.out); clear BK425 HB; have BK425 := n0_; have HB := n1_; clear n0_ n1_ hbox hoth hbel) | ((with_reducible refine Gv.gate_load (t := 75) rfl ?_); (try (refine gate_guard (by rfl) ?_; dsimp only)); refine wpList_load_row rfl 75 _ rfl gb430 rfl 75 _ _ _ (by first | exact Gv.kb0 BK430.out | exact Gv.kb1 (Gv.kb0 BK430.out)) Try.underlying75 rfl (by kernel_rfl) ?_))
 (try simp only [Act.put, List.setIfInBounds_toArray, List.set_cons_zero, List.set_cons_succ])
 go_cut [25] (fun v25 wc => ∃ (kq : Nat) (x25_1 : Bool), v25 = .bool x25_1 ∧ Aside0 (impl_TableOk.j0 kq x25_1 a0_0 l0_1 = some r) ∧ Aside0 (kq ≤ k) ∧ Aside0 (wc.heap[gb425]? = some (.cells #[.int .i64 a0_0, (.slice A0_1 l0_1.length c0_1)] 40 (0, 0))) ∧ Aside0 (Below w.heap.size w wc))
 case first =>
  have H := HC2.out
  clear HC2
  replace H := Option.bind_eq_some_iff.mp H
  obtain ⟨t426, A40, H⟩ := H
  replace H : (if t426 = true then ((impl_isCells.f (l0_1.length : Int)).bind fun t427 => (if t427 = true then ((impl_Table_used.f k a0_0 l0_1).bind fun t428 => (impl_TableOk.j0 k (decide ((wrap64 (4 * t428)) > (wrap64 (3 * (l0_1.length : Int))))) a0_0 l0_1)) else (impl_TableOk.j0 k true a0_0 l0_1))) else (impl_TableOk.j0 k true a0_0 l0_1)) = some r := H
  have A4 := Gv.a0 A40
  clear A40
  by_cases c5 : t426 = true
  ·subst c5
   have H1 : ((impl_isCells.f (l0_1.length : Int)).bind fun t427 => (if t427 = true then ((impl_Table_used.f k a0_0 l0_1).bind fun t428 => (impl_TableOk.j0 k (decide ((wrap64 (4 * t428)) > (wrap64 (3 * (l0_1.length : Int))))) a0_0 l0_1)) else (impl_TableOk.j0 k true a0_0 l0_1))) = some r := by rw [if_pos rfl] at H; exact H
   clear H
   have H := H1
   clear H1
   replace H := Option.bind_eq_some_iff.mp H
   obtain ⟨t427, A60, H⟩ := H
   replace H : (if t427 = true then ((impl_Table_used.f k a0_0 l0_1).bind fun t428 => (impl_TableOk.j0 k (decide ((wrap64 (4 * t428)) > (wrap64 (3 * (l0_1.length : Int))))) a0_0 l0_1)) else (impl_TableOk.j0 k true a0_0 l0_1)) = some r := H
   have A6 := Gv.a0 A60
   clear A60
   by_cases c7 : t427 = true
   ·subst c7
    have H1 : ((impl_Table_used.f k a0_0 l0_1).bind fun t428 => (impl_TableOk.j0 k (decide ((wrap64 (4 * t428)) > (wrap64 (3 * (l0_1.length : Int))))) a0_0 l0_1)) = some r := by rw [if_pos rfl] at H; exact H
    clear H
    have H := H1
    clear H1
    replace H := Option.bind_eq_some_iff.mp H
    obtain ⟨t428, A80, H⟩ := H
    replace H : (impl_TableOk.j0 k (decide ((wrap64 (4 * t428)) > (wrap64 (3 * (l0_1.length : Int))))) a0_0 l0_1) = some r := H
    have A8 := Gv.a0 A80
    clear A80
    have H' := Gv.a0 H
    clear H
    try go_wp2
    have n0_ := Gv.a0 (blk_drew BK425.out)
    have n1_ := Gv.a0 (below_drew1 HB.out)
    clear BK425
    clear HB
    have BK425 := n0_
    have HB := n1_
    clear n0_ n1_
    refine start_ (n := 21) (S := fun w' => w'.cell? ⟨gb425, 0, none⟩ = some (.int .i64 a0_0) ∧ w'.cell? ⟨gb425, 1, none⟩ = some (.slice A0_1 l0_1.length c0_1)) (ds := []) #[false, false, false, false, false, false, false, false, false, false, false, false, false, false, false, false, false, false, false, false, false] (by kernel_rfl) rfl rfl ⟨(blk_cell BK425.out 0).trans rfl, (blk_cell BK425.out 1).trans rfl⟩ (fun hHeld => ?_); refine with_tabW impl_TableOk.tab1 impl_TableOk.bits1 (fun HT_ HW_ => ?_)
    generalize w3.drew = w9 at BK425 HB hHeld ⊢
    refine Gv.pu 0 (some 5) HT_ ?_
    refine take_ (i := 1) (N := some 6) (v := ?_) (a' := ?_) #[true, true, false, false, false, false, false, false, false, false, false, false, false, false, false, false, false, false, false, false, false] rfl rfl (take_ofW HT_.out HW_.out (by kernel_rfl)) (fun _ _ _ h => h) (Or.inl ⟨by rfl, ?_⟩) hHeld ?_ ?_
    rotate_left
    ·rintro w' ⟨s0, s1⟩
     go_simp
     with_reducible rfl
    rotate_left
    ·simp only [Act.put, List.setIfInBounds_toArray, List.set_cons_zero, List.set_cons_succ, i64_w, i32_w]
     rfl
    refine one_ (i := 2) (N := some 7) #[true, true, true, false, false, false, false, false, false, false, false, false, false, false, false, false, false, false, false, false, false] rfl rfl (one_of HT_.out (by kernel_rfl)) (by decide) (fun K hK => ?_)
    refine goes_ Try.func44 (by kernel_rfl) rfl #[.int .i64 a0_0, .int .i64 0, .int .i64 4294967295] (by rfl) rfl rfl Gv.lm ?_
    with_reducible refine (impl_within.calls a0_0 0 4294967295 true _ A4.out).mono ?_
    rintro e w' ⟨rfl, ⟨nd, rfl⟩⟩
    refine ⟨_, rfl, ?_⟩
    refine hK.out _ _ ⟨(blk_cell BK425.out 0).trans rfl, (blk_cell BK425.out 1).trans rfl⟩ (fun hHeld => ?_)
    clear hK K
    refine norm_ (a' := ?_) ?_ ?_
    rotate_left
    ·show Act.put _ (some 7) _ = _
     simp only [Act.put, List.setIfInBounds_toArray, List.set_cons_zero, List.set_cons_succ, i64_w, i32_w]
     rfl
    refine Gv.pu 3 (some 8) HT_ ?_
    refine Gv.pu 4 (some 9) HT_ ?_
    refine Gv.pu 5 (some 10) HT_ ?_
    refine take_ (i := 6) (N := some 11) (v := ?_) (a' := ?_) #[true, true, true, true, true, true, true, false, false, false, false, false, false, false, false, false, false, false, false, false, false] rfl rfl (take_ofW HT_.out HW_.out (by kernel_rfl)) (fun _ _ _ h => h) (Or.inl ⟨by rfl, ?_⟩) hHeld ?_ ?_
    rotate_left
    ·rintro w' ⟨s0, s1⟩
     go_simp
     with_reducible rfl
    rotate_left
    ·simp only [Act.put, List.setIfInBounds_toArray, List.set_cons_zero, List.set_cons_succ, i64_w, i32_w]
     rfl
    refine Gv.pu 7 (some 12) HT_ ?_
    refine one_ (i := 8) (N := some 13) #[true, true, true, true, true, true, true, true, true, false, false, false, false, false, false, false, false, false, false, false, false] rfl rfl (one_of HT_.out (by kernel_rfl)) (by decide) (fun K hK => ?_)
    refine goes_ Try.func48 (by kernel_rfl) rfl #[.int .i64 (l0_1.length : Int)] (by rfl) rfl rfl Gv.lm ?_
    with_reducible refine (impl_isCells.calls (l0_1.length : Int) true _ A6.out).mono ?_
    rintro e w' ⟨rfl, ⟨nd, rfl⟩⟩
    refine ⟨_, rfl, ?_⟩
    refine hK.out _ _ ⟨(blk_cell BK425.out 0).trans rfl, (blk_cell BK425.out 1).trans rfl⟩ (fun hHeld => ?_)
    clear hK K
    refine norm_ (a' := ?_) ?_ ?_
    rotate_left
    ·show Act.put _ (some 13) _ = _
     simp only [Act.put, List.setIfInBounds_toArray, List.set_cons_zero, List.set_cons_succ, i64_w, i32_w]
     rfl
    refine Gv.pu 9 (some 14) HT_ ?_
    refine Gv.pu 10 (some 15) HT_ ?_
    refine Gv.pu 11 (some 16) HT_ ?_
    refine Gv.pu 15 (some 20) HT_ ?_
    refine take_ (i := 12) (N := some 17) (v := ?_) (a' := ?_) #[true, true, true, true, true, true, true, true, true, true, true, true, true, false, false, true, false, false, false, false, false] rfl rfl (take_ofW HT_.out HW_.out (by kernel_rfl)) (fun _ _ _ h => h) (Or.inl ⟨by rfl, ?_⟩) hHeld ?_ ?_
    rotate_left
    ·rintro w' ⟨s0, s1⟩
     go_simp
     with_reducible rfl
    rotate_left
    ·simp only [Act.put, List.setIfInBounds_toArray, List.set_cons_zero, List.set_cons_succ, i64_w, i32_w]
     rfl
    refine take_ (i := 16) (N := some 21) (v := ?_) (a' := ?_) #[true, true, true, true, true, true, true, true, true, true, true, true, true, false, false, true, true, false, false, false, false] rfl rfl (take_ofW HT_.out HW_.out (by kernel_rfl)) (fun _ _ _ h => h) (Or.inl ⟨by rfl, ?_⟩) hHeld ?_ ?_
    rotate_left
    ·rintro w' ⟨s0, s1⟩
     go_simp
     with_reducible rfl
    rotate_left
    ·simp only [Act.put, List.setIfInBounds_toArray, List.set_cons_zero, List.set_cons_succ, i64_w, i32_w]
     rfl
    refine Gv.pu 17 (some 22) HT_ ?_
    refine Gv.pu 18 (some 23) HT_ ?_
    refine one_ (i := 13) (N := some 18) #[true, true, true, true, true, true, true, true, true, true, true, true, true, true, false, true, true, true, true, false, false] rfl rfl (one_of HT_.out (by kernel_rfl)) (by decide) (fun K hK => ?_)
    refine goes_ Try.func57 (by kernel_rfl) rfl #[.agg #[.int .i64 a0_0, .slice A0_1 l0_1.length c0_1]] (by rfl) rfl rfl Gv.lm ?_
    with_reducible refine (impl_Table_used.calls k a0_0 _ _ l0_1 t428 _ ?side1 ?side2 A8.out).mono ?_
    (case side1 => repeat (first | exact (Kd.C_below HR0_1.out Gv.bw) | (with_reducible refine Kd.C_alloc ?_ _) | (with_reducible refine Kd.C_drewN ?_ _) | (with_reducible refine Kd.C_drew ?_)))
    (case side2 => exact HC0_1.out)
    rintro e w10 ⟨rfl, hb⟩
    refine ⟨_, rfl, ?_⟩
    have n0_ := Gv.a0 (Gv.bb BK425.out hb)
    have n1_ := Gv.a0 (below_step Gv.bw hb)
    clear BK425
    clear HB
    have BK425 := n0_
    have HB := n1_
    clear n0_ n1_
    (try clear hb)
    (try clear hb2)
    (try clear hk)
    (try clear hi)
    refine hK.out _ _ ⟨(blk_cell BK425.out 0).trans rfl, (blk_cell BK425.out 1).trans rfl⟩ (fun hHeld => ?_)
    clear hK K
    refine norm_ (a' := ?_) ?_ ?_
    rotate_left
    ·show Act.put _ (some 18) _ = _
     simp only [Act.put, List.setIfInBounds_toArray, List.set_cons_zero, List.set_cons_succ, i64_w, i32_w]
     rfl
    refine Gv.pu 14 (some 19) HT_ ?_
    refine Gv.pu 19 (some 24) HT_ ?_
    refine Gv.pu 20 (some 25) HT_ ?_
    refine done_ (done_of HT_.out (by kernel_rfl)) ?_
    try go_wp2
    go_meet
    case rel => exact ⟨_, (decide ((wrap64 (4 * t428)) > (wrap64 (3 * (l0_1.length : Int))))), Gv.rq, H', ⟨by first | omega | exact Nat.le_refl _⟩, ⟨by (with_reducible repeat (first | refine blk_drewN ?_ _ | refine blk_drew ?_ | refine blk_alloc ?_ _)); exact BK425.out⟩, ⟨Gv.bw⟩⟩
   ·replace c7 := Bool.eq_false_iff.mpr c7
    subst c7
    have H1 : (impl_TableOk.j0 k true a0_0 l0_1) = some r := by rw [if_neg (show ¬ (false = true) by decide)] at H; exact H
    clear H
    have H := H1
    clear H1
    have H' := Gv.a0 H
    clear H
    try go_wp2
    have n0_ := Gv.a0 (blk_drew BK425.out)
    have n1_ := Gv.a0 (below_drew1 HB.out)
    clear BK425
    clear HB
    have BK425 := n0_
    have HB := n1_
    clear n0_ n1_
    refine start_ (n := 21) (S := fun w' => w'.cell? ⟨gb425, 0, none⟩ = some (.int .i64 a0_0) ∧ w'.cell? ⟨gb425, 1, none⟩ = some (.slice A0_1 l0_1.length c0_1)) (ds := []) #[false, false, false, false, false, false, false, false, false, false, false, false, false, false, false, false, false, false, false, false, false] (by kernel_rfl) rfl rfl ⟨(blk_cell BK425.out 0).trans rfl, (blk_cell BK425.out 1).trans rfl⟩ (fun hHeld => ?_); refine with_tabW impl_TableOk.tab1 impl_TableOk.bits1 (fun HT_ HW_ => ?_)
    generalize w3.drew = w11 at BK425 HB hHeld ⊢
    refine Gv.pu 0 (some 5) HT_ ?_
    refine take_ (i := 1) (N := some 6) (v := ?_) (a' := ?_) #[true, true, false, false, false, false, false, false, false, false, false, false, false, false, false, false, false, false, false, false, false] rfl rfl (take_ofW HT_.out HW_.out (by kernel_rfl)) (fun _ _ _ h => h) (Or.inl ⟨by rfl, ?_⟩) hHeld ?_ ?_
    rotate_left
    ·rintro w' ⟨s0, s1⟩
     go_simp
     with_reducible rfl
    rotate_left
    ·simp only [Act.put, List.setIfInBounds_toArray, List.set_cons_zero, List.set_cons_succ, i64_w, i32_w]
     rfl
    refine one_ (i := 2) (N := some 7) #[true, true, true, false, false, false, false, false, false, false, false, false, false, false, false, false, false, false, false, false, false] rfl rfl (one_of HT_.out (by kernel_rfl)) (by decide) (fun K hK => ?_)
    refine goes_ Try.func44 (by kernel_rfl) rfl #[.int .i64 a0_0, .int .i64 0, .int .i64 4294967295] (by rfl) rfl rfl Gv.lm ?_
    with_reducible refine (impl_within.calls a0_0 0 4294967295 true _ A4.out).mono ?_
    rintro e w' ⟨rfl, ⟨nd, rfl⟩⟩
    refine ⟨_, rfl, ?_⟩
    refine hK.out _ _ ⟨(blk_cell BK425.out 0).trans rfl, (blk_cell BK425.out 1).trans rfl⟩ (fun hHeld => ?_)
    clear hK K
    refine norm_ (a' := ?_) ?_ ?_
    rotate_left
    ·show Act.put _ (some 7) _ = _
     simp only [Act.put, List.setIfInBounds_toArray, List.set_cons_zero, List.set_cons_succ, i64_w, i32_w]
     rfl
    refine Gv.pu 3 (some 8) HT_ ?_
    refine Gv.pu 4 (some 9) HT_ ?_
    refine Gv.pu 5 (some 10) HT_ ?_
    refine take_ (i := 6) (N := some 11) (v := ?_) (a' := ?_) #[true, true, true, true, true, true, true, false, false, false, false, false, false, false, false, false, false, false, false, false, false] rfl rfl (take_ofW HT_.out HW_.out (by kernel_rfl)) (fun _ _ _ h => h) (Or.inl ⟨by rfl, ?_⟩) hHeld ?_ ?_
    rotate_left
    ·rintro w' ⟨s0, s1⟩
     go_simp
     with_reducible rfl
    rotate_left
    ·simp only [Act.put, List.setIfInBounds_toArray, List.set_cons_zero, List.set_cons_succ, i64_w, i32_w]
     rfl
    refine Gv.pu 7 (some 12) HT_ ?_
    refine one_ (i := 8) (N := some 13) #[true, true, true, true, true, true, true, true, true, false, false, false, false, false, false, false, false, false, false, false, false] rfl rfl (one_of HT_.out (by kernel_rfl)) (by decide) (fun K hK => ?_)
    refine goes_ Try.func48 (by kernel_rfl) rfl #[.int .i64 (l0_1.length : Int)] (by rfl) rfl rfl Gv.lm ?_
    with_reducible refine (impl_isCells.calls (l0_1.length : Int) false _ A6.out).mono ?_
    rintro e w' ⟨rfl, ⟨nd, rfl⟩⟩
    refine ⟨_, rfl, ?_⟩
    refine hK.out _ _ ⟨(blk_cell BK425.out 0).trans rfl, (blk_cell BK425.out 1).trans rfl⟩ (fun hHeld => ?_)
    clear hK K
    refine norm_ (a' := ?_) ?_ ?_
    rotate_left
    ·show Act.put _ (some 13) _ = _
     simp only [Act.put, List.setIfInBounds_toArray, List.set_cons_zero, List.set_cons_succ, i64_w, i32_w]
     rfl
    refine Gv.pu 9 (some 14) HT_ ?_
    refine Gv.pu 10 (some 15) HT_ ?_
    refine Gv.pu 11 (some 16) HT_ ?_
    refine Gv.pn 12 (some 17) HT_ ?_
    refine Gv.pn 13 (some 18) HT_ ?_
    refine Gv.pn 14 (some 19) HT_ ?_
    refine Gv.pn 15 (some 20) HT_ ?_
    refine Gv.pn 16 (some 21) HT_ ?_
    refine Gv.pn 17 (some 22) HT_ ?_
    refine Gv.pn 18 (some 23) HT_ ?_
    refine Gv.pn 19 (some 24) HT_ ?_
    refine Gv.pu 20 (some 25) HT_ ?_
    refine done_ (done_of HT_.out (by kernel_rfl)) ?_
    try go_wp2
    go_meet
    case rel => exact ⟨_, (true), Gv.rq, H', ⟨by first | omega | exact Nat.le_refl _⟩, ⟨by (with_reducible repeat (first | refine blk_drewN ?_ _ | refine blk_drew ?_ | refine blk_alloc ?_ _)); exact BK425.out⟩, ⟨Gv.bw⟩⟩
  ·replace c5 := Bool.eq_false_iff.mpr c5
   subst c5
   have H1 : (impl_TableOk.j0 k true a0_0 l0_1) = some r := by rw [if_neg (show ¬ (false = true) by decide)] at H; exact H
   clear H
   have H := H1
   clear H1
   have H' := Gv.a0 H
   clear H
   try go_wp2
   have n0_ := Gv.a0 (blk_drew BK425.out)
   have n1_ := Gv.a0 (below_drew1 HB.out)
   clear BK425
   clear HB
   have BK425 := n0_
   have HB := n1_
   clear n0_ n1_
   refine start_ (n := 21) (S := fun w' => w'.cell? ⟨gb425, 0, none⟩ = some (.int .i64 a0_0) ∧ w'.cell? ⟨gb425, 1, none⟩ = some (.slice A0_1 l0_1.length c0_1)) (ds := []) #[false, false, false, false, false, false, false, false, false, false, false, false, false, false, false, false, false, false, false, false, false] (by kernel_rfl) rfl rfl ⟨(blk_cell BK425.out 0).trans rfl, (blk_cell BK425.out 1).trans rfl⟩ (fun hHeld => ?_); refine with_tabW impl_TableOk.tab1 impl_TableOk.bits1 (fun HT_ HW_ => ?_)
   generalize w3.drew = w12 at BK425 HB hHeld ⊢
   refine Gv.pu 0 (some 5) HT_ ?_
   refine take_ (i := 1) (N := some 6) (v := ?_) (a' := ?_) #[true, true, false, false, false, false, false, false, false, false, false, false, false, false, false, false, false, false, false, false, false] rfl rfl (take_ofW HT_.out HW_.out (by kernel_rfl)) (fun _ _ _ h => h) (Or.inl ⟨by rfl, ?_⟩) hHeld ?_ ?_
   rotate_left
   ·rintro w' ⟨s0, s1⟩
    go_simp
    with_reducible rfl
   rotate_left
   ·simp only [Act.put, List.setIfInBounds_toArray, List.set_cons_zero, List.set_cons_succ, i64_w, i32_w]
    rfl
   refine one_ (i := 2) (N := some 7) #[true, true, true, false, false, false, false, false, false, false, false, false, false, false, false, false, false, false, false, false, false] rfl rfl (one_of HT_.out (by kernel_rfl)) (by decide) (fun K hK => ?_)
   refine goes_ Try.func44 (by kernel_rfl) rfl #[.int .i64 a0_0, .int .i64 0, .int .i64 4294967295] (by rfl) rfl rfl Gv.lm ?_
   with_reducible refine (impl_within.calls a0_0 0 4294967295 false _ A4.out).mono ?_
   rintro e w' ⟨rfl, ⟨nd, rfl⟩⟩
   refine ⟨_, rfl, ?_⟩
   refine hK.out _ _ ⟨(blk_cell BK425.out 0).trans rfl, (blk_cell BK425.out 1).trans rfl⟩ (fun hHeld => ?_)
   clear hK K
   refine norm_ (a' := ?_) ?_ ?_
   rotate_left
   ·show Act.put _ (some 7) _ = _
    simp only [Act.put, List.setIfInBounds_toArray, List.set_cons_zero, List.set_cons_succ, i64_w, i32_w]
    rfl
   refine Gv.pu 3 (some 8) HT_ ?_
   refine Gv.pu 4 (some 9) HT_ ?_
   refine Gv.pn 5 (some 10) HT_ ?_
   refine Gv.pn 6 (some 11) HT_ ?_
   refine Gv.pn 7 (some 12) HT_ ?_
   refine Gv.pn 8 (some 13) HT_ ?_
   refine Gv.pn 9 (some 14) HT_ ?_
   refine Gv.pu 10 (some 15) HT_ ?_
   refine Gv.pu 11 (some 16) HT_ ?_
   refine Gv.pn 12 (some 17) HT_ ?_
   refine Gv.pn 13 (some 18) HT_ ?_
   refine Gv.pn 14 (some 19) HT_ ?_
   refine Gv.pn 15 (some 20) HT_ ?_
   refine Gv.pn 16 (some 21) HT_ ?_
   refine Gv.pn 17 (some 22) HT_ ?_
   refine Gv.pn 18 (some 23) HT_ ?_
   refine Gv.pn 19 (some 24) HT_ ?_
   refine Gv.pu 20 (some 25) HT_ ?_
   refine done_ (done_of HT_.out (by kernel_rfl)) ?_
   try go_wp2
   go_meet
   case rel => exact ⟨_, (true), Gv.rq, H', ⟨by first | omega | exact Nat.le_refl _⟩, ⟨by (with_reducible repeat (first | refine blk_drewN ?_ _ | refine blk_drew ?_ | refine blk_alloc ?_ _)); exact BK425.out⟩, ⟨Gv.bw⟩⟩
 case rest =>
  clear HC2
  try clear c2
  try clear p2
  try clear c4
  try clear c5
  try clear p6
  try clear c7
  obtain ⟨kq, x25_1, rfl, HA, HJ1, BK425, HB⟩ := hcut
  cases kq with
  | zero => exact absurd HA.out (by simp [impl_TableOk.j0])
  | succ kj1 =>
   have H := HA.out
   clear HA
   simp only [impl_TableOk.j0] at H
   by_cases c13 : x25_1 = true
   ·subst c13
    have H1 : (some false) = some r := by rw [if_pos rfl] at H; exact H
    clear H
    have H := H1
    clear H1
    obtain rfl := Option.some.inj H
    go_wp2_with (first | ((with_reducible refine Gv.gate_load (t := 75) rfl ?_); (try (refine gate_guard (by rfl) ?_; dsimp only)); refine wpList_load_row rfl 75 _ rfl gb430 rfl 75 _ _ _ (by first | exact Gv.kb0 BK430.out | exact Gv.kb1 (Gv.kb0 BK430.out)) Try.underlying75 rfl (by kernel_rfl) ?_))
    go_ret
    exact ⟨Gv.rt, Gv.bw⟩
   ·replace c13 := Bool.eq_false_iff.mpr c13
    subst c13
    have H1 : (impl_TableOk.l0 kj1 l0_1 (l0_1.length : Int) 0 a0_0 l0_1) = some r := by rw [if_neg (show ¬ (false = true) by decide)] at H; exact H
    clear H
    have H := H1
    clear H1
    have H' := Gv.a0 H
    clear H
    have hcz14_0 : wc.cell? ⟨gb425, 0, none⟩ = some (.int .i64 a0_0) := (blk_cell BK425.out 0).trans rfl
    have hcz14_1 : wc.cell? ⟨gb425, 1, none⟩ = some (.slice A0_1 l0_1.length c0_1) := (blk_cell BK425.out 1).trans rfl
    have hfz14_0 := blk_frozen BK425.out 0
    have hfz14_1 := blk_frozen BK425.out 1
    go_wp2_with (first | ((with_reducible refine Gv.gate_load (t := 75) rfl ?_); (try (refine gate_guard (by rfl) ?_; dsimp only)); refine wpList_load_row rfl 75 _ rfl gb430 rfl 75 _ _ _ (by first | exact Gv.kb0 BK430.out | exact Gv.kb1 (Gv.kb0 BK430.out)) Try.underlying75 rfl (by kernel_rfl) ?_))
    go_loopg [29] kj1 (fun kq v29 w' => ∃ (x29_2 : Int), v29 = .int .i64 x29_2 ∧ Aside0 (impl_TableOk.l0 kq l0_1 (l0_1.length : Int) x29_2 a0_0 l0_1 = some r) ∧ Aside0 (kq ≤ kj1) ∧ Aside0 (w'.heap[gb425]? = some (.cells #[.int .i64 a0_0, (.slice A0_1 l0_1.length c0_1)] 40 (0, 0))) ∧ Aside0 (Below w.heap.size w w'))
    case atStart => exact ⟨(0), Gv.rq, H', ⟨Nat.le_refl _⟩, ⟨by (with_reducible repeat (first | refine blk_drewN ?_ _ | refine blk_drew ?_ | refine blk_alloc ?_ _)); exact BK425.out⟩, ⟨Gv.bw⟩⟩
    case round =>
     clear H'
     try clear c1
     try clear c2
     try clear p2
     try clear c4
     try clear c5
     try clear p6
     try clear c7
     try clear c13
     try clear hcz14_0 hcz14_1
     try clear hfz14_0 hfz14_1
     try clear p2
     try clear p6
     obtain ⟨x29_2, rfl, HA, HK2, BK425, HB⟩ := hrel
     cases gk with
     | zero => exact absurd HA.out (by simp [impl_TableOk.l0])
     | succ k2 =>
      have H := HA.out
      clear HA
      simp only [impl_TableOk.l0] at H
      by_cases c15 : x29_2 < (l0_1.length : Int)
      ·rw [if_pos c15] at H
       have c15b0 : decide (x29_2 < (l0_1.length : Int)) = true := decide_eq_true c15
       clear c15
       by_cases c16 : 0 ≤ x29_2
       ·rw [if_pos c16] at H
        have c16b0 : decide (0 ≤ x29_2) = true := decide_eq_true c16
        clear c16
        by_cases c17 : x29_2 < (l0_1.length : Int)
        ·rw [if_pos c17] at H
         have c17b0 : decide (x29_2 < (l0_1.length : Int)) = true := decide_eq_true c17
         clear c17
         obtain ⟨bq18, hbq18⟩ : ∃ b_ : Bool, b_ = ((rd_T75 l0_1 x29_2).f0) := ⟨_, rfl⟩
         replace H : (if (bq18 = true) then ((impl_FlowKeyOk.f k2 ((rd_T75 l0_1 x29_2).f1.f0) ((rd_T75 l0_1 x29_2).f1.f1.f0.f0) ((rd_T75 l0_1 x29_2).f1.f1.f0.f1) ((rd_T75 l0_1 x29_2).f1.f1.f0.f2) ((rd_T75 l0_1 x29_2).f1.f1.f0.f3) ((rd_T75 l0_1 x29_2).f1.f1.f0.f4) ((rd_T75 l0_1 x29_2).f1.f1.f1.f0) ((rd_T75 l0_1 x29_2).f1.f1.f1.f1) ((rd_T75 l0_1 x29_2).f1.f1.f1.f2) ((rd_T75 l0_1 x29_2).f1.f1.f1.f3) ((rd_T75 l0_1 x29_2).f1.f1.f1.f4) ((rd_T75 l0_1 x29_2).f1.f1.f2) ((rd_T75 l0_1 x29_2).f1.f1.f3) ((rd_T75 l0_1 x29_2).f1.f1.f4)).bind fun t431 => (if t431 = true then ((impl_within.f ((rd_T75 l0_1 x29_2).f2) 0 1000000000000).bind fun t432 => (if t432 = true then ((impl_Table_probe.f k2 a0_0 l0_1 ((rd_T75 l0_1 x29_2).f1.f0) ((rd_T75 l0_1 x29_2).f1.f1.f0.f0) ((rd_T75 l0_1 x29_2).f1.f1.f0.f1) ((rd_T75 l0_1 x29_2).f1.f1.f0.f2) ((rd_T75 l0_1 x29_2).f1.f1.f0.f3) ((rd_T75 l0_1 x29_2).f1.f1.f0.f4) ((rd_T75 l0_1 x29_2).f1.f1.f1.f0) ((rd_T75 l0_1 x29_2).f1.f1.f1.f1) ((rd_T75 l0_1 x29_2).f1.f1.f1.f2) ((rd_T75 l0_1 x29_2).f1.f1.f1.f3) ((rd_T75 l0_1 x29_2).f1.f1.f1.f4) ((rd_T75 l0_1 x29_2).f1.f1.f2) ((rd_T75 l0_1 x29_2).f1.f1.f3) ((rd_T75 l0_1 x29_2).f1.f1.f4)).bind fun t433 => (if t433 = x29_2 then (impl_TableOk.l0 k2 l0_1 (l0_1.length : Int) (wrap64 (x29_2 + 1)) a0_0 l0_1) else (some false))) else (some false))) else (some false))) else (if ((bq18) || ((!(((rd_T75 l0_1 x29_2).f1.f0) == 0) || (((!(((rd_T75 l0_1 x29_2).f1.f1.f0.f0) == 0) || (!(((rd_T75 l0_1 x29_2).f1.f1.f0.f1) == 0) || (!(((rd_T75 l0_1 x29_2).f1.f1.f0.f2) == 0) || (!(((rd_T75 l0_1 x29_2).f1.f1.f0.f3) == 0) || (!(((rd_T75 l0_1 x29_2).f1.f1.f0.f4) == 0)))))) || ((!(((rd_T75 l0_1 x29_2).f1.f1.f1.f0) == 0) || (!(((rd_T75 l0_1 x29_2).f1.f1.f1.f1) == 0) || (!(((rd_T75 l0_1 x29_2).f1.f1.f1.f2) == 0) || (!(((rd_T75 l0_1 x29_2).f1.f1.f1.f3) == 0) || (!(((rd_T75 l0_1 x29_2).f1.f1.f1.f4) == 0)))))) || (!(((rd_T75 l0_1 x29_2).f1.f1.f2) == 0) || (!(((rd_T75 l0_1 x29_2).f1.f1.f3) == 0) || (!(((rd_T75 l0_1 x29_2).f1.f1.f4) == 0)))))))) || (!(((rd_T75 l0_1 x29_2).f2) == 0)))) = true then (some false) else (impl_TableOk.l0 k2 l0_1 (l0_1.length : Int) (wrap64 (x29_2 + 1)) a0_0 l0_1))) = some r := by rw [← hbq18] at H; exact H
         have Nbq18 := Gv.a0 hbq18
         clear hbq18
         by_cases c19 : (bq18 = true)
         ·subst c19
          have H1 : ((impl_FlowKeyOk.f k2 ((rd_T75 l0_1 x29_2).f1.f0) ((rd_T75 l0_1 x29_2).f1.f1.f0.f0) ((rd_T75 l0_1 x29_2).f1.f1.f0.f1) ((rd_T75 l0_1 x29_2).f1.f1.f0.f2) ((rd_T75 l0_1 x29_2).f1.f1.f0.f3) ((rd_T75 l0_1 x29_2).f1.f1.f0.f4) ((rd_T75 l0_1 x29_2).f1.f1.f1.f0) ((rd_T75 l0_1 x29_2).f1.f1.f1.f1) ((rd_T75 l0_1 x29_2).f1.f1.f1.f2) ((rd_T75 l0_1 x29_2).f1.f1.f1.f3) ((rd_T75 l0_1 x29_2).f1.f1.f1.f4) ((rd_T75 l0_1 x29_2).f1.f1.f2) ((rd_T75 l0_1 x29_2).f1.f1.f3) ((rd_T75 l0_1 x29_2).f1.f1.f4)).bind fun t431 => (if t431 = true then ((impl_within.f ((rd_T75 l0_1 x29_2).f2) 0 1000000000000).bind fun t432 => (if t432 = true then ((impl_Table_probe.f k2 a0_0 l0_1 ((rd_T75 l0_1 x29_2).f1.f0) ((rd_T75 l0_1 x29_2).f1.f1.f0.f0) ((rd_T75 l0_1 x29_2).f1.f1.f0.f1) ((rd_T75 l0_1 x29_2).f1.f1.f0.f2) ((rd_T75 l0_1 x29_2).f1.f1.f0.f3) ((rd_T75 l0_1 x29_2).f1.f1.f0.f4) ((rd_T75 l0_1 x29_2).f1.f1.f1.f0) ((rd_T75 l0_1 x29_2).f1.f1.f1.f1) ((rd_T75 l0_1 x29_2).f1.f1.f1.f2) ((rd_T75 l0_1 x29_2).f1.f1.f1.f3) ((rd_T75 l0_1 x29_2).f1.f1.f1.f4) ((rd_T75 l0_1 x29_2).f1.f1.f2) ((rd_T75 l0_1 x29_2).f1.f1.f3) ((rd_T75 l0_1 x29_2).f1.f1.f4)).bind fun t433 => (if t433 = x29_2 then (impl_TableOk.l0 k2 l0_1 (l0_1.length : Int) (wrap64 (x29_2 + 1)) a0_0 l0_1) else (some false))) else (some false))) else (some false))) = some r := by rw [if_pos rfl] at H; exact H
          clear H
          have H := H1
          clear H1
          replace H := Option.bind_eq_some_iff.mp H
          obtain ⟨t431, A200, H⟩ := H
          replace H : (if t431 = true then ((impl_within.f ((rd_T75 l0_1 x29_2).f2) 0 1000000000000).bind fun t432 => (if t432 = true then ((impl_Table_probe.f k2 a0_0 l0_1 ((rd_T75 l0_1 x29_2).f1.f0) ((rd_T75 l0_1 x29_2).f1.f1.f0.f0) ((rd_T75 l0_1 x29_2).f1.f1.f0.f1) ((rd_T75 l0_1 x29_2).f1.f1.f0.f2) ((rd_T75 l0_1 x29_2).f1.f1.f0.f3) ((rd_T75 l0_1 x29_2).f1.f1.f0.f4) ((rd_T75 l0_1 x29_2).f1.f1.f1.f0) ((rd_T75 l0_1 x29_2).f1.f1.f1.f1) ((rd_T75 l0_1 x29_2).f1.f1.f1.f2) ((rd_T75 l0_1 x29_2).f1.f1.f1.f3) ((rd_T75 l0_1 x29_2).f1.f1.f1.f4) ((rd_T75 l0_1 x29_2).f1.f1.f2) ((rd_T75 l0_1 x29_2).f1.f1.f3) ((rd_T75 l0_1 x29_2).f1.f1.f4)).bind fun t433 => (if t433 = x29_2 then (impl_TableOk.l0 k2 l0_1 (l0_1.length : Int) (wrap64 (x29_2 + 1)) a0_0 l0_1) else (some false))) else (some false))) else (some false)) = some r := H
          have A20 := Gv.a0 A200
          clear A200
          by_cases c21 : t431 = true
          ·subst c21
           have H1 : ((impl_within.f ((rd_T75 l0_1 x29_2).f2) 0 1000000000000).bind fun t432 => (if t432 = true then ((impl_Table_probe.f k2 a0_0 l0_1 ((rd_T75 l0_1 x29_2).f1.f0) ((rd_T75 l0_1 x29_2).f1.f1.f0.f0) ((rd_T75 l0_1 x29_2).f1.f1.f0.f1) ((rd_T75 l0_1 x29_2).f1.f1.f0.f2) ((rd_T75 l0_1 x29_2).f1.f1.f0.f3) ((rd_T75 l0_1 x29_2).f1.f1.f0.f4) ((rd_T75 l0_1 x29_2).f1.f1.f1.f0) ((rd_T75 l0_1 x29_2).f1.f1.f1.f1) ((rd_T75 l0_1 x29_2).f1.f1.f1.f2) ((rd_T75 l0_1 x29_2).f1.f1.f1.f3) ((rd_T75 l0_1 x29_2).f1.f1.f1.f4) ((rd_T75 l0_1 x29_2).f1.f1.f2) ((rd_T75 l0_1 x29_2).f1.f1.f3) ((rd_T75 l0_1 x29_2).f1.f1.f4)).bind fun t433 => (if t433 = x29_2 then (impl_TableOk.l0 k2 l0_1 (l0_1.length : Int) (wrap64 (x29_2 + 1)) a0_0 l0_1) else (some false))) else (some false))) = some r := by rw [if_pos rfl] at H; exact H
           clear H
           have H := H1
           clear H1
           replace H := Option.bind_eq_some_iff.mp H
           obtain ⟨t432, A220, H⟩ := H
           replace H : (if t432 = true then ((impl_Table_probe.f k2 a0_0 l0_1 ((rd_T75 l0_1 x29_2).f1.f0) ((rd_T75 l0_1 x29_2).f1.f1.f0.f0) ((rd_T75 l0_1 x29_2).f1.f1.f0.f1) ((rd_T75 l0_1 x29_2).f1.f1.f0.f2) ((rd_T75 l0_1 x29_2).f1.f1.f0.f3) ((rd_T75 l0_1 x29_2).f1.f1.f0.f4) ((rd_T75 l0_1 x29_2).f1.f1.f1.f0) ((rd_T75 l0_1 x29_2).f1.f1.f1.f1) ((rd_T75 l0_1 x29_2).f1.f1.f1.f2) ((rd_T75 l0_1 x29_2).f1.f1.f1.f3) ((rd_T75 l0_1 x29_2).f1.f1.f1.f4) ((rd_T75 l0_1 x29_2).f1.f1.f2) ((rd_T75 l0_1 x29_2).f1.f1.f3) ((rd_T75 l0_1 x29_2).f1.f1.f4)).bind fun t433 => (if t433 = x29_2 then (impl_TableOk.l0 k2 l0_1 (l0_1.length : Int) (wrap64 (x29_2 + 1)) a0_0 l0_1) else (some false))) else (some false)) = some r := H
           have A22 := Gv.a0 A220
           clear A220
           by_cases c23 : t432 = true
           ·subst c23
            have H1 : ((impl_Table_probe.f k2 a0_0 l0_1 ((rd_T75 l0_1 x29_2).f1.f0) ((rd_T75 l0_1 x29_2).f1.f1.f0.f0) ((rd_T75 l0_1 x29_2).f1.f1.f0.f1) ((rd_T75 l0_1 x29_2).f1.f1.f0.f2) ((rd_T75 l0_1 x29_2).f1.f1.f0.f3) ((rd_T75 l0_1 x29_2).f1.f1.f0.f4) ((rd_T75 l0_1 x29_2).f1.f1.f1.f0) ((rd_T75 l0_1 x29_2).f1.f1.f1.f1) ((rd_T75 l0_1 x29_2).f1.f1.f1.f2) ((rd_T75 l0_1 x29_2).f1.f1.f1.f3) ((rd_T75 l0_1 x29_2).f1.f1.f1.f4) ((rd_T75 l0_1 x29_2).f1.f1.f2) ((rd_T75 l0_1 x29_2).f1.f1.f3) ((rd_T75 l0_1 x29_2).f1.f1.f4)).bind fun t433 => (if t433 = x29_2 then (impl_TableOk.l0 k2 l0_1 (l0_1.length : Int) (wrap64 (x29_2 + 1)) a0_0 l0_1) else (some false))) = some r := by rw [if_pos rfl] at H; exact H
            clear H
            have H := H1
            clear H1
            replace H := Option.bind_eq_some_iff.mp H
            obtain ⟨t433, A240, H⟩ := H
            replace H : (if t433 = x29_2 then (impl_TableOk.l0 k2 l0_1 (l0_1.length : Int) (wrap64 (x29_2 + 1)) a0_0 l0_1) else (some false)) = some r := H
            have A24 := Gv.a0 A240
            clear A240
            by_cases c25 : t433 = x29_2
            ·rw [if_pos c25] at H
             have c25b0 : (t433 == x29_2) = true := beq_iff_eq.mpr c25
             have c25b1 : (t433 != x29_2) = false := bne_eq_false_iff_eq.mpr c25
             clear c25
             have H' := Gv.a0 H
             clear H
             have p429 : 0 ≤ (x29_2 : Int) := of_decide_eq_true (by first | (with_reducible assumption) | assumption)
             have q429 : x29_2 < (l0_1.length : Int) := of_decide_eq_true (by first | (with_reducible assumption) | assumption)
             obtain ⟨ad429, e429, hx429_0, hx429_1, hx429_2, hx429_3, hx429_4, hx429_5, hx429_6, hx429_7, hx429_8, hx429_9, hx429_10, hx429_11, hx429_12, hx429_13, hx429_14, hx429_15⟩ := at_T75 HR0_1.out x29_2 p429 q429
             (try rw [← Nbq18.out] at hx429_0)
             cases e429
             replace hx429_0 := Gv.bx HB.out hx429_0
             replace hx429_1 := Gv.bx HB.out hx429_1
             replace hx429_2 := Gv.bx HB.out hx429_2
             replace hx429_3 := Gv.bx HB.out hx429_3
             replace hx429_4 := Gv.bx HB.out hx429_4
             replace hx429_5 := Gv.bx HB.out hx429_5
             replace hx429_6 := Gv.bx HB.out hx429_6
             replace hx429_7 := Gv.bx HB.out hx429_7
             replace hx429_8 := Gv.bx HB.out hx429_8
             replace hx429_9 := Gv.bx HB.out hx429_9
             replace hx429_10 := Gv.bx HB.out hx429_10
             replace hx429_11 := Gv.bx HB.out hx429_11
             replace hx429_12 := Gv.bx HB.out hx429_12
             replace hx429_13 := Gv.bx HB.out hx429_13
             replace hx429_14 := Gv.bx HB.out hx429_14
             replace hx429_15 := Gv.bx HB.out hx429_15
             replace p429 := eq_true p429
             replace q429 := eq_true q429
             go_wp2_with (first | ((with_reducible refine gate_dst (N := 4) rfl ?_); (try (refine gate_guard (by rfl) ?_; dsimp only)); refine box_event ?hg (N := 4) ?hd (cs := #[.bool false, .int .i64 0, .int .i64 0, .int .i64 0, .int .i64 0, .int .i64 0, .int .i64 0, .int .i64 0, .int .i64 0, .int .i64 0, .int .i64 0, .int .i64 0, .int .i64 0, .int .i64 0, .int .i64 0, .int .i64 0]) (t := 75) ?hr ?_; (case hd => rfl); (case hg => rfl); (case hr => first | (go_simp; done) | (go_simp; rfl)); intro gb430 hg w26 hbox hb; have n0_ := Gv.a0 (Gv.bb BK425.out hb); have n1_ := Gv.a0 (below_step Gv.bw hb); have n2_ := Gv.a0 (hbox); have n3_ := Gv.a0 ((Gv.ble hg Gv.bw : w.heap.size ≤ gb430)); have n4_ := Gv.a0 ((Gv.ble hg Gv.bw : w.heap.size ≤ gb430)); have n5_ := Gv.a0 ((Gv.nlt hg (Gv.kb BK425.out) : gb425 ≠ gb430)); have n6_ := Gv.a0 ((Gv.ngt hg (Gv.kb BK425.out) : gb430 ≠ gb425)); clear BK425; clear HB; have BK425 := n0_; have HB := n1_; have BK430 := n2_; have GW430 := n3_; have GE430 := n4_; have NB425_430 := n5_; have NB430_425 := n6_; clear n0_ n1_ n2_ n3_ n4_ n5_ n6_; clear hb hbox hg; have hnb27 := NB430_425.out; have hnc27 := NB425_430.out; obtain ⟨hcz28_0, hcz28_1, hcz28_2, hcz28_3, hcz28_4, hcz28_5, hcz28_6, hcz28_7, hcz28_8, hcz28_9, hcz28_10, hcz28_11, hcz28_12, hcz28_13, hcz28_14, hcz28_15⟩ := Gv.c16 BK430.out) | ((with_reducible refine gate_store (t := 75) (p := 4) rfl ?_); refine Gv.store_event rfl rfl rfl rfl rfl (Gv.kb BK430.out) (by kernel_rfl) rfl (by simp; and_intros <;> rfl) ?_; intro w26s hbox hoth hbel; have n0_ := Gv.a0 (hbox); have n1_ := Gv.a0 (hbel w Gv.bw GE430.out); have n2_ := Gv.a0 ((hoth gb425 NB425_430.out).trans (Gv.kb BK425.out)); clear BK430 HB BK425; have BK430 := n0_; have HB := n1_; have BK425 := n2_; clear n0_ n1_ n2_ hbox hoth hbel; (try clear hcz28_0 hcz28_1 hcz28_2 hcz28_3 hcz28_4 hcz28_5 hcz28_6 hcz28_7 hcz28_8 hcz28_9 hcz28_10 hcz28_11 hcz28_12 hcz28_13 hcz28_14 hcz28_15 hfz28_0 hfz28_1 hfz28_2 hfz28_3 hfz28_4 hfz28_5 hfz28_6 hfz28_7 hfz28_8 hfz28_9 hfz28_10 hfz28_11 hfz28_12 hfz28_13 hfz28_14 hfz28_15); obtain ⟨hcz28_0, hcz28_1, hcz28_2, hcz28_3, hcz28_4, hcz28_5, hcz28_6, hcz28_7, hcz28_8, hcz28_9, hcz28_10, hcz28_11, hcz28_12, hcz28_13, hcz28_14, hcz28_15⟩ := Gv.c16 BK430.out) | ((with_reducible refine gate_callee (f := 15) rfl ?_); refine goesL_ (some 44) rfl rfl Try.func15 (by kernel_rfl) rfl #[.agg #[.int .i64 ((rd_T75 l0_1 x29_2).f1.f0), .int .i64 ((rd_T75 l0_1 x29_2).f1.f1.f0.f0), .int .i64 ((rd_T75 l0_1 x29_2).f1.f1.f0.f1), .int .i64 ((rd_T75 l0_1 x29_2).f1.f1.f0.f2), .int .i64 ((rd_T75 l0_1 x29_2).f1.f1.f0.f3), .int .i64 ((rd_T75 l0_1 x29_2).f1.f1.f0.f4), .int .i64 ((rd_T75 l0_1 x29_2).f1.f1.f1.f0), .int .i64 ((rd_T75 l0_1 x29_2).f1.f1.f1.f1), .int .i64 ((rd_T75 l0_1 x29_2).f1.f1.f1.f2), .int .i64 ((rd_T75 l0_1 x29_2).f1.f1.f1.f3), .int .i64 ((rd_T75 l0_1 x29_2).f1.f1.f1.f4), .int .i64 ((rd_T75 l0_1 x29_2).f1.f1.f2), .int .i64 ((rd_T75 l0_1 x29_2).f1.f1.f3), .int .i64 ((rd_T75 l0_1 x29_2).f1.f1.f4)]] rfl Gv.lm ?_; (with_reducible refine (impl_FlowKeyOk.calls k2 _ _ _ _ _ _ _ _ _ _ _ _ _ _ true _ A20.out).mono ?_); rintro e w29 ⟨rfl, hb⟩; refine ⟨_, rfl, ?_⟩; have n0_ := Gv.a0 (blk_below (g := gb425) (o := .cells #[.int .i64 a0_0, .slice (some ad429) l0_1.length c0_1] 40 (0, 0)) Gv.bkf hb); have n1_ := Gv.a0 (blk_below (g := gb430) (o := .cells #[.bool true, .int .i64 ((rd_T75 l0_1 x29_2).f1.f0), .int .i64 ((rd_T75 l0_1 x29_2).f1.f1.f0.f0), .int .i64 ((rd_T75 l0_1 x29_2).f1.f1.f0.f1), .int .i64 ((rd_T75 l0_1 x29_2).f1.f1.f0.f2), .int .i64 ((rd_T75 l0_1 x29_2).f1.f1.f0.f3), .int .i64 ((rd_T75 l0_1 x29_2).f1.f1.f0.f4), .int .i64 ((rd_T75 l0_1 x29_2).f1.f1.f1.f0), .int .i64 ((rd_T75 l0_1 x29_2).f1.f1.f1.f1), .int .i64 ((rd_T75 l0_1 x29_2).f1.f1.f1.f2), .int .i64 ((rd_T75 l0_1 x29_2).f1.f1.f1.f3), .int .i64 ((rd_T75 l0_1 x29_2).f1.f1.f1.f4), .int .i64 ((rd_T75 l0_1 x29_2).f1.f1.f2), .int .i64 ((rd_T75 l0_1 x29_2).f1.f1.f3), .int .i64 ((rd_T75 l0_1 x29_2).f1.f1.f4), .int .i64 ((rd_T75 l0_1 x29_2).f2)] 75 (0, 0)) (by (with_reducible repeat (first | refine blk_drewN ?_ _ | refine blk_drew ?_ | refine blk_alloc ?_ _)); exact BK430.out) hb); have n2_ := Gv.a0 (below_step Gv.bw hb); clear BK425; clear BK430; clear HB; have BK425 := n0_; have BK430 := n1_; have HB := n2_; clear n0_ n1_ n2_; (try clear hb); (try clear hb2); (try clear hk); (try clear hi); obtain ⟨hcz30_0, hcz30_1, hcz30_2, hcz30_3, hcz30_4, hcz30_5, hcz30_6, hcz30_7, hcz30_8, hcz30_9, hcz30_10, hcz30_11, hcz30_12, hcz30_13, hcz30_14, hcz30_15⟩ := Gv.c16 BK430.out) | (go_at_call 44; (with_reducible refine (impl_within.calls _ 0 1000000000000 true _ A22.out).mono ?_); rintro e w' ⟨rfl, ⟨nd, rfl⟩⟩; have hcz31_0 : w29.cell? ⟨gb425, 0, none⟩ = some (.int .i64 a0_0) := (blk_cell BK425.out 0).trans rfl; have hcz31_1 : w29.cell? ⟨gb425, 1, none⟩ = some (.slice (some ad429) l0_1.length c0_1) := (blk_cell BK425.out 1).trans rfl; have hfz31_0 := blk_frozen BK425.out 0; have hfz31_1 := blk_frozen BK425.out 1) | (go_at_call 58; (with_reducible refine (impl_Table_probe.calls k2 a0_0 _ _ l0_1 _ _ _ _ _ _ _ _ _ _ _ _ _ _ t433 _ ?side1 ?side2 A24.out).mono ?_); (case side1 => repeat (first | exact (Kd.C_below HR0_1.out Gv.bw) | (with_reducible refine Kd.C_alloc ?_ _) | (with_reducible refine Kd.C_drewN ?_ _) | (with_reducible refine Kd.C_drew ?_))); (case side2 => exact HC0_1.out); rintro e w32 ⟨rfl, hb⟩; have n0_ := Gv.a0 (Gv.bb BK425.out hb); have n1_ := Gv.a0 (Gv.bb BK430.out hb); have n2_ := Gv.a0 (below_step Gv.bw hb); clear BK425; clear BK430; clear HB; have BK425 := n0_; have BK430 := n1_; have HB := n2_; clear n0_ n1_ n2_; (try clear hb); (try clear hb2); (try clear hk); (try clear hi)) | ((with_reducible refine Gv.gate_load (t := 75) rfl ?_); (try (refine gate_guard (by rfl) ?_; dsimp only)); refine wpList_load_row rfl 75 _ rfl gb430 rfl 75 _ _ _ (by first | exact Gv.kb0 BK430.out | exact Gv.kb1 (Gv.kb0 BK430.out)) Try.underlying75 rfl (by kernel_rfl) ?_) | ((with_reducible refine Gv.gate_load (t := 75) rfl ?_); refine Gv.load_event (cs := [_, _, _, _, _, _, _, _, _, _, _, _, _, _, _, _]) rfl rfl rfl ⟨hx429_0, hx429_1, hx429_2, hx429_3, hx429_4, hx429_5, hx429_6, hx429_7, hx429_8, hx429_9, hx429_10, hx429_11, hx429_12, hx429_13, hx429_14, hx429_15, trivial⟩ Try.underlying75 rfl (by kernel_rfl) ?_))
             go_roundg k2
             case measure => have := HJ1.out; have := HK2.out; omega
             case rel => exact ⟨(wrap64 (x29_2 + 1)), Gv.rq, H', ⟨by have := HJ1.out; have := HK2.out; omega⟩, ⟨by (with_reducible repeat (first | refine blk_drewN ?_ _ | refine blk_drew ?_ | refine blk_alloc ?_ _)); exact BK425.out⟩, ⟨Gv.bw⟩⟩
            ·rw [if_neg c25] at H
             have c25b0 : (t433 == x29_2) = false := beq_eq_false_iff_ne.mpr c25
             have c25b1 : (t433 != x29_2) = true := bne_iff_ne.mpr c25
             obtain rfl := Option.some.inj H
             have p429 : 0 ≤ (x29_2 : Int) := of_decide_eq_true (by first | (with_reducible assumption) | assumption)
             have q429 : x29_2 < (l0_1.length : Int) := of_decide_eq_true (by first | (with_reducible assumption) | assumption)
             obtain ⟨ad429, e429, hx429_0, hx429_1, hx429_2, hx429_3, hx429_4, hx429_5, hx429_6, hx429_7, hx429_8, hx429_9, hx429_10, hx429_11, hx429_12, hx429_13, hx429_14, hx429_15⟩ := at_T75 HR0_1.out x29_2 p429 q429
             (try rw [← Nbq18.out] at hx429_0)
             cases e429
             replace hx429_0 := Gv.bx HB.out hx429_0
             replace hx429_1 := Gv.bx HB.out hx429_1
             replace hx429_2 := Gv.bx HB.out hx429_2
             replace hx429_3 := Gv.bx HB.out hx429_3
             replace hx429_4 := Gv.bx HB.out hx429_4
             replace hx429_5 := Gv.bx HB.out hx429_5
             replace hx429_6 := Gv.bx HB.out hx429_6
             replace hx429_7 := Gv.bx HB.out hx429_7
             replace hx429_8 := Gv.bx HB.out hx429_8
             replace hx429_9 := Gv.bx HB.out hx429_9
             replace hx429_10 := Gv.bx HB.out hx429_10
             replace hx429_11 := Gv.bx HB.out hx429_11
             replace hx429_12 := Gv.bx HB.out hx429_12
             replace hx429_13 := Gv.bx HB.out hx429_13
             replace hx429_14 := Gv.bx HB.out hx429_14
             replace hx429_15 := Gv.bx HB.out hx429_15
             replace p429 := eq_true p429
             replace q429 := eq_true q429
             go_wp2_with (first | ((with_reducible refine gate_dst (N := 4) rfl ?_); (try (refine gate_guard (by rfl) ?_; dsimp only)); refine box_event ?hg (N := 4) ?hd (cs := #[.bool false, .int .i64 0, .int .i64 0, .int .i64 0, .int .i64 0, .int .i64 0, .int .i64 0, .int .i64 0, .int .i64 0, .int .i64 0, .int .i64 0, .int .i64 0, .int .i64 0, .int .i64 0, .int .i64 0, .int .i64 0]) (t := 75) ?hr ?_; (case hd => rfl); (case hg => rfl); (case hr => first | (go_simp; done) | (go_simp; rfl)); intro gb430 hg w33 hbox hb; have n0_ := Gv.a0 (Gv.bb BK425.out hb); have n1_ := Gv.a0 (below_step Gv.bw hb); have n2_ := Gv.a0 (hbox); have n3_ := Gv.a0 ((Gv.ble hg Gv.bw : w.heap.size ≤ gb430)); have n4_ := Gv.a0 ((Gv.ble hg Gv.bw : w.heap.size ≤ gb430)); have n5_ := Gv.a0 ((Gv.nlt hg (Gv.kb BK425.out) : gb425 ≠ gb430)); have n6_ := Gv.a0 ((Gv.ngt hg (Gv.kb BK425.out) : gb430 ≠ gb425)); clear BK425; clear HB; have BK425 := n0_; have HB := n1_; have BK430 := n2_; have GW430 := n3_; have GE430 := n4_; have NB425_430 := n5_; have NB430_425 := n6_; clear n0_ n1_ n2_ n3_ n4_ n5_ n6_; clear hb hbox hg; have hnb34 := NB430_425.out; have hnc34 := NB425_430.out; obtain ⟨hcz35_0, hcz35_1, hcz35_2, hcz35_3, hcz35_4, hcz35_5, hcz35_6, hcz35_7, hcz35_8, hcz35_9, hcz35_10, hcz35_11, hcz35_12, hcz35_13, hcz35_14, hcz35_15⟩ := Gv.c16 BK430.out) | ((with_reducible refine gate_store (t := 75) (p := 4) rfl ?_); refine Gv.store_event rfl rfl rfl rfl rfl (Gv.kb BK430.out) (by kernel_rfl) rfl (by simp; and_intros <;> rfl) ?_; intro w33s hbox hoth hbel; have n0_ := Gv.a0 (hbox); have n1_ := Gv.a0 (hbel w Gv.bw GE430.out); have n2_ := Gv.a0 ((hoth gb425 NB425_430.out).trans (Gv.kb BK425.out)); clear BK430 HB BK425; have BK430 := n0_; have HB := n1_; have BK425 := n2_; clear n0_ n1_ n2_ hbox hoth hbel; (try clear hcz35_0 hcz35_1 hcz35_2 hcz35_3 hcz35_4 hcz35_5 hcz35_6 hcz35_7 hcz35_8 hcz35_9 hcz35_10 hcz35_11 hcz35_12 hcz35_13 hcz35_14 hcz35_15 hfz35_0 hfz35_1 hfz35_2 hfz35_3 hfz35_4 hfz35_5 hfz35_6 hfz35_7 hfz35_8 hfz35_9 hfz35_10 hfz35_11 hfz35_12 hfz35_13 hfz35_14 hfz35_15); obtain ⟨hcz35_0, hcz35_1, hcz35_2, hcz35_3, hcz35_4, hcz35_5, hcz35_6, hcz35_7, hcz35_8, hcz35_9, hcz35_10, hcz35_11, hcz35_12, hcz35_13, hcz35_14, hcz35_15⟩ := Gv.c16 BK430.out) | ((with_reducible refine gate_callee (f := 15) rfl ?_); refine goesL_ (some 44) rfl rfl Try.func15 (by kernel_rfl) rfl #[.agg #[.int .i64 ((rd_T75 l0_1 x29_2).f1.f0), .int .i64 ((rd_T75 l0_1 x29_2).f1.f1.f0.f0), .int .i64 ((rd_T75 l0_1 x29_2).f1.f1.f0.f1), .int .i64 ((rd_T75 l0_1 x29_2).f1.f1.f0.f2), .int .i64 ((rd_T75 l0_1 x29_2).f1.f1.f0.f3), .int .i64 ((rd_T75 l0_1 x29_2).f1.f1.f0.f4), .int .i64 ((rd_T75 l0_1 x29_2).f1.f1.f1.f0), .int .i64 ((rd_T75 l0_1 x29_2).f1.f1.f1.f1), .int .i64 ((rd_T75 l0_1 x29_2).f1.f1.f1.f2), .int .i64 ((rd_T75 l0_1 x29_2).f1.f1.f1.f3), .int .i64 ((rd_T75 l0_1 x29_2).f1.f1.f1.f4), .int .i64 ((rd_T75 l0_1 x29_2).f1.f1.f2), .int .i64 ((rd_T75 l0_1 x29_2).f1.f1.f3), .int .i64 ((rd_T75 l0_1 x29_2).f1.f1.f4)]] rfl Gv.lm ?_; (with_reducible refine (impl_FlowKeyOk.calls k2 _ _ _ _ _ _ _ _ _ _ _ _ _ _ true _ A20.out).mono ?_); rintro e w36 ⟨rfl, hb⟩; refine ⟨_, rfl, ?_⟩; have n0_ := Gv.a0 (blk_below (g := gb425) (o := .cells #[.int .i64 a0_0, .slice (some ad429) l0_1.length c0_1] 40 (0, 0)) Gv.bkf hb); have n1_ := Gv.a0 (blk_below (g := gb430) (o := .cells #[.bool true, .int .i64 ((rd_T75 l0_1 x29_2).f1.f0), .int .i64 ((rd_T75 l0_1 x29_2).f1.f1.f0.f0), .int .i64 ((rd_T75 l0_1 x29_2).f1.f1.f0.f1), .int .i64 ((rd_T75 l0_1 x29_2).f1.f1.f0.f2), .int .i64 ((rd_T75 l0_1 x29_2).f1.f1.f0.f3), .int .i64 ((rd_T75 l0_1 x29_2).f1.f1.f0.f4), .int .i64 ((rd_T75 l0_1 x29_2).f1.f1.f1.f0), .int .i64 ((rd_T75 l0_1 x29_2).f1.f1.f1.f1), .int .i64 ((rd_T75 l0_1 x29_2).f1.f1.f1.f2), .int .i64 ((rd_T75 l0_1 x29_2).f1.f1.f1.f3), .int .i64 ((rd_T75 l0_1 x29_2).f1.f1.f1.f4), .int .i64 ((rd_T75 l0_1 x29_2).f1.f1.f2), .int .i64 ((rd_T75 l0_1 x29_2).f1.f1.f3), .int .i64 ((rd_T75 l0_1 x29_2).f1.f1.f4), .int .i64 ((rd_T75 l0_1 x29_2).f2)] 75 (0, 0)) (by (with_reducible repeat (first | refine blk_drewN ?_ _ | refine blk_drew ?_ | refine blk_alloc ?_ _)); exact BK430.out) hb); have n2_ := Gv.a0 (below_step Gv.bw hb); clear BK425; clear BK430; clear HB; have BK425 := n0_; have BK430 := n1_; have HB := n2_; clear n0_ n1_ n2_; (try clear hb); (try clear hb2); (try clear hk); (try clear hi); obtain ⟨hcz37_0, hcz37_1, hcz37_2, hcz37_3, hcz37_4, hcz37_5, hcz37_6, hcz37_7, hcz37_8, hcz37_9, hcz37_10, hcz37_11, hcz37_12, hcz37_13, hcz37_14, hcz37_15⟩ := Gv.c16 BK430.out) | (go_at_call 44; (with_reducible refine (impl_within.calls _ 0 1000000000000 true _ A22.out).mono ?_); rintro e w' ⟨rfl, ⟨nd, rfl⟩⟩; have hcz38_0 : w36.cell? ⟨gb425, 0, none⟩ = some (.int .i64 a0_0) := (blk_cell BK425.out 0).trans rfl; have hcz38_1 : w36.cell? ⟨gb425, 1, none⟩ = some (.slice (some ad429) l0_1.length c0_1) := (blk_cell BK425.out 1).trans rfl; have hfz38_0 := blk_frozen BK425.out 0; have hfz38_1 := blk_frozen BK425.out 1) | (go_at_call 58; (with_reducible refine (impl_Table_probe.calls k2 a0_0 _ _ l0_1 _ _ _ _ _ _ _ _ _ _ _ _ _ _ t433 _ ?side1 ?side2 A24.out).mono ?_); (case side1 => repeat (first | exact (Kd.C_below HR0_1.out Gv.bw) | (with_reducible refine Kd.C_alloc ?_ _) | (with_reducible refine Kd.C_drewN ?_ _) | (with_reducible refine Kd.C_drew ?_))); (case side2 => exact HC0_1.out); rintro e w39 ⟨rfl, hb⟩; have n0_ := Gv.a0 (Gv.bb BK425.out hb); have n1_ := Gv.a0 (Gv.bb BK430.out hb); have n2_ := Gv.a0 (below_step Gv.bw hb); clear BK425; clear BK430; clear HB; have BK425 := n0_; have BK430 := n1_; have HB := n2_; clear n0_ n1_ n2_; (try clear hb); (try clear hb2); (try clear hk); (try clear hi)) | ((with_reducible refine Gv.gate_load (t := 75) rfl ?_); (try (refine gate_guard (by rfl) ?_; dsimp only)); refine wpList_load_row rfl 75 _ rfl gb430 rfl 75 _ _ _ (by first | exact Gv.kb0 BK430.out | exact Gv.kb1 (Gv.kb0 BK430.out)) Try.underlying75 rfl (by kernel_rfl) ?_) | ((with_reducible refine Gv.gate_load (t := 75) rfl ?_); refine Gv.load_event (cs := [_, _, _, _, _, _, _, _, _, _, _, _, _, _, _, _]) rfl rfl rfl ⟨hx429_0, hx429_1, hx429_2, hx429_3, hx429_4, hx429_5, hx429_6, hx429_7, hx429_8, hx429_9, hx429_10, hx429_11, hx429_12, hx429_13, hx429_14, hx429_15, trivial⟩ Try.underlying75 rfl (by kernel_rfl) ?_))
             go_ret
             exact ⟨Gv.rt, Gv.bw⟩
           ·replace c23 := Bool.eq_false_iff.mpr c23
            subst c23
            have H1 : (some false) = some r := by rw [if_neg (show ¬ (false = true) by decide)] at H; exact H
            clear H
            have H := H1
            clear H1
            obtain rfl := Option.some.inj H
            have p429 : 0 ≤ (x29_2 : Int) := of_decide_eq_true (by first | (with_reducible assumption) | assumption)
            have q429 : x29_2 < (l0_1.length : Int) := of_decide_eq_true (by first | (with_reducible assumption) | assumption)
            obtain ⟨ad429, e429, hx429_0, hx429_1, hx429_2, hx429_3, hx429_4, hx429_5, hx429_6, hx429_7, hx429_8, hx429_9, hx429_10, hx429_11, hx429_12, hx429_13, hx429_14, hx429_15⟩ := at_T75 HR0_1.out x29_2 p429 q429
            (try rw [← Nbq18.out] at hx429_0)
            cases e429
            replace hx429_0 := Gv.bx HB.out hx429_0
            replace hx429_1 := Gv.bx HB.out hx429_1
            replace hx429_2 := Gv.bx HB.out hx429_2
            replace hx429_3 := Gv.bx HB.out hx429_3
            replace hx429_4 := Gv.bx HB.out hx429_4
            replace hx429_5 := Gv.bx HB.out hx429_5
            replace hx429_6 := Gv.bx HB.out hx429_6
            replace hx429_7 := Gv.bx HB.out hx429_7
            replace hx429_8 := Gv.bx HB.out hx429_8
            replace hx429_9 := Gv.bx HB.out hx429_9
            replace hx429_10 := Gv.bx HB.out hx429_10
            replace hx429_11 := Gv.bx HB.out hx429_11
            replace hx429_12 := Gv.bx HB.out hx429_12
            replace hx429_13 := Gv.bx HB.out hx429_13
            replace hx429_14 := Gv.bx HB.out hx429_14
            replace hx429_15 := Gv.bx HB.out hx429_15
            replace p429 := eq_true p429
            replace q429 := eq_true q429
            go_wp2_with (first | ((with_reducible refine gate_dst (N := 4) rfl ?_); (try (refine gate_guard (by rfl) ?_; dsimp only)); refine box_event ?hg (N := 4) ?hd (cs := #[.bool false, .int .i64 0, .int .i64 0, .int .i64 0, .int .i64 0, .int .i64 0, .int .i64 0, .int .i64 0, .int .i64 0, .int .i64 0, .int .i64 0, .int .i64 0, .int .i64 0, .int .i64 0, .int .i64 0, .int .i64 0]) (t := 75) ?hr ?_; (case hd => rfl); (case hg => rfl); (case hr => first | (go_simp; done) | (go_simp; rfl)); intro gb430 hg w40 hbox hb; have n0_ := Gv.a0 (Gv.bb BK425.out hb); have n1_ := Gv.a0 (below_step Gv.bw hb); have n2_ := Gv.a0 (hbox); have n3_ := Gv.a0 ((Gv.ble hg Gv.bw : w.heap.size ≤ gb430)); have n4_ := Gv.a0 ((Gv.ble hg Gv.bw : w.heap.size ≤ gb430)); have n5_ := Gv.a0 ((Gv.nlt hg (Gv.kb BK425.out) : gb425 ≠ gb430)); have n6_ := Gv.a0 ((Gv.ngt hg (Gv.kb BK425.out) : gb430 ≠ gb425)); clear BK425; clear HB; have BK425 := n0_; have HB := n1_; have BK430 := n2_; have GW430 := n3_; have GE430 := n4_; have NB425_430 := n5_; have NB430_425 := n6_; clear n0_ n1_ n2_ n3_ n4_ n5_ n6_; clear hb hbox hg; have hnb41 := NB430_425.out; have hnc41 := NB425_430.out; obtain ⟨hcz42_0, hcz42_1, hcz42_2, hcz42_3, hcz42_4, hcz42_5, hcz42_6, hcz42_7, hcz42_8, hcz42_9, hcz42_10, hcz42_11, hcz42_12, hcz42_13, hcz42_14, hcz42_15⟩ := Gv.c16 BK430.out) | ((with_reducible refine gate_store (t := 75) (p := 4) rfl ?_); refine Gv.store_event rfl rfl rfl rfl rfl (Gv.kb BK430.out) (by kernel_rfl) rfl (by simp; and_intros <;> rfl) ?_; intro w40s hbox hoth hbel; have n0_ := Gv.a0 (hbox); have n1_ := Gv.a0 (hbel w Gv.bw GE430.out); have n2_ := Gv.a0 ((hoth gb425 NB425_430.out).trans (Gv.kb BK425.out)); clear BK430 HB BK425; have BK430 := n0_; have HB := n1_; have BK425 := n2_; clear n0_ n1_ n2_ hbox hoth hbel; (try clear hcz42_0 hcz42_1 hcz42_2 hcz42_3 hcz42_4 hcz42_5 hcz42_6 hcz42_7 hcz42_8 hcz42_9 hcz42_10 hcz42_11 hcz42_12 hcz42_13 hcz42_14 hcz42_15 hfz42_0 hfz42_1 hfz42_2 hfz42_3 hfz42_4 hfz42_5 hfz42_6 hfz42_7 hfz42_8 hfz42_9 hfz42_10 hfz42_11 hfz42_12 hfz42_13 hfz42_14 hfz42_15); obtain ⟨hcz42_0, hcz42_1, hcz42_2, hcz42_3, hcz42_4, hcz42_5, hcz42_6, hcz42_7, hcz42_8, hcz42_9, hcz42_10, hcz42_11, hcz42_12, hcz42_13, hcz42_14, hcz42_15⟩ := Gv.c16 BK430.out) | ((with_reducible refine gate_callee (f := 15) rfl ?_); refine goesL_ (some 44) rfl rfl Try.func15 (by kernel_rfl) rfl #[.agg #[.int .i64 ((rd_T75 l0_1 x29_2).f1.f0), .int .i64 ((rd_T75 l0_1 x29_2).f1.f1.f0.f0), .int .i64 ((rd_T75 l0_1 x29_2).f1.f1.f0.f1), .int .i64 ((rd_T75 l0_1 x29_2).f1.f1.f0.f2), .int .i64 ((rd_T75 l0_1 x29_2).f1.f1.f0.f3), .int .i64 ((rd_T75 l0_1 x29_2).f1.f1.f0.f4), .int .i64 ((rd_T75 l0_1 x29_2).f1.f1.f1.f0), .int .i64 ((rd_T75 l0_1 x29_2).f1.f1.f1.f1), .int .i64 ((rd_T75 l0_1 x29_2).f1.f1.f1.f2), .int .i64 ((rd_T75 l0_1 x29_2).f1.f1.f1.f3), .int .i64 ((rd_T75 l0_1 x29_2).f1.f1.f1.f4), .int .i64 ((rd_T75 l0_1 x29_2).f1.f1.f2), .int .i64 ((rd_T75 l0_1 x29_2).f1.f1.f3), .int .i64 ((rd_T75 l0_1 x29_2).f1.f1.f4)]] rfl Gv.lm ?_; (with_reducible refine (impl_FlowKeyOk.calls k2 _ _ _ _ _ _ _ _ _ _ _ _ _ _ true _ A20.out).mono ?_); rintro e w43 ⟨rfl, hb⟩; refine ⟨_, rfl, ?_⟩; have n0_ := Gv.a0 (blk_below (g := gb425) (o := .cells #[.int .i64 a0_0, .slice (some ad429) l0_1.length c0_1] 40 (0, 0)) Gv.bkf hb); have n1_ := Gv.a0 (blk_below (g := gb430) (o := .cells #[.bool true, .int .i64 ((rd_T75 l0_1 x29_2).f1.f0), .int .i64 ((rd_T75 l0_1 x29_2).f1.f1.f0.f0), .int .i64 ((rd_T75 l0_1 x29_2).f1.f1.f0.f1), .int .i64 ((rd_T75 l0_1 x29_2).f1.f1.f0.f2), .int .i64 ((rd_T75 l0_1 x29_2).f1.f1.f0.f3), .int .i64 ((rd_T75 l0_1 x29_2).f1.f1.f0.f4), .int .i64 ((rd_T75 l0_1 x29_2).f1.f1.f1.f0), .int .i64 ((rd_T75 l0_1 x29_2).f1.f1.f1.f1), .int .i64 ((rd_T75 l0_1 x29_2).f1.f1.f1.f2), .int .i64 ((rd_T75 l0_1 x29_2).f1.f1.f1.f3), .int .i64 ((rd_T75 l0_1 x29_2).f1.f1.f1.f4), .int .i64 ((rd_T75 l0_1 x29_2).f1.f1.f2), .int .i64 ((rd_T75 l0_1 x29_2).f1.f1.f3), .int .i64 ((rd_T75 l0_1 x29_2).f1.f1.f4), .int .i64 ((rd_T75 l0_1 x29_2).f2)] 75 (0, 0)) (by (with_reducible repeat (first | refine blk_drewN ?_ _ | refine blk_drew ?_ | refine blk_alloc ?_ _)); exact BK430.out) hb); have n2_ := Gv.a0 (below_step Gv.bw hb); clear BK425; clear BK430; clear HB; have BK425 := n0_; have BK430 := n1_; have HB := n2_; clear n0_ n1_ n2_; (try clear hb); (try clear hb2); (try clear hk); (try clear hi); obtain ⟨hcz44_0, hcz44_1, hcz44_2, hcz44_3, hcz44_4, hcz44_5, hcz44_6, hcz44_7, hcz44_8, hcz44_9, hcz44_10, hcz44_11, hcz44_12, hcz44_13, hcz44_14, hcz44_15⟩ := Gv.c16 BK430.out) | (go_at_call 44; (with_reducible refine (impl_within.calls _ 0 1000000000000 false _ A22.out).mono ?_); rintro e w' ⟨rfl, ⟨nd, rfl⟩⟩) | ((with_reducible refine Gv.gate_load (t := 75) rfl ?_); (try (refine gate_guard (by rfl) ?_; dsimp only)); refine wpList_load_row rfl 75 _ rfl gb430 rfl 75 _ _ _ (by first | exact Gv.kb0 BK430.out | exact Gv.kb1 (Gv.kb0 BK430.out)) Try.underlying75 rfl (by kernel_rfl) ?_) | ((with_reducible refine Gv.gate_load (t := 75) rfl ?_); refine Gv.load_event (cs := [_, _, _, _, _, _, _, _, _, _, _, _, _, _, _, _]) rfl rfl rfl ⟨hx429_0, hx429_1, hx429_2, hx429_3, hx429_4, hx429_5, hx429_6, hx429_7, hx429_8, hx429_9, hx429_10, hx429_11, hx429_12, hx429_13, hx429_14, hx429_15, trivial⟩ Try.underlying75 rfl (by kernel_rfl) ?_))
            go_ret
            exact ⟨Gv.rt, Gv.bw⟩
          ·replace c21 := Bool.eq_false_iff.mpr c21
           subst c21
           have H1 : (some false) = some r := by rw [if_neg (show ¬ (false = true) by decide)] at H; exact H
           clear H
           have H := H1
           clear H1
           obtain rfl := Option.some.inj H
           have p429 : 0 ≤ (x29_2 : Int) := of_decide_eq_true (by first | (with_reducible assumption) | assumption)
           have q429 : x29_2 < (l0_1.length : Int) := of_decide_eq_true (by first | (with_reducible assumption) | assumption)
           obtain ⟨ad429, e429, hx429_0, hx429_1, hx429_2, hx429_3, hx429_4, hx429_5, hx429_6, hx429_7, hx429_8, hx429_9, hx429_10, hx429_11, hx429_12, hx429_13, hx429_14, hx429_15⟩ := at_T75 HR0_1.out x29_2 p429 q429
           (try rw [← Nbq18.out] at hx429_0)
           cases e429
           replace hx429_0 := Gv.bx HB.out hx429_0
           replace hx429_1 := Gv.bx HB.out hx429_1
           replace hx429_2 := Gv.bx HB.out hx429_2
           replace hx429_3 := Gv.bx HB.out hx429_3
           replace hx429_4 := Gv.bx HB.out hx429_4
           replace hx429_5 := Gv.bx HB.out hx429_5
           replace hx429_6 := Gv.bx HB.out hx429_6
           replace hx429_7 := Gv.bx HB.out hx429_7
           replace hx429_8 := Gv.bx HB.out hx429_8
           replace hx429_9 := Gv.bx HB.out hx429_9
           replace hx429_10 := Gv.bx HB.out hx429_10
           replace hx429_11 := Gv.bx HB.out hx429_11
           replace hx429_12 := Gv.bx HB.out hx429_12
           replace hx429_13 := Gv.bx HB.out hx429_13
           replace hx429_14 := Gv.bx HB.out hx429_14
           replace hx429_15 := Gv.bx HB.out hx429_15
           replace p429 := eq_true p429
           replace q429 := eq_true q429
           go_wp2_with (first | ((with_reducible refine gate_dst (N := 4) rfl ?_); (try (refine gate_guard (by rfl) ?_; dsimp only)); refine box_event ?hg (N := 4) ?hd (cs := #[.bool false, .int .i64 0, .int .i64 0, .int .i64 0, .int .i64 0, .int .i64 0, .int .i64 0, .int .i64 0, .int .i64 0, .int .i64 0, .int .i64 0, .int .i64 0, .int .i64 0, .int .i64 0, .int .i64 0, .int .i64 0]) (t := 75) ?hr ?_; (case hd => rfl); (case hg => rfl); (case hr => first | (go_simp; done) | (go_simp; rfl)); intro gb430 hg w45 hbox hb; have n0_ := Gv.a0 (Gv.bb BK425.out hb); have n1_ := Gv.a0 (below_step Gv.bw hb); have n2_ := Gv.a0 (hbox); have n3_ := Gv.a0 ((Gv.ble hg Gv.bw : w.heap.size ≤ gb430)); have n4_ := Gv.a0 ((Gv.ble hg Gv.bw : w.heap.size ≤ gb430)); have n5_ := Gv.a0 ((Gv.nlt hg (Gv.kb BK425.out) : gb425 ≠ gb430)); have n6_ := Gv.a0 ((Gv.ngt hg (Gv.kb BK425.out) : gb430 ≠ gb425)); clear BK425; clear HB; have BK425 := n0_; have HB := n1_; have BK430 := n2_; have GW430 := n3_; have GE430 := n4_; have NB425_430 := n5_; have NB430_425 := n6_; clear n0_ n1_ n2_ n3_ n4_ n5_ n6_; clear hb hbox hg; have hnb46 := NB430_425.out; have hnc46 := NB425_430.out; obtain ⟨hcz47_0, hcz47_1, hcz47_2, hcz47_3, hcz47_4, hcz47_5, hcz47_6, hcz47_7, hcz47_8, hcz47_9, hcz47_10, hcz47_11, hcz47_12, hcz47_13, hcz47_14, hcz47_15⟩ := Gv.c16 BK430.out) | ((with_reducible refine gate_store (t := 75) (p := 4) rfl ?_); refine Gv.store_event rfl rfl rfl rfl rfl (Gv.kb BK430.out) (by kernel_rfl) rfl (by simp; and_intros <;> rfl) ?_; intro w45s hbox hoth hbel; have n0_ := Gv.a0 (hbox); have n1_ := Gv.a0 (hbel w Gv.bw GE430.out); have n2_ := Gv.a0 ((hoth gb425 NB425_430.out).trans (Gv.kb BK425.out)); clear BK430 HB BK425; have BK430 := n0_; have HB := n1_; have BK425 := n2_; clear n0_ n1_ n2_ hbox hoth hbel; (try clear hcz47_0 hcz47_1 hcz47_2 hcz47_3 hcz47_4 hcz47_5 hcz47_6 hcz47_7 hcz47_8 hcz47_9 hcz47_10 hcz47_11 hcz47_12 hcz47_13 hcz47_14 hcz47_15 hfz47_0 hfz47_1 hfz47_2 hfz47_3 hfz47_4 hfz47_5 hfz47_6 hfz47_7 hfz47_8 hfz47_9 hfz47_10 hfz47_11 hfz47_12 hfz47_13 hfz47_14 hfz47_15); obtain ⟨hcz47_0, hcz47_1, hcz47_2, hcz47_3, hcz47_4, hcz47_5, hcz47_6, hcz47_7, hcz47_8, hcz47_9, hcz47_10, hcz47_11, hcz47_12, hcz47_13, hcz47_14, hcz47_15⟩ := Gv.c16 BK430.out) | ((with_reducible refine gate_callee (f := 15) rfl ?_); refine goesL_ (some 44) rfl rfl Try.func15 (by kernel_rfl) rfl #[.agg #[.int .i64 ((rd_T75 l0_1 x29_2).f1.f0), .int .i64 ((rd_T75 l0_1 x29_2).f1.f1.f0.f0), .int .i64 ((rd_T75 l0_1 x29_2).f1.f1.f0.f1), .int .i64 ((rd_T75 l0_1 x29_2).f1.f1.f0.f2), .int .i64 ((rd_T75 l0_1 x29_2).f1.f1.f0.f3), .int .i64 ((rd_T75 l0_1 x29_2).f1.f1.f0.f4), .int .i64 ((rd_T75 l0_1 x29_2).f1.f1.f1.f0), .int .i64 ((rd_T75 l0_1 x29_2).f1.f1.f1.f1), .int .i64 ((rd_T75 l0_1 x29_2).f1.f1.f1.f2), .int .i64 ((rd_T75 l0_1 x29_2).f1.f1.f1.f3), .int .i64 ((rd_T75 l0_1 x29_2).f1.f1.f1.f4), .int .i64 ((rd_T75 l0_1 x29_2).f1.f1.f2), .int .i64 ((rd_T75 l0_1 x29_2).f1.f1.f3), .int .i64 ((rd_T75 l0_1 x29_2).f1.f1.f4)]] rfl Gv.lm ?_; (with_reducible refine (impl_FlowKeyOk.calls k2 _ _ _ _ _ _ _ _ _ _ _ _ _ _ false _ A20.out).mono ?_); rintro e w48 ⟨rfl, hb⟩; refine ⟨_, rfl, ?_⟩; have n0_ := Gv.a0 (blk_below (g := gb425) (o := .cells #[.int .i64 a0_0, .slice (some ad429) l0_1.length c0_1] 40 (0, 0)) Gv.bkf hb); have n1_ := Gv.a0 (blk_below (g := gb430) (o := .cells #[.bool true, .int .i64 ((rd_T75 l0_1 x29_2).f1.f0), .int .i64 ((rd_T75 l0_1 x29_2).f1.f1.f0.f0), .int .i64 ((rd_T75 l0_1 x29_2).f1.f1.f0.f1), .int .i64 ((rd_T75 l0_1 x29_2).f1.f1.f0.f2), .int .i64 ((rd_T75 l0_1 x29_2).f1.f1.f0.f3), .int .i64 ((rd_T75 l0_1 x29_2).f1.f1.f0.f4), .int .i64 ((rd_T75 l0_1 x29_2).f1.f1.f1.f0), .int .i64 ((rd_T75 l0_1 x29_2).f1.f1.f1.f1), .int .i64 ((rd_T75 l0_1 x29_2).f1.f1.f1.f2), .int .i64 ((rd_T75 l0_1 x29_2).f1.f1.f1.f3), .int .i64 ((rd_T75 l0_1 x29_2).f1.f1.f1.f4), .int .i64 ((rd_T75 l0_1 x29_2).f1.f1.f2), .int .i64 ((rd_T75 l0_1 x29_2).f1.f1.f3), .int .i64 ((rd_T75 l0_1 x29_2).f1.f1.f4), .int .i64 ((rd_T75 l0_1 x29_2).f2)] 75 (0, 0)) (by (with_reducible repeat (first | refine blk_drewN ?_ _ | refine blk_drew ?_ | refine blk_alloc ?_ _)); exact BK430.out) hb); have n2_ := Gv.a0 (below_step Gv.bw hb); clear BK425; clear BK430; clear HB; have BK425 := n0_; have BK430 := n1_; have HB := n2_; clear n0_ n1_ n2_; (try clear hb); (try clear hb2); (try clear hk); (try clear hi)) | ((with_reducible refine Gv.gate_load (t := 75) rfl ?_); (try (refine gate_guard (by rfl) ?_; dsimp only)); refine wpList_load_row rfl 75 _ rfl gb430 rfl 75 _ _ _ (by first | exact Gv.kb0 BK430.out | exact Gv.kb1 (Gv.kb0 BK430.out)) Try.underlying75 rfl (by kernel_rfl) ?_) | ((with_reducible refine Gv.gate_load (t := 75) rfl ?_); refine Gv.load_event (cs := [_, _, _, _, _, _, _, _, _, _, _, _, _, _, _, _]) rfl rfl rfl ⟨hx429_0, hx429_1, hx429_2, hx429_3, hx429_4, hx429_5, hx429_6, hx429_7, hx429_8, hx429_9, hx429_10, hx429_11, hx429_12, hx429_13, hx429_14, hx429_15, trivial⟩ Try.underlying75 rfl (by kernel_rfl) ?_))
           go_ret
           exact ⟨Gv.rt, Gv.bw⟩
         ·replace c19 := Bool.eq_false_iff.mpr c19
          subst c19
          have H1 : (if (((!(((rd_T75 l0_1 x29_2).f1.f0) == 0) || (((!(((rd_T75 l0_1 x29_2).f1.f1.f0.f0) == 0) || (!(((rd_T75 l0_1 x29_2).f1.f1.f0.f1) == 0) || (!(((rd_T75 l0_1 x29_2).f1.f1.f0.f2) == 0) || (!(((rd_T75 l0_1 x29_2).f1.f1.f0.f3) == 0) || (!(((rd_T75 l0_1 x29_2).f1.f1.f0.f4) == 0)))))) || ((!(((rd_T75 l0_1 x29_2).f1.f1.f1.f0) == 0) || (!(((rd_T75 l0_1 x29_2).f1.f1.f1.f1) == 0) || (!(((rd_T75 l0_1 x29_2).f1.f1.f1.f2) == 0) || (!(((rd_T75 l0_1 x29_2).f1.f1.f1.f3) == 0) || (!(((rd_T75 l0_1 x29_2).f1.f1.f1.f4) == 0)))))) || (!(((rd_T75 l0_1 x29_2).f1.f1.f2) == 0) || (!(((rd_T75 l0_1 x29_2).f1.f1.f3) == 0) || (!(((rd_T75 l0_1 x29_2).f1.f1.f4) == 0)))))))) || (!(((rd_T75 l0_1 x29_2).f2) == 0)))) = true then (some false) else (impl_TableOk.l0 k2 l0_1 (l0_1.length : Int) (wrap64 (x29_2 + 1)) a0_0 l0_1)) = some r := by rw [if_neg (show ¬ (false = true) by decide)] at H; exact H
          clear H
          have H := H1
          clear H1
          by_cases c49 : (((!(((rd_T75 l0_1 x29_2).f1.f0) == 0) || (((!(((rd_T75 l0_1 x29_2).f1.f1.f0.f0) == 0) || (!(((rd_T75 l0_1 x29_2).f1.f1.f0.f1) == 0) || (!(((rd_T75 l0_1 x29_2).f1.f1.f0.f2) == 0) || (!(((rd_T75 l0_1 x29_2).f1.f1.f0.f3) == 0) || (!(((rd_T75 l0_1 x29_2).f1.f1.f0.f4) == 0)))))) || ((!(((rd_T75 l0_1 x29_2).f1.f1.f1.f0) == 0) || (!(((rd_T75 l0_1 x29_2).f1.f1.f1.f1) == 0) || (!(((rd_T75 l0_1 x29_2).f1.f1.f1.f2) == 0) || (!(((rd_T75 l0_1 x29_2).f1.f1.f1.f3) == 0) || (!(((rd_T75 l0_1 x29_2).f1.f1.f1.f4) == 0)))))) || (!(((rd_T75 l0_1 x29_2).f1.f1.f2) == 0) || (!(((rd_T75 l0_1 x29_2).f1.f1.f3) == 0) || (!(((rd_T75 l0_1 x29_2).f1.f1.f4) == 0)))))))) || (!(((rd_T75 l0_1 x29_2).f2) == 0)))) = true
          ·rw [if_pos c49] at H
           have c49b0 : (((!(((rd_T75 l0_1 x29_2).f1.f0) == 0) || (((!(((rd_T75 l0_1 x29_2).f1.f1.f0.f0) == 0) || (!(((rd_T75 l0_1 x29_2).f1.f1.f0.f1) == 0) || (!(((rd_T75 l0_1 x29_2).f1.f1.f0.f2) == 0) || (!(((rd_T75 l0_1 x29_2).f1.f1.f0.f3) == 0) || (!(((rd_T75 l0_1 x29_2).f1.f1.f0.f4) == 0)))))) || ((!(((rd_T75 l0_1 x29_2).f1.f1.f1.f0) == 0) || (!(((rd_T75 l0_1 x29_2).f1.f1.f1.f1) == 0) || (!(((rd_T75 l0_1 x29_2).f1.f1.f1.f2) == 0) || (!(((rd_T75 l0_1 x29_2).f1.f1.f1.f3) == 0) || (!(((rd_T75 l0_1 x29_2).f1.f1.f1.f4) == 0)))))) || (!(((rd_T75 l0_1 x29_2).f1.f1.f2) == 0) || (!(((rd_T75 l0_1 x29_2).f1.f1.f3) == 0) || (!(((rd_T75 l0_1 x29_2).f1.f1.f4) == 0)))))))) || (!(((rd_T75 l0_1 x29_2).f2) == 0)))) = true := c49
           clear c49
           obtain rfl := Option.some.inj H
           have p429 : 0 ≤ (x29_2 : Int) := of_decide_eq_true (by first | (with_reducible assumption) | assumption)
           have q429 : x29_2 < (l0_1.length : Int) := of_decide_eq_true (by first | (with_reducible assumption) | assumption)
           obtain ⟨ad429, e429, hx429_0, hx429_1, hx429_2, hx429_3, hx429_4, hx429_5, hx429_6, hx429_7, hx429_8, hx429_9, hx429_10, hx429_11, hx429_12, hx429_13, hx429_14, hx429_15⟩ := at_T75 HR0_1.out x29_2 p429 q429
           (try rw [← Nbq18.out] at hx429_0)
           cases e429
           replace hx429_0 := Gv.bx HB.out hx429_0
           replace hx429_1 := Gv.bx HB.out hx429_1
           replace hx429_2 := Gv.bx HB.out hx429_2
           replace hx429_3 := Gv.bx HB.out hx429_3
           replace hx429_4 := Gv.bx HB.out hx429_4
           replace hx429_5 := Gv.bx HB.out hx429_5
           replace hx429_6 := Gv.bx HB.out hx429_6
           replace hx429_7 := Gv.bx HB.out hx429_7
           replace hx429_8 := Gv.bx HB.out hx429_8
           replace hx429_9 := Gv.bx HB.out hx429_9
           replace hx429_10 := Gv.bx HB.out hx429_10
           replace hx429_11 := Gv.bx HB.out hx429_11
           replace hx429_12 := Gv.bx HB.out hx429_12
           replace hx429_13 := Gv.bx HB.out hx429_13
           replace hx429_14 := Gv.bx HB.out hx429_14
           replace hx429_15 := Gv.bx HB.out hx429_15
           replace p429 := eq_true p429
           replace q429 := eq_true q429
           go_wp2_with (first | ((with_reducible refine gate_dst (N := 4) rfl ?_); (try (refine gate_guard (by rfl) ?_; dsimp only)); refine box_event ?hg (N := 4) ?hd (cs := #[.bool false, .int .i64 0, .int .i64 0, .int .i64 0, .int .i64 0, .int .i64 0, .int .i64 0, .int .i64 0, .int .i64 0, .int .i64 0, .int .i64 0, .int .i64 0, .int .i64 0, .int .i64 0, .int .i64 0, .int .i64 0]) (t := 75) ?hr ?_; (case hd => rfl); (case hg => rfl); (case hr => first | (go_simp; done) | (go_simp; rfl)); intro gb430 hg w50 hbox hb; have n0_ := Gv.a0 (Gv.bb BK425.out hb); have n1_ := Gv.a0 (below_step Gv.bw hb); have n2_ := Gv.a0 (hbox); have n3_ := Gv.a0 ((Gv.ble hg Gv.bw : w.heap.size ≤ gb430)); have n4_ := Gv.a0 ((Gv.ble hg Gv.bw : w.heap.size ≤ gb430)); have n5_ := Gv.a0 ((Gv.nlt hg (Gv.kb BK425.out) : gb425 ≠ gb430)); have n6_ := Gv.a0 ((Gv.ngt hg (Gv.kb BK425.out) : gb430 ≠ gb425)); clear BK425; clear HB; have BK425 := n0_; have HB := n1_; have BK430 := n2_; have GW430 := n3_; have GE430 := n4_; have NB425_430 := n5_; have NB430_425 := n6_; clear n0_ n1_ n2_ n3_ n4_ n5_ n6_; clear hb hbox hg; have hnb51 := NB430_425.out; have hnc51 := NB425_430.out; obtain ⟨hcz52_0, hcz52_1, hcz52_2, hcz52_3, hcz52_4, hcz52_5, hcz52_6, hcz52_7, hcz52_8, hcz52_9, hcz52_10, hcz52_11, hcz52_12, hcz52_13, hcz52_14, hcz52_15⟩ := Gv.c16 BK430.out) | ((with_reducible refine gate_store (t := 75) (p := 4) rfl ?_); refine Gv.store_event rfl rfl rfl rfl rfl (Gv.kb BK430.out) (by kernel_rfl) rfl (by simp; and_intros <;> rfl) ?_; intro w50s hbox hoth hbel; have n0_ := Gv.a0 (hbox); have n1_ := Gv.a0 (hbel w Gv.bw GE430.out); have n2_ := Gv.a0 ((hoth gb425 NB425_430.out).trans (Gv.kb BK425.out)); clear BK430 HB BK425; have BK430 := n0_; have HB := n1_; have BK425 := n2_; clear n0_ n1_ n2_ hbox hoth hbel; (try clear hcz52_0 hcz52_1 hcz52_2 hcz52_3 hcz52_4 hcz52_5 hcz52_6 hcz52_7 hcz52_8 hcz52_9 hcz52_10 hcz52_11 hcz52_12 hcz52_13 hcz52_14 hcz52_15 hfz52_0 hfz52_1 hfz52_2 hfz52_3 hfz52_4 hfz52_5 hfz52_6 hfz52_7 hfz52_8 hfz52_9 hfz52_10 hfz52_11 hfz52_12 hfz52_13 hfz52_14 hfz52_15); obtain ⟨hcz52_0, hcz52_1, hcz52_2, hcz52_3, hcz52_4, hcz52_5, hcz52_6, hcz52_7, hcz52_8, hcz52_9, hcz52_10, hcz52_11, hcz52_12, hcz52_13, hcz52_14, hcz52_15⟩ := Gv.c16 BK430.out) | ((with_reducible refine Gv.gate_load (t := 75) rfl ?_); (try (refine gate_guard (by rfl) ?_; dsimp only)); refine wpList_load_row rfl 75 _ rfl gb430 rfl 75 _ _ _ (by first | exact Gv.kb0 BK430.out | exact Gv.kb1 (Gv.kb0 BK430.out)) Try.underlying75 rfl (by kernel_rfl) ?_) | ((with_reducible refine Gv.gate_load (t := 75) rfl ?_); refine Gv.load_event (cs := [_, _, _, _, _, _, _, _, _, _, _, _, _, _, _, _]) rfl rfl rfl ⟨hx429_0, hx429_1, hx429_2, hx429_3, hx429_4, hx429_5, hx429_6, hx429_7, hx429_8, hx429_9, hx429_10, hx429_11, hx429_12, hx429_13, hx429_14, hx429_15, trivial⟩ Try.underlying75 rfl (by kernel_rfl) ?_))
           go_ret
           exact ⟨Gv.rt, Gv.bw⟩
          ·rw [if_neg c49] at H
           have c49b0 : (((!(((rd_T75 l0_1 x29_2).f1.f0) == 0) || (((!(((rd_T75 l0_1 x29_2).f1.f1.f0.f0) == 0) || (!(((rd_T75 l0_1 x29_2).f1.f1.f0.f1) == 0) || (!(((rd_T75 l0_1 x29_2).f1.f1.f0.f2) == 0) || (!(((rd_T75 l0_1 x29_2).f1.f1.f0.f3) == 0) || (!(((rd_T75 l0_1 x29_2).f1.f1.f0.f4) == 0)))))) || ((!(((rd_T75 l0_1 x29_2).f1.f1.f1.f0) == 0) || (!(((rd_T75 l0_1 x29_2).f1.f1.f1.f1) == 0) || (!(((rd_T75 l0_1 x29_2).f1.f1.f1.f2) == 0) || (!(((rd_T75 l0_1 x29_2).f1.f1.f1.f3) == 0) || (!(((rd_T75 l0_1 x29_2).f1.f1.f1.f4) == 0)))))) || (!(((rd_T75 l0_1 x29_2).f1.f1.f2) == 0) || (!(((rd_T75 l0_1 x29_2).f1.f1.f3) == 0) || (!(((rd_T75 l0_1 x29_2).f1.f1.f4) == 0)))))))) || (!(((rd_T75 l0_1 x29_2).f2) == 0)))) = false := by simpa using c49
           clear c49
           have H' := Gv.a0 H
           clear H
           have p429 : 0 ≤ (x29_2 : Int) := of_decide_eq_true (by first | (with_reducible assumption) | assumption)
           have q429 : x29_2 < (l0_1.length : Int) := of_decide_eq_true (by first | (with_reducible assumption) | assumption)
           obtain ⟨ad429, e429, hx429_0, hx429_1, hx429_2, hx429_3, hx429_4, hx429_5, hx429_6, hx429_7, hx429_8, hx429_9, hx429_10, hx429_11, hx429_12, hx429_13, hx429_14, hx429_15⟩ := at_T75 HR0_1.out x29_2 p429 q429
           (try rw [← Nbq18.out] at hx429_0)
           cases e429
           replace hx429_0 := Gv.bx HB.out hx429_0
           replace hx429_1 := Gv.bx HB.out hx429_1
           replace hx429_2 := Gv.bx HB.out hx429_2
           replace hx429_3 := Gv.bx HB.out hx429_3
           replace hx429_4 := Gv.bx HB.out hx429_4
           replace hx429_5 := Gv.bx HB.out hx429_5
           replace hx429_6 := Gv.bx HB.out hx429_6
           replace hx429_7 := Gv.bx HB.out hx429_7
           replace hx429_8 := Gv.bx HB.out hx429_8
           replace hx429_9 := Gv.bx HB.out hx429_9
           replace hx429_10 := Gv.bx HB.out hx429_10
           replace hx429_11 := Gv.bx HB.out hx429_11
           replace hx429_12 := Gv.bx HB.out hx429_12
           replace hx429_13 := Gv.bx HB.out hx429_13
           replace hx429_14 := Gv.bx HB.out hx429_14
           replace hx429_15 := Gv.bx HB.out hx429_15
           replace p429 := eq_true p429
           replace q429 := eq_true q429
           go_wp2_with (first | ((with_reducible refine gate_dst (N := 4) rfl ?_); (try (refine gate_guard (by rfl) ?_; dsimp only)); refine box_event ?hg (N := 4) ?hd (cs := #[.bool false, .int .i64 0, .int .i64 0, .int .i64 0, .int .i64 0, .int .i64 0, .int .i64 0, .int .i64 0, .int .i64 0, .int .i64 0, .int .i64 0, .int .i64 0, .int .i64 0, .int .i64 0, .int .i64 0, .int .i64 0]) (t := 75) ?hr ?_; (case hd => rfl); (case hg => rfl); (case hr => first | (go_simp; done) | (go_simp; rfl)); intro gb430 hg w53 hbox hb; have n0_ := Gv.a0 (Gv.bb BK425.out hb); have n1_ := Gv.a0 (below_step Gv.bw hb); have n2_ := Gv.a0 (hbox); have n3_ := Gv.a0 ((Gv.ble hg Gv.bw : w.heap.size ≤ gb430)); have n4_ := Gv.a0 ((Gv.ble hg Gv.bw : w.heap.size ≤ gb430)); have n5_ := Gv.a0 ((Gv.nlt hg (Gv.kb BK425.out) : gb425 ≠ gb430)); have n6_ := Gv.a0 ((Gv.ngt hg (Gv.kb BK425.out) : gb430 ≠ gb425)); clear BK425; clear HB; have BK425 := n0_; have HB := n1_; have BK430 := n2_; have GW430 := n3_; have GE430 := n4_; have NB425_430 := n5_; have NB430_425 := n6_; clear n0_ n1_ n2_ n3_ n4_ n5_ n6_; clear hb hbox hg; have hnb54 := NB430_425.out; have hnc54 := NB425_430.out; obtain ⟨hcz55_0, hcz55_1, hcz55_2, hcz55_3, hcz55_4, hcz55_5, hcz55_6, hcz55_7, hcz55_8, hcz55_9, hcz55_10, hcz55_11, hcz55_12, hcz55_13, hcz55_14, hcz55_15⟩ := Gv.c16 BK430.out) | ((with_reducible refine gate_store (t := 75) (p := 4) rfl ?_); refine Gv.store_event rfl rfl rfl rfl rfl (Gv.kb BK430.out) (by kernel_rfl) rfl (by simp; and_intros <;> rfl) ?_; intro w53s hbox hoth hbel; have n0_ := Gv.a0 (hbox); have n1_ := Gv.a0 (hbel w Gv.bw GE430.out); have n2_ := Gv.a0 ((hoth gb425 NB425_430.out).trans (Gv.kb BK425.out)); clear BK430 HB BK425; have BK430 := n0_; have HB := n1_; have BK425 := n2_; clear n0_ n1_ n2_ hbox hoth hbel; (try clear hcz55_0 hcz55_1 hcz55_2 hcz55_3 hcz55_4 hcz55_5 hcz55_6 hcz55_7 hcz55_8 hcz55_9 hcz55_10 hcz55_11 hcz55_12 hcz55_13 hcz55_14 hcz55_15 hfz55_0 hfz55_1 hfz55_2 hfz55_3 hfz55_4 hfz55_5 hfz55_6 hfz55_7 hfz55_8 hfz55_9 hfz55_10 hfz55_11 hfz55_12 hfz55_13 hfz55_14 hfz55_15); obtain ⟨hcz55_0, hcz55_1, hcz55_2, hcz55_3, hcz55_4, hcz55_5, hcz55_6, hcz55_7, hcz55_8, hcz55_9, hcz55_10, hcz55_11, hcz55_12, hcz55_13, hcz55_14, hcz55_15⟩ := Gv.c16 BK430.out) | ((with_reducible refine Gv.gate_load (t := 75) rfl ?_); (try (refine gate_guard (by rfl) ?_; dsimp only)); refine wpList_load_row rfl 75 _ rfl gb430 rfl 75 _ _ _ (by first | exact Gv.kb0 BK430.out | exact Gv.kb1 (Gv.kb0 BK430.out)) Try.underlying75 rfl (by kernel_rfl) ?_) | ((with_reducible refine Gv.gate_load (t := 75) rfl ?_); refine Gv.load_event (cs := [_, _, _, _, _, _, _, _, _, _, _, _, _, _, _, _]) rfl rfl rfl ⟨hx429_0, hx429_1, hx429_2, hx429_3, hx429_4, hx429_5, hx429_6, hx429_7, hx429_8, hx429_9, hx429_10, hx429_11, hx429_12, hx429_13, hx429_14, hx429_15, trivial⟩ Try.underlying75 rfl (by kernel_rfl) ?_))
           go_roundg k2
           case measure => have := HJ1.out; have := HK2.out; omega
           case rel => exact ⟨(wrap64 (x29_2 + 1)), Gv.rq, H', ⟨by have := HJ1.out; have := HK2.out; omega⟩, ⟨by (with_reducible repeat (first | refine blk_drewN ?_ _ | refine blk_drew ?_ | refine blk_alloc ?_ _)); (repeat (refine blk_far ?_ NB425_430.out _; (with_reducible repeat (first | refine blk_drewN ?_ _ | refine blk_drew ?_ | refine blk_alloc ?_ _)))); (with_reducible repeat (first | refine blk_drewN ?_ _ | refine blk_drew ?_ | refine blk_alloc ?_ _)); exact BK425.out⟩, ⟨Gv.bw⟩⟩
        ·rw [if_neg c17] at H
         exact absurd H (by simp)
       ·rw [if_neg c16] at H
        exact absurd H (by simp)
      ·rw [if_neg c15] at H
       have c15b0 : decide (x29_2 < (l0_1.length : Int)) = false := decide_eq_false c15
       clear c15
       obtain rfl := Option.some.inj H
       go_wp2_with (first | ((with_reducible refine Gv.gate_load (t := 75) rfl ?_); (try (refine gate_guard (by rfl) ?_; dsimp only)); refine wpList_load_row rfl 75 _ rfl gb430 rfl 75 _ _ _ (by first | exact Gv.kb0 BK430.out | exact Gv.kb1 (Gv.kb0 BK430.out)) Try.underlying75 rfl (by kernel_rfl) ?_))
       go_ret
       exact ⟨Gv.rt, Gv.bw⟩

/-! ### impl_TableKeys: function 34 -/
def impl_TableKeys.l0 : Nat → List (S33) → List (S75) → Int → Int → Option ((List (S33)))
 | 0, _, _, _, _ => none
 | k + 1, x3, x11, x12, x13 => if x13 < x12 then (if 0 ≤ x13 then (if x13 < (x11.length : Int) then (if (rd_T75 x11 x13).f0 = true then (if x3.length < 1256584717458 then (impl_TableKeys.l0 k (x3 ++ [(⟨(rd_T75 x11 x13).f1.f0, (⟨(⟨(rd_T75 x11 x13).f1.f1.f0.f0, (rd_T75 x11 x13).f1.f1.f0.f1, (rd_T75 x11 x13).f1.f1.f0.f2, (rd_T75 x11 x13).f1.f1.f0.f3, (rd_T75 x11 x13).f1.f1.f0.f4⟩ : S29), (⟨(rd_T75 x11 x13).f1.f1.f1.f0, (rd_T75 x11 x13).f1.f1.f1.f1, (rd_T75 x11 x13).f1.f1.f1.f2, (rd_T75 x11 x13).f1.f1.f1.f3, (rd_T75 x11 x13).f1.f1.f1.f4⟩ : S29), (rd_T75 x11 x13).f1.f1.f2, (rd_T75 x11 x13).f1.f1.f3, (rd_T75 x11 x13).f1.f1.f4⟩ : S31)⟩ : S33)]) x11 x12 (wrap64 (x13 + 1))) else (none)) else (impl_TableKeys.l0 k x3 x11 x12 (wrap64 (x13 + 1)))) else (none)) else (none)) else (some x3)
def impl_TableKeys.f (k : Nat) (a0_0 : Int) (l0_1 : List (S75)) : Option ((List (S33))) := (impl_TableOk.f k a0_0 l0_1).bind fun t435 => (if t435 = true then (impl_TableKeys.l0 k (([] : List (S33))) l0_1 (l0_1.length : Int) 0) else (some ([] : List (S33))))
theorem impl_TableKeys.mono_l : ∀ k, (∀ y0 y1 y2 y3, LeO (impl_TableKeys.l0 k y0 y1 y2 y3) (impl_TableKeys.l0 (k + 1) y0 y1 y2 y3))
 | 0 => fun _ _ _ _ r h => by simp [impl_TableKeys.l0] at h
 | k + 1 => by
  have ih0 := impl_TableKeys.mono_l k
  ·intro y0 y1 y2 y3
   unfold impl_TableKeys.l0
   repeat' first
   | (with_reducible exact ih0 _ _ _ _)
   | (with_reducible exact impl_TableOk.mono _ _ _)
   | (with_reducible exact LeO.refl _)
   | (with_reducible exact LeO.none _)
   | (with_reducible refine LeO.ite ?_ ?_)
   | (with_reducible refine LeO.bind ?_ (fun _ => ?_))
   | exact ih0 _ _ _ _
   | exact impl_TableOk.mono _ _ _
   | exact LeO.none _
   | refine LeO.ite ?_ ?_
   | refine LeO.bind ?_ (fun _ => ?_)
theorem impl_TableKeys.mono : ∀ a0 a1 k, LeO (impl_TableKeys.f k a0 a1) (impl_TableKeys.f (k + 1) a0 a1) := by
 intro a0 a1 k
 have ih0 := impl_TableKeys.mono_l k
 unfold impl_TableKeys.f
 repeat' first
   | (with_reducible exact ih0 _ _ _ _)
   | (with_reducible exact impl_TableOk.mono _ _ _)
   | (with_reducible exact LeO.refl _)
   | (with_reducible exact LeO.none _)
   | (with_reducible refine LeO.ite ?_ ?_)
   | (with_reducible refine LeO.bind ?_ (fun _ => ?_))
   | exact ih0 _ _ _ _
   | exact impl_TableOk.mono _ _ _
   | exact LeO.none _
   | refine LeO.ite ?_ ?_
   | refine LeO.bind ?_ (fun _ => ?_)
set_option maxHeartbeats 8000000 in
set_option maxRecDepth 100000 in
theorem impl_TableKeys.calls (k : Nat) (a0_0 : Int) (A0_1 : Option Addr) (c0_1 : Nat) (l0_1 : List (S75)) (r : List (S33)) (w : World) (hr0_1 : Kd.C k75 w A0_1 l0_1.length l0_1) (hc0_1 : l0_1.length ≤ c0_1) (h : impl_TableKeys.f k a0_0 l0_1 = some r) :
  Calls Try.prog 34 #[.agg #[.int .i64 a0_0, .slice A0_1 l0_1.length c0_1]] w fun e w' => ∃ v0_ : Value, e = .returned (v0_) ∧ Kd.R k33 33 w' w.heap.size (fun _ => True) v0_ r ∧ Below w.heap.size w w' := by
 have hu40 := Try.underlying40
 have hu75 := Try.underlying75
 have hu33 := Try.underlying33
 have HR0_1 := Gv.a0 hr0_1
 have HC0_1 := Gv.a0 hc0_1
 clear hr0_1 hc0_1
 have HB := Gv.a0 (Below.refl w.heap.size w)
 have H : ((impl_TableOk.f k a0_0 l0_1).bind fun t435 => (if t435 = true then (impl_TableKeys.l0 k (([] : List (S33))) l0_1 (l0_1.length : Int) 0) else (some ([] : List (S33))))) = some r := h
 clear h
 replace H := Option.bind_eq_some_iff.mp H
 obtain ⟨t435, A20, H⟩ := H
 replace H : (if t435 = true then (impl_TableKeys.l0 k (([] : List (S33))) l0_1 (l0_1.length : Int) 0) else (some ([] : List (S33)))) = some r := H
 have A2 := Gv.a0 A20
 clear A20
 by_cases c3 : t435 = true
 ·subst c3
  have H1 : (impl_TableKeys.l0 k (([] : List (S33))) l0_1 (l0_1.length : Int) 0) = some r := by rw [if_pos rfl] at H; exact H
  clear H
  have H := H1
  clear H1
  obtain ⟨y436, hy436⟩ : ∃ y_ : List (S33), y_ = (([] : List (S33))) := ⟨_, rfl⟩
  replace H : (impl_TableKeys.l0 k y436 l0_1 (l0_1.length : Int) 0) = some r := by first | (rw [hy436]; with_reducible exact H) | (have H2_ := (Option.bind_some _ _).symm.trans H; rw [hy436]; with_reducible exact H2_) | (have H2_ := (Option.bind_some _ _).symm.trans H; with_reducible exact H2_) | with_reducible exact H | (rw [hy436]; exact H) | exact H
  have Ny436 := Gv.a0 hy436
  clear hy436
  have H' := Gv.a0 H
  clear H
  go_enter Try.func34, Try.ntmps34
  go_wp2_with (first | ((with_reducible refine gate_dst (N := 1) rfl ?_); refine box_event ?hg (N := 1) ?hd (cs := #[.int .i64 a0_0, .slice A0_1 l0_1.length c0_1]) (t := 40) ?hr ?_; (case hd => rfl); (case hg => rfl); (case hr => first | (go_simp; done) | (go_simp; rfl)); intro gb434 hg w4 hbox hb; have n0_ := Gv.a0 (below_step Gv.bw hb); have n1_ := Gv.a0 (hbox); have n2_ := Gv.a0 ((Gv.ble hg Gv.bw : w.heap.size ≤ gb434)); have n3_ := Gv.a0 ((Gv.ble hg Gv.bw : w.heap.size ≤ gb434)); clear HB; have HB := n0_; have BK434 := n1_; have GW434 := n2_; have GE434 := n3_; clear n0_ n1_ n2_ n3_; clear hb hbox hg; have hcz5_0 : w4.cell? ⟨gb434, 0, none⟩ = some (.int .i64 a0_0) := (blk_cell BK434.out 0).trans rfl; have hcz5_1 : w4.cell? ⟨gb434, 1, none⟩ = some (.slice A0_1 l0_1.length c0_1) := (blk_cell BK434.out 1).trans rfl; have hfz5_0 := blk_frozen BK434.out 0; have hfz5_1 := blk_frozen BK434.out 1) | ((with_reducible refine gate_callee (f := 26) rfl ?_); refine goesL_ (some 7) rfl rfl Try.func26 (by kernel_rfl) rfl #[.agg #[.int .i64 a0_0, .slice A0_1 l0_1.length c0_1]] rfl Gv.lm ?_; (with_reducible refine (impl_TableOk.calls k a0_0 _ _ l0_1 true _ ?side1 ?side2 A2.out).mono ?_); (case side1 => repeat (first | exact (Kd.C_below HR0_1.out HB.out) | (with_reducible refine Kd.C_alloc ?_ _) | (with_reducible refine Kd.C_drewN ?_ _) | (with_reducible refine Kd.C_drew ?_))); (case side2 => exact HC0_1.out); rintro e w6 ⟨rfl, hb⟩; refine ⟨_, rfl, ?_⟩; have n0_ := Gv.a0 (Gv.bb BK434.out hb); have n1_ := Gv.a0 (below_step Gv.bw hb); clear BK434; clear HB; have BK434 := n0_; have HB := n1_; clear n0_ n1_; (try clear hb); (try clear hb2); (try clear hk); (try clear hi)) | ((with_reducible refine gate_dst (N := 9) rfl ?_); refine Kd.R_lit k33 _ 33 ?hg (N := 9) ?hd (xs := ([] : List (S33))) (inner := []) (ok := fun _ => True) (okp := fun _ => True) ?hr ?hp (fun _ hk => hk) trivial (Below.refl _ _) (Nat.le_refl _) (by simp) ?_; (case hd => rfl); (case hg => rfl); (case hr => first | (go_simp; done) | (go_simp; rfl)); (case hp => exact (Reps.none _ _)); intro v437 w7 ho8 hb hg_ hnew_; clear hg_ hnew_; (first | rw [← Ny436.out] at ho8 | (simp only [Int.reduceToNat] at ho8; rw [← Ny436.out] at ho8)); have n0_ := Gv.a0 (Kd.R_lower ho8 (below_size Gv.bw)); have n1_ := Gv.a0 (Gv.bb BK434.out hb); have n2_ := Gv.a0 (below_step Gv.bw hb); clear BK434; clear HB; have HO438 := n0_; have BK434 := n1_; have HB := n2_; clear n0_ n1_ n2_; clear hb ho8; have hcz9_0 : w7.cell? ⟨gb434, 0, none⟩ = some (.int .i64 a0_0) := (blk_cell BK434.out 0).trans rfl; have hcz9_1 : w7.cell? ⟨gb434, 1, none⟩ = some (.slice A0_1 l0_1.length c0_1) := (blk_cell BK434.out 1).trans rfl; have hfz9_0 := blk_frozen BK434.out 0; have hfz9_1 := blk_frozen BK434.out 1) | ((with_reducible refine Gv.gate_load (t := 75) rfl ?_); (try (refine gate_guard (by rfl) ?_; dsimp only)); refine wpList_load_row rfl 75 _ rfl gb440 rfl 75 _ _ _ (by first | exact Gv.kb0 BK440.out | exact Gv.kb1 (Gv.kb0 BK440.out)) Try.underlying75 rfl (by kernel_rfl) ?_) | ((with_reducible refine Gv.gate_load (t := 33) rfl ?_); (try (refine gate_guard (by rfl) ?_; dsimp only)); refine Gv.sub_event (g := gb440) 14 rfl rfl rfl (by first | exact Gv.kb0 BK440.out | exact Gv.kb1 (Gv.kb0 BK440.out)) Try.underlying33 rfl (by kernel_rfl) ?_) | ((with_reducible refine Gv.gate_load (t := 31) rfl ?_); (try (refine gate_guard (by rfl) ?_; dsimp only)); refine Gv.sub_event (g := gb440) 13 rfl rfl rfl (by first | exact Gv.kb0 BK440.out | exact Gv.kb1 (Gv.kb0 BK440.out)) Try.underlying31 rfl (by kernel_rfl) ?_))
  go_loopg [3, 13] k (fun kq v3 v13 w' => ∃ (x3_1 : List (S33)) (x13_1 : Int), v13 = .int .i64 x13_1 ∧ Aside0 (impl_TableKeys.l0 kq x3_1 l0_1 (l0_1.length : Int) x13_1 = some r) ∧ Aside0 (kq ≤ k) ∧ Aside0 (Kd.R k33 33 w' w.heap.size (fun _ => True) v3 x3_1) ∧ Aside0 (w'.heap[gb434]? = some (.cells #[.int .i64 a0_0, (.slice A0_1 l0_1.length c0_1)] 40 (0, 0))) ∧ Aside0 (Below w.heap.size w w'))
  case atStart => exact ⟨(y436), (0), Gv.rq, H', ⟨Nat.le_refl _⟩, ⟨Gv.kr HO438.out⟩, ⟨by (with_reducible repeat (first | refine blk_drewN ?_ _ | refine blk_drew ?_ | refine blk_alloc ?_ _)); exact BK434.out⟩, ⟨Gv.bw⟩⟩
  case round =>
   clear H'
   try clear c2
   try clear p2
   try clear c3
   try clear hcz5_0 hcz5_1
   try clear hcz9_0 hcz9_1
   try clear hfz5_0 hfz5_1
   try clear hfz9_0 hfz9_1
   obtain ⟨x3_1, x13_1, rfl, HA, HK1, HO_3, BK434, HB⟩ := hrel
   cases gk with
   | zero => exact absurd HA.out (by simp [impl_TableKeys.l0])
   | succ k1 =>
    have H := HA.out
    clear HA
    simp only [impl_TableKeys.l0] at H
    by_cases c10 : x13_1 < (l0_1.length : Int)
    ·rw [if_pos c10] at H
     have c10b0 : decide (x13_1 < (l0_1.length : Int)) = true := decide_eq_true c10
     clear c10
     by_cases c11 : 0 ≤ x13_1
     ·rw [if_pos c11] at H
      have c11b0 : decide (0 ≤ x13_1) = true := decide_eq_true c11
      clear c11
      by_cases c12 : x13_1 < (l0_1.length : Int)
      ·rw [if_pos c12] at H
       have c12b0 : decide (x13_1 < (l0_1.length : Int)) = true := decide_eq_true c12
       clear c12
       obtain ⟨bq13, hbq13⟩ : ∃ b_ : Bool, b_ = ((rd_T75 l0_1 x13_1).f0) := ⟨_, rfl⟩
       replace H : (if bq13 = true then (if x3_1.length < 1256584717458 then (impl_TableKeys.l0 k1 (x3_1 ++ [(⟨(rd_T75 l0_1 x13_1).f1.f0, (⟨(⟨(rd_T75 l0_1 x13_1).f1.f1.f0.f0, (rd_T75 l0_1 x13_1).f1.f1.f0.f1, (rd_T75 l0_1 x13_1).f1.f1.f0.f2, (rd_T75 l0_1 x13_1).f1.f1.f0.f3, (rd_T75 l0_1 x13_1).f1.f1.f0.f4⟩ : S29), (⟨(rd_T75 l0_1 x13_1).f1.f1.f1.f0, (rd_T75 l0_1 x13_1).f1.f1.f1.f1, (rd_T75 l0_1 x13_1).f1.f1.f1.f2, (rd_T75 l0_1 x13_1).f1.f1.f1.f3, (rd_T75 l0_1 x13_1).f1.f1.f1.f4⟩ : S29), (rd_T75 l0_1 x13_1).f1.f1.f2, (rd_T75 l0_1 x13_1).f1.f1.f3, (rd_T75 l0_1 x13_1).f1.f1.f4⟩ : S31)⟩ : S33)]) l0_1 (l0_1.length : Int) (wrap64 (x13_1 + 1))) else (none)) else (impl_TableKeys.l0 k1 x3_1 l0_1 (l0_1.length : Int) (wrap64 (x13_1 + 1)))) = some r := by rw [← hbq13] at H; exact H
       have Nbq13 := Gv.a0 hbq13
       clear hbq13
       by_cases c14 : bq13 = true
       ·subst c14
        have H1 : (if x3_1.length < 1256584717458 then (impl_TableKeys.l0 k1 (x3_1 ++ [(⟨(rd_T75 l0_1 x13_1).f1.f0, (⟨(⟨(rd_T75 l0_1 x13_1).f1.f1.f0.f0, (rd_T75 l0_1 x13_1).f1.f1.f0.f1, (rd_T75 l0_1 x13_1).f1.f1.f0.f2, (rd_T75 l0_1 x13_1).f1.f1.f0.f3, (rd_T75 l0_1 x13_1).f1.f1.f0.f4⟩ : S29), (⟨(rd_T75 l0_1 x13_1).f1.f1.f1.f0, (rd_T75 l0_1 x13_1).f1.f1.f1.f1, (rd_T75 l0_1 x13_1).f1.f1.f1.f2, (rd_T75 l0_1 x13_1).f1.f1.f1.f3, (rd_T75 l0_1 x13_1).f1.f1.f1.f4⟩ : S29), (rd_T75 l0_1 x13_1).f1.f1.f2, (rd_T75 l0_1 x13_1).f1.f1.f3, (rd_T75 l0_1 x13_1).f1.f1.f4⟩ : S31)⟩ : S33)]) l0_1 (l0_1.length : Int) (wrap64 (x13_1 + 1))) else (none)) = some r := by rw [if_pos rfl] at H; exact H
        clear H
        have H := H1
        clear H1
        by_cases c15 : x3_1.length < 1256584717458
        ·rw [if_pos c15] at H
         have LMc15 := Gv.a0 c15
         clear c15
         obtain ⟨y441, hy441⟩ : ∃ y_ : List (S33), y_ = (x3_1 ++ [(⟨(rd_T75 l0_1 x13_1).f1.f0, (⟨(⟨(rd_T75 l0_1 x13_1).f1.f1.f0.f0, (rd_T75 l0_1 x13_1).f1.f1.f0.f1, (rd_T75 l0_1 x13_1).f1.f1.f0.f2, (rd_T75 l0_1 x13_1).f1.f1.f0.f3, (rd_T75 l0_1 x13_1).f1.f1.f0.f4⟩ : S29), (⟨(rd_T75 l0_1 x13_1).f1.f1.f1.f0, (rd_T75 l0_1 x13_1).f1.f1.f1.f1, (rd_T75 l0_1 x13_1).f1.f1.f1.f2, (rd_T75 l0_1 x13_1).f1.f1.f1.f3, (rd_T75 l0_1 x13_1).f1.f1.f1.f4⟩ : S29), (rd_T75 l0_1 x13_1).f1.f1.f2, (rd_T75 l0_1 x13_1).f1.f1.f3, (rd_T75 l0_1 x13_1).f1.f1.f4⟩ : S31)⟩ : S33)]) := ⟨_, rfl⟩
         replace H : (impl_TableKeys.l0 k1 y441 l0_1 (l0_1.length : Int) (wrap64 (x13_1 + 1))) = some r := by first | (rw [hy441]; with_reducible exact H) | (have H2_ := (Option.bind_some _ _).symm.trans H; rw [hy441]; with_reducible exact H2_) | (have H2_ := (Option.bind_some _ _).symm.trans H; with_reducible exact H2_) | with_reducible exact H | (rw [hy441]; exact H) | exact H
         have Ny441 := Gv.a0 hy441
         clear hy441
         have H' := Gv.a0 H
         clear H
         have p439 : 0 ≤ (x13_1 : Int) := of_decide_eq_true (by first | (with_reducible assumption) | assumption)
         have q439 : x13_1 < (l0_1.length : Int) := of_decide_eq_true (by first | (with_reducible assumption) | assumption)
         obtain ⟨ad439, e439, hx439_0, hx439_1, hx439_2, hx439_3, hx439_4, hx439_5, hx439_6, hx439_7, hx439_8, hx439_9, hx439_10, hx439_11, hx439_12, hx439_13, hx439_14, hx439_15⟩ := at_T75 HR0_1.out x13_1 p439 q439
         (try rw [← Nbq13.out] at hx439_0)
         cases e439
         replace hx439_0 := Gv.bx HB.out hx439_0
         replace hx439_1 := Gv.bx HB.out hx439_1
         replace hx439_2 := Gv.bx HB.out hx439_2
         replace hx439_3 := Gv.bx HB.out hx439_3
         replace hx439_4 := Gv.bx HB.out hx439_4
         replace hx439_5 := Gv.bx HB.out hx439_5
         replace hx439_6 := Gv.bx HB.out hx439_6
         replace hx439_7 := Gv.bx HB.out hx439_7
         replace hx439_8 := Gv.bx HB.out hx439_8
         replace hx439_9 := Gv.bx HB.out hx439_9
         replace hx439_10 := Gv.bx HB.out hx439_10
         replace hx439_11 := Gv.bx HB.out hx439_11
         replace hx439_12 := Gv.bx HB.out hx439_12
         replace hx439_13 := Gv.bx HB.out hx439_13
         replace hx439_14 := Gv.bx HB.out hx439_14
         replace hx439_15 := Gv.bx HB.out hx439_15
         replace p439 := eq_true p439
         replace q439 := eq_true q439
         go_wp2_with (first | ((with_reducible refine gate_dst (N := 5) rfl ?_); refine box_event ?hg (N := 5) ?hd (cs := #[.bool false, .int .i64 0, .int .i64 0, .int .i64 0, .int .i64 0, .int .i64 0, .int .i64 0, .int .i64 0, .int .i64 0, .int .i64 0, .int .i64 0, .int .i64 0, .int .i64 0, .int .i64 0, .int .i64 0, .int .i64 0]) (t := 75) ?hr ?_; (case hd => rfl); (case hg => rfl); (case hr => first | (go_simp; done) | (go_simp; rfl)); intro gb440 hg w16 hbox hb; have n0_ := Gv.a0 (Kd.R_below (Gv.kr HO_3.out) hb); have n1_ := Gv.a0 (Gv.bb BK434.out hb); have n2_ := Gv.a0 (below_step Gv.bw hb); have n3_ := Gv.a0 (hbox); have n4_ := Gv.a0 ((Gv.ble hg Gv.bw : w.heap.size ≤ gb440)); have n5_ := Gv.a0 ((Gv.ble hg Gv.bw : w.heap.size ≤ gb440)); have n6_ := Gv.a0 ((Gv.nlt hg (Gv.kb BK434.out) : gb434 ≠ gb440)); have n7_ := Gv.a0 ((Gv.ngt hg (Gv.kb BK434.out) : gb440 ≠ gb434)); clear HO_3; clear BK434; clear HB; have HO_3 := n0_; have BK434 := n1_; have HB := n2_; have BK440 := n3_; have GW440 := n4_; have GE440 := n5_; have NB434_440 := n6_; have NB440_434 := n7_; clear n0_ n1_ n2_ n3_ n4_ n5_ n6_ n7_; clear hb hbox hg; have hnb17 := NB440_434.out; have hnc17 := NB434_440.out; obtain ⟨hcz18_0, hcz18_1, hcz18_2, hcz18_3, hcz18_4, hcz18_5, hcz18_6, hcz18_7, hcz18_8, hcz18_9, hcz18_10, hcz18_11, hcz18_12, hcz18_13, hcz18_14, hcz18_15⟩ := Gv.c16 BK440.out) | ((with_reducible refine gate_store (t := 75) (p := 5) rfl ?_); refine Gv.store_event rfl rfl rfl rfl rfl (Gv.kb BK440.out) (by kernel_rfl) rfl (by simp; and_intros <;> rfl) ?_; intro w16s hbox hoth hbel; have n0_ := Gv.a0 (hbox); have n1_ := Gv.a0 (hbel w Gv.bw GE440.out); have n2_ := Gv.a0 ((hoth gb434 NB434_440.out).trans (Gv.kb BK434.out)); have n3_ := Gv.a0 (Gv.ro (Gv.kr HO_3.out) (Gv.kb BK440.out) (by decide) hoth); clear BK440 HB BK434 HO_3; have BK440 := n0_; have HB := n1_; have BK434 := n2_; have HO_3 := n3_; clear n0_ n1_ n2_ n3_ hbox hoth hbel; (try clear hcz18_0 hcz18_1 hcz18_2 hcz18_3 hcz18_4 hcz18_5 hcz18_6 hcz18_7 hcz18_8 hcz18_9 hcz18_10 hcz18_11 hcz18_12 hcz18_13 hcz18_14 hcz18_15 hfz18_0 hfz18_1 hfz18_2 hfz18_3 hfz18_4 hfz18_5 hfz18_6 hfz18_7 hfz18_8 hfz18_9 hfz18_10 hfz18_11 hfz18_12 hfz18_13 hfz18_14 hfz18_15); obtain ⟨hcz18_0, hcz18_1, hcz18_2, hcz18_3, hcz18_4, hcz18_5, hcz18_6, hcz18_7, hcz18_8, hcz18_9, hcz18_10, hcz18_11, hcz18_12, hcz18_13, hcz18_14, hcz18_15⟩ := Gv.c16 BK440.out) | ((with_reducible refine gate_builtin (b := .append) (xs := #[.tmp 19, .tmp 22]) rfl ?_); at_builtin; refine Kd.R_append k33 (w0 := w) w.heap.size rfl (.tmp 19) (.tmp 22) 58 33 (.agg #[(.int .i64 0), (.int .i64 0), (.int .i64 0), (.int .i64 0), (.int .i64 0), (.int .i64 0), (.int .i64 0), (.int .i64 0), (.int .i64 0), (.int .i64 0), (.int .i64 0), (.int .i64 0), (.int .i64 0), (.int .i64 0)]) 112 rfl Try.underlying58 info33 rfl (by decide) (by omega) u3 x3_1 (⟨(rd_T75 l0_1 x13_1).f1.f0, (⟨(⟨(rd_T75 l0_1 x13_1).f1.f1.f0.f0, (rd_T75 l0_1 x13_1).f1.f1.f0.f1, (rd_T75 l0_1 x13_1).f1.f1.f0.f2, (rd_T75 l0_1 x13_1).f1.f1.f0.f3, (rd_T75 l0_1 x13_1).f1.f1.f0.f4⟩ : S29), (⟨(rd_T75 l0_1 x13_1).f1.f1.f1.f0, (rd_T75 l0_1 x13_1).f1.f1.f1.f1, (rd_T75 l0_1 x13_1).f1.f1.f1.f2, (rd_T75 l0_1 x13_1).f1.f1.f1.f3, (rd_T75 l0_1 x13_1).f1.f1.f1.f4⟩ : S29), (rd_T75 l0_1 x13_1).f1.f1.f2, (rd_T75 l0_1 x13_1).f1.f1.f3, (rd_T75 l0_1 x13_1).f1.f1.f4⟩ : S31)⟩ : S33) [.int .i64 ((rd_T75 l0_1 x13_1).f1.f0), .int .i64 ((rd_T75 l0_1 x13_1).f1.f1.f0.f0), .int .i64 ((rd_T75 l0_1 x13_1).f1.f1.f0.f1), .int .i64 ((rd_T75 l0_1 x13_1).f1.f1.f0.f2), .int .i64 ((rd_T75 l0_1 x13_1).f1.f1.f0.f3), .int .i64 ((rd_T75 l0_1 x13_1).f1.f1.f0.f4), .int .i64 ((rd_T75 l0_1 x13_1).f1.f1.f1.f0), .int .i64 ((rd_T75 l0_1 x13_1).f1.f1.f1.f1), .int .i64 ((rd_T75 l0_1 x13_1).f1.f1.f1.f2), .int .i64 ((rd_T75 l0_1 x13_1).f1.f1.f1.f3), .int .i64 ((rd_T75 l0_1 x13_1).f1.f1.f1.f4), .int .i64 ((rd_T75 l0_1 x13_1).f1.f1.f2), .int .i64 ((rd_T75 l0_1 x13_1).f1.f1.f3), .int .i64 ((rd_T75 l0_1 x13_1).f1.f1.f4)] (fun _ => True) (fun _ => False) rfl (by first | (go_simp; done) | (go_simp; rfl)) ?aP (fun _ hk => hk.elim) ?aF ?aO ?aB ?aS ?aL ?_; (case aP => exact k33_mkM _ _ _ (⟨(rd_T75 l0_1 x13_1).f1.f0, (⟨(⟨(rd_T75 l0_1 x13_1).f1.f1.f0.f0, (rd_T75 l0_1 x13_1).f1.f1.f0.f1, (rd_T75 l0_1 x13_1).f1.f1.f0.f2, (rd_T75 l0_1 x13_1).f1.f1.f0.f3, (rd_T75 l0_1 x13_1).f1.f1.f0.f4⟩ : S29), (⟨(rd_T75 l0_1 x13_1).f1.f1.f1.f0, (rd_T75 l0_1 x13_1).f1.f1.f1.f1, (rd_T75 l0_1 x13_1).f1.f1.f1.f2, (rd_T75 l0_1 x13_1).f1.f1.f1.f3, (rd_T75 l0_1 x13_1).f1.f1.f1.f4⟩ : S29), (rd_T75 l0_1 x13_1).f1.f1.f2, (rd_T75 l0_1 x13_1).f1.f1.f3, (rd_T75 l0_1 x13_1).f1.f1.f4⟩ : S31)⟩ : S33)); (case aB => exact Gv.bw); (case aF => exact (fun _ _ => trivial)); (case aO => exact (by (with_reducible repeat (first | apply Kd.R_alloc | apply Kd.R_drewN | apply Kd.R_drew)); exact Kd.R_mono HO_3.out (fun _ hk => by first | exact trivial | exact hk | exact hk.1 | exact hk.2 | exact hk.elim))); (case aS => exact (below_size Gv.bw)); (case aL => have := LMc15.out; omega); intro v442 w19 ho hb hg hat; rw [← Ny441.out] at ho; have n0_ := Gv.a0 (blk_grown (g := gb434) (o := .cells #[.int .i64 a0_0, .slice (some ad439) l0_1.length c0_1] 40 (0, 0)) Gv.bkf hg (Kd.R_ne HO_3.out BK434.out (by decide))); have n1_ := Gv.a0 (blk_grown (g := gb440) (o := .cells #[.bool true, .int .i64 ((rd_T75 l0_1 x13_1).f1.f0), .int .i64 ((rd_T75 l0_1 x13_1).f1.f1.f0.f0), .int .i64 ((rd_T75 l0_1 x13_1).f1.f1.f0.f1), .int .i64 ((rd_T75 l0_1 x13_1).f1.f1.f0.f2), .int .i64 ((rd_T75 l0_1 x13_1).f1.f1.f0.f3), .int .i64 ((rd_T75 l0_1 x13_1).f1.f1.f0.f4), .int .i64 ((rd_T75 l0_1 x13_1).f1.f1.f1.f0), .int .i64 ((rd_T75 l0_1 x13_1).f1.f1.f1.f1), .int .i64 ((rd_T75 l0_1 x13_1).f1.f1.f1.f2), .int .i64 ((rd_T75 l0_1 x13_1).f1.f1.f1.f3), .int .i64 ((rd_T75 l0_1 x13_1).f1.f1.f1.f4), .int .i64 ((rd_T75 l0_1 x13_1).f1.f1.f2), .int .i64 ((rd_T75 l0_1 x13_1).f1.f1.f3), .int .i64 ((rd_T75 l0_1 x13_1).f1.f1.f4), .int .i64 ((rd_T75 l0_1 x13_1).f2)] 75 (0, 0)) (by (with_reducible repeat (first | refine blk_drewN ?_ _ | refine blk_drew ?_ | refine blk_alloc ?_ _)); exact BK440.out) hg (Kd.R_ne HO_3.out BK440.out (by decide))); have n2_ := Gv.a0 (hb); have n3_ := Gv.a0 (ho); clear BK434; clear BK440; clear HB; clear HO_3; have BK434 := n0_; have BK440 := n1_; have HB := n2_; have HO443 := n3_; clear n0_ n1_ n2_ n3_; clear ho hb hg hat) | ((with_reducible refine Gv.gate_load (t := 75) rfl ?_); (try (refine gate_guard (by rfl) ?_; dsimp only)); refine wpList_load_row rfl 75 _ rfl gb440 rfl 75 _ _ _ (by first | exact Gv.kb0 BK440.out | exact Gv.kb1 (Gv.kb0 BK440.out)) Try.underlying75 rfl (by kernel_rfl) ?_) | ((with_reducible refine Gv.gate_load (t := 33) rfl ?_); (try (refine gate_guard (by rfl) ?_; dsimp only)); refine Gv.sub_event (g := gb440) 14 rfl rfl rfl (by first | exact Gv.kb0 BK440.out | exact Gv.kb1 (Gv.kb0 BK440.out)) Try.underlying33 rfl (by kernel_rfl) ?_) | ((with_reducible refine Gv.gate_load (t := 31) rfl ?_); (try (refine gate_guard (by rfl) ?_; dsimp only)); refine Gv.sub_event (g := gb440) 13 rfl rfl rfl (by first | exact Gv.kb0 BK440.out | exact Gv.kb1 (Gv.kb0 BK440.out)) Try.underlying31 rfl (by kernel_rfl) ?_) | ((with_reducible refine Gv.gate_load (t := 75) rfl ?_); refine Gv.load_event (cs := [_, _, _, _, _, _, _, _, _, _, _, _, _, _, _, _]) rfl rfl rfl ⟨hx439_0, hx439_1, hx439_2, hx439_3, hx439_4, hx439_5, hx439_6, hx439_7, hx439_8, hx439_9, hx439_10, hx439_11, hx439_12, hx439_13, hx439_14, hx439_15, trivial⟩ Try.underlying75 rfl (by kernel_rfl) ?_))
         go_roundg k1
         case measure => have := HK1.out; omega
         case rel => exact ⟨(y441), (wrap64 (x13_1 + 1)), Gv.rq, H', ⟨by have := HK1.out; omega⟩, ⟨Gv.kr HO443.out⟩, ⟨by (with_reducible repeat (first | refine blk_drewN ?_ _ | refine blk_drew ?_ | refine blk_alloc ?_ _)); exact BK434.out⟩, ⟨Gv.bw⟩⟩
        ·rw [if_neg c15] at H
         exact absurd H (by simp)
       ·replace c14 := Bool.eq_false_iff.mpr c14
        subst c14
        have H1 : (impl_TableKeys.l0 k1 x3_1 l0_1 (l0_1.length : Int) (wrap64 (x13_1 + 1))) = some r := by rw [if_neg (show ¬ (false = true) by decide)] at H; exact H
        clear H
        have H := H1
        clear H1
        have H' := Gv.a0 H
        clear H
        have p439 : 0 ≤ (x13_1 : Int) := of_decide_eq_true (by first | (with_reducible assumption) | assumption)
        have q439 : x13_1 < (l0_1.length : Int) := of_decide_eq_true (by first | (with_reducible assumption) | assumption)
        obtain ⟨ad439, e439, hx439_0, hx439_1, hx439_2, hx439_3, hx439_4, hx439_5, hx439_6, hx439_7, hx439_8, hx439_9, hx439_10, hx439_11, hx439_12, hx439_13, hx439_14, hx439_15⟩ := at_T75 HR0_1.out x13_1 p439 q439
        (try rw [← Nbq13.out] at hx439_0)
        cases e439
        replace hx439_0 := Gv.bx HB.out hx439_0
        replace hx439_1 := Gv.bx HB.out hx439_1
        replace hx439_2 := Gv.bx HB.out hx439_2
        replace hx439_3 := Gv.bx HB.out hx439_3
        replace hx439_4 := Gv.bx HB.out hx439_4
        replace hx439_5 := Gv.bx HB.out hx439_5
        replace hx439_6 := Gv.bx HB.out hx439_6
        replace hx439_7 := Gv.bx HB.out hx439_7
        replace hx439_8 := Gv.bx HB.out hx439_8
        replace hx439_9 := Gv.bx HB.out hx439_9
        replace hx439_10 := Gv.bx HB.out hx439_10
        replace hx439_11 := Gv.bx HB.out hx439_11
        replace hx439_12 := Gv.bx HB.out hx439_12
        replace hx439_13 := Gv.bx HB.out hx439_13
        replace hx439_14 := Gv.bx HB.out hx439_14
        replace hx439_15 := Gv.bx HB.out hx439_15
        replace p439 := eq_true p439
        replace q439 := eq_true q439
        go_wp2_with (first | ((with_reducible refine gate_dst (N := 5) rfl ?_); refine box_event ?hg (N := 5) ?hd (cs := #[.bool false, .int .i64 0, .int .i64 0, .int .i64 0, .int .i64 0, .int .i64 0, .int .i64 0, .int .i64 0, .int .i64 0, .int .i64 0, .int .i64 0, .int .i64 0, .int .i64 0, .int .i64 0, .int .i64 0, .int .i64 0]) (t := 75) ?hr ?_; (case hd => rfl); (case hg => rfl); (case hr => first | (go_simp; done) | (go_simp; rfl)); intro gb440 hg w20 hbox hb; have n0_ := Gv.a0 (Kd.R_below (Gv.kr HO_3.out) hb); have n1_ := Gv.a0 (Gv.bb BK434.out hb); have n2_ := Gv.a0 (below_step Gv.bw hb); have n3_ := Gv.a0 (hbox); have n4_ := Gv.a0 ((Gv.ble hg Gv.bw : w.heap.size ≤ gb440)); have n5_ := Gv.a0 ((Gv.ble hg Gv.bw : w.heap.size ≤ gb440)); have n6_ := Gv.a0 ((Gv.nlt hg (Gv.kb BK434.out) : gb434 ≠ gb440)); have n7_ := Gv.a0 ((Gv.ngt hg (Gv.kb BK434.out) : gb440 ≠ gb434)); clear HO_3; clear BK434; clear HB; have HO_3 := n0_; have BK434 := n1_; have HB := n2_; have BK440 := n3_; have GW440 := n4_; have GE440 := n5_; have NB434_440 := n6_; have NB440_434 := n7_; clear n0_ n1_ n2_ n3_ n4_ n5_ n6_ n7_; clear hb hbox hg; have hnb21 := NB440_434.out; have hnc21 := NB434_440.out; obtain ⟨hcz22_0, hcz22_1, hcz22_2, hcz22_3, hcz22_4, hcz22_5, hcz22_6, hcz22_7, hcz22_8, hcz22_9, hcz22_10, hcz22_11, hcz22_12, hcz22_13, hcz22_14, hcz22_15⟩ := Gv.c16 BK440.out) | ((with_reducible refine gate_store (t := 75) (p := 5) rfl ?_); refine Gv.store_event rfl rfl rfl rfl rfl (Gv.kb BK440.out) (by kernel_rfl) rfl (by simp; and_intros <;> rfl) ?_; intro w20s hbox hoth hbel; have n0_ := Gv.a0 (hbox); have n1_ := Gv.a0 (hbel w Gv.bw GE440.out); have n2_ := Gv.a0 ((hoth gb434 NB434_440.out).trans (Gv.kb BK434.out)); have n3_ := Gv.a0 (Gv.ro (Gv.kr HO_3.out) (Gv.kb BK440.out) (by decide) hoth); clear BK440 HB BK434 HO_3; have BK440 := n0_; have HB := n1_; have BK434 := n2_; have HO_3 := n3_; clear n0_ n1_ n2_ n3_ hbox hoth hbel; (try clear hcz22_0 hcz22_1 hcz22_2 hcz22_3 hcz22_4 hcz22_5 hcz22_6 hcz22_7 hcz22_8 hcz22_9 hcz22_10 hcz22_11 hcz22_12 hcz22_13 hcz22_14 hcz22_15 hfz22_0 hfz22_1 hfz22_2 hfz22_3 hfz22_4 hfz22_5 hfz22_6 hfz22_7 hfz22_8 hfz22_9 hfz22_10 hfz22_11 hfz22_12 hfz22_13 hfz22_14 hfz22_15); obtain ⟨hcz22_0, hcz22_1, hcz22_2, hcz22_3, hcz22_4, hcz22_5, hcz22_6, hcz22_7, hcz22_8, hcz22_9, hcz22_10, hcz22_11, hcz22_12, hcz22_13, hcz22_14, hcz22_15⟩ := Gv.c16 BK440.out) | ((with_reducible refine Gv.gate_load (t := 75) rfl ?_); (try (refine gate_guard (by rfl) ?_; dsimp only)); refine wpList_load_row rfl 75 _ rfl gb440 rfl 75 _ _ _ (by first | exact Gv.kb0 BK440.out | exact Gv.kb1 (Gv.kb0 BK440.out)) Try.underlying75 rfl (by kernel_rfl) ?_) | ((with_reducible refine Gv.gate_load (t := 33) rfl ?_); (try (refine gate_guard (by rfl) ?_; dsimp only)); refine Gv.sub_event (g := gb440) 14 rfl rfl rfl (by first | exact Gv.kb0 BK440.out | exact Gv.kb1 (Gv.kb0 BK440.out)) Try.underlying33 rfl (by kernel_rfl) ?_) | ((with_reducible refine Gv.gate_load (t := 31) rfl ?_); (try (refine gate_guard (by rfl) ?_; dsimp only)); refine Gv.sub_event (g := gb440) 13 rfl rfl rfl (by first | exact Gv.kb0 BK440.out | exact Gv.kb1 (Gv.kb0 BK440.out)) Try.underlying31 rfl (by kernel_rfl) ?_) | ((with_reducible refine Gv.gate_load (t := 75) rfl ?_); refine Gv.load_event (cs := [_, _, _, _, _, _, _, _, _, _, _, _, _, _, _, _]) rfl rfl rfl ⟨hx439_0, hx439_1, hx439_2, hx439_3, hx439_4, hx439_5, hx439_6, hx439_7, hx439_8, hx439_9, hx439_10, hx439_11, hx439_12, hx439_13, hx439_14, hx439_15, trivial⟩ Try.underlying75 rfl (by kernel_rfl) ?_))
        go_roundg k1
        case measure => have := HK1.out; omega
        case rel => exact ⟨(x3_1), (wrap64 (x13_1 + 1)), Gv.rq, H', ⟨by have := HK1.out; omega⟩, ⟨by (with_reducible repeat (first | apply Kd.R_alloc | apply Kd.R_drewN | apply Kd.R_drew)); exact Kd.R_mono HO_3.out (fun _ hk => by first | exact trivial | exact hk | exact hk.1 | exact hk.2 | exact hk.elim)⟩, ⟨by (with_reducible repeat (first | refine blk_drewN ?_ _ | refine blk_drew ?_ | refine blk_alloc ?_ _)); (repeat (refine blk_far ?_ NB434_440.out _; (with_reducible repeat (first | refine blk_drewN ?_ _ | refine blk_drew ?_ | refine blk_alloc ?_ _)))); (with_reducible repeat (first | refine blk_drewN ?_ _ | refine blk_drew ?_ | refine blk_alloc ?_ _)); exact BK434.out⟩, ⟨Gv.bw⟩⟩
      ·rw [if_neg c12] at H
       exact absurd H (by simp)
     ·rw [if_neg c11] at H
      exact absurd H (by simp)
    ·rw [if_neg c10] at H
     have c10b0 : decide (x13_1 < (l0_1.length : Int)) = false := decide_eq_false c10
     clear c10
     obtain rfl := Option.some.inj H
     go_wp2_with (first | ((with_reducible refine Gv.gate_load (t := 75) rfl ?_); (try (refine gate_guard (by rfl) ?_; dsimp only)); refine wpList_load_row rfl 75 _ rfl gb440 rfl 75 _ _ _ (by first | exact Gv.kb0 BK440.out | exact Gv.kb1 (Gv.kb0 BK440.out)) Try.underlying75 rfl (by kernel_rfl) ?_) | ((with_reducible refine Gv.gate_load (t := 33) rfl ?_); (try (refine gate_guard (by rfl) ?_; dsimp only)); refine Gv.sub_event (g := gb440) 14 rfl rfl rfl (by first | exact Gv.kb0 BK440.out | exact Gv.kb1 (Gv.kb0 BK440.out)) Try.underlying33 rfl (by kernel_rfl) ?_) | ((with_reducible refine Gv.gate_load (t := 31) rfl ?_); (try (refine gate_guard (by rfl) ?_; dsimp only)); refine Gv.sub_event (g := gb440) 13 rfl rfl rfl (by first | exact Gv.kb0 BK440.out | exact Gv.kb1 (Gv.kb0 BK440.out)) Try.underlying31 rfl (by kernel_rfl) ?_))
     go_ret
     exact ⟨_, Gv.rt, Gv.kr HO_3.out, Gv.bw⟩
 ·replace c3 := Bool.eq_false_iff.mpr c3
  subst c3
  have H1 : (some ([] : List (S33))) = some r := by rw [if_neg (show ¬ (false = true) by decide)] at H; exact H
  clear H
  have H := H1
  clear H1
  obtain rfl := Option.some.inj H
  go_enter Try.func34, Try.ntmps34
  go_wp2_with (first | ((with_reducible refine gate_dst (N := 1) rfl ?_); refine box_event ?hg (N := 1) ?hd (cs := #[.int .i64 a0_0, .slice A0_1 l0_1.length c0_1]) (t := 40) ?hr ?_; (case hd => rfl); (case hg => rfl); (case hr => first | (go_simp; done) | (go_simp; rfl)); intro gb434 hg w23 hbox hb; have n0_ := Gv.a0 (below_step Gv.bw hb); have n1_ := Gv.a0 (hbox); have n2_ := Gv.a0 ((Gv.ble hg Gv.bw : w.heap.size ≤ gb434)); have n3_ := Gv.a0 ((Gv.ble hg Gv.bw : w.heap.size ≤ gb434)); clear HB; have HB := n0_; have BK434 := n1_; have GW434 := n2_; have GE434 := n3_; clear n0_ n1_ n2_ n3_; clear hb hbox hg; have hcz24_0 : w23.cell? ⟨gb434, 0, none⟩ = some (.int .i64 a0_0) := (blk_cell BK434.out 0).trans rfl; have hcz24_1 : w23.cell? ⟨gb434, 1, none⟩ = some (.slice A0_1 l0_1.length c0_1) := (blk_cell BK434.out 1).trans rfl; have hfz24_0 := blk_frozen BK434.out 0; have hfz24_1 := blk_frozen BK434.out 1) | ((with_reducible refine gate_callee (f := 26) rfl ?_); refine goesL_ (some 7) rfl rfl Try.func26 (by kernel_rfl) rfl #[.agg #[.int .i64 a0_0, .slice A0_1 l0_1.length c0_1]] rfl Gv.lm ?_; (with_reducible refine (impl_TableOk.calls k a0_0 _ _ l0_1 false _ ?side1 ?side2 A2.out).mono ?_); (case side1 => repeat (first | exact (Kd.C_below HR0_1.out HB.out) | (with_reducible refine Kd.C_alloc ?_ _) | (with_reducible refine Kd.C_drewN ?_ _) | (with_reducible refine Kd.C_drew ?_))); (case side2 => exact HC0_1.out); rintro e w25 ⟨rfl, hb⟩; refine ⟨_, rfl, ?_⟩; have n0_ := Gv.a0 (Gv.bb BK434.out hb); have n1_ := Gv.a0 (below_step Gv.bw hb); clear BK434; clear HB; have BK434 := n0_; have HB := n1_; clear n0_ n1_; (try clear hb); (try clear hb2); (try clear hk); (try clear hi)) | ((with_reducible refine Gv.gate_load (t := 75) rfl ?_); (try (refine gate_guard (by rfl) ?_; dsimp only)); refine wpList_load_row rfl 75 _ rfl gb440 rfl 75 _ _ _ (by first | exact Gv.kb0 BK440.out | exact Gv.kb1 (Gv.kb0 BK440.out)) Try.underlying75 rfl (by kernel_rfl) ?_) | ((with_reducible refine Gv.gate_load (t := 33) rfl ?_); (try (refine gate_guard (by rfl) ?_; dsimp only)); refine Gv.sub_event (g := gb440) 14 rfl rfl rfl (by first | exact Gv.kb0 BK440.out | exact Gv.kb1 (Gv.kb0 BK440.out)) Try.underlying33 rfl (by kernel_rfl) ?_) | ((with_reducible refine Gv.gate_load (t := 31) rfl ?_); (try (refine gate_guard (by rfl) ?_; dsimp only)); refine Gv.sub_event (g := gb440) 13 rfl rfl rfl (by first | exact Gv.kb0 BK440.out | exact Gv.kb1 (Gv.kb0 BK440.out)) Try.underlying31 rfl (by kernel_rfl) ?_))
  go_ret
  exact ⟨_, Gv.rt, by first | exact Kd.R_nil _ _ _ _ _ | exact Kd.N_nil _ _ _ _ _ | exact Kd.V_nil _ _ _ _ _ | exact Kd.Q_nil _ _ _ _ _ | exact Kd.S_nil _ _ _ _ _, Gv.bw⟩

/-! ### laws_eqFlowKeyS: function 35 -/
def laws_eqFlowKeyS.l0 : Nat → List (S33) → List (S33) → Int → Option (Bool)
 | 0, _, _, _ => none
 | k + 1, x0, x1, x5 => if x5 < (x0.length : Int) then (if 0 ≤ x5 then (if x5 < (x1.length : Int) then ((laws_eqFlowKey.f ((rd_T33 x0 x5).f0) ((rd_T33 x0 x5).f1.f0.f0) ((rd_T33 x0 x5).f1.f0.f1) ((rd_T33 x0 x5).f1.f0.f2) ((rd_T33 x0 x5).f1.f0.f3) ((rd_T33 x0 x5).f1.f0.f4) ((rd_T33 x0 x5).f1.f1.f0) ((rd_T33 x0 x5).f1.f1.f1) ((rd_T33 x0 x5).f1.f1.f2) ((rd_T33 x0 x5).f1.f1.f3) ((rd_T33 x0 x5).f1.f1.f4) ((rd_T33 x0 x5).f1.f2) ((rd_T33 x0 x5).f1.f3) ((rd_T33 x0 x5).f1.f4) ((rd_T33 x1 x5).f0) ((rd_T33 x1 x5).f1.f0.f0) ((rd_T33 x1 x5).f1.f0.f1) ((rd_T33 x1 x5).f1.f0.f2) ((rd_T33 x1 x5).f1.f0.f3) ((rd_T33 x1 x5).f1.f0.f4) ((rd_T33 x1 x5).f1.f1.f0) ((rd_T33 x1 x5).f1.f1.f1) ((rd_T33 x1 x5).f1.f1.f2) ((rd_T33 x1 x5).f1.f1.f3) ((rd_T33 x1 x5).f1.f1.f4) ((rd_T33 x1 x5).f1.f2) ((rd_T33 x1 x5).f1.f3) ((rd_T33 x1 x5).f1.f4)).bind fun t446 => (if t446 = true then (laws_eqFlowKeyS.l0 k x0 x1 (wrap64 (x5 + 1))) else (none))) else (none)) else (none)) else (some true)
def laws_eqFlowKeyS.f (k : Nat) (l0 : List (S33)) (l1 : List (S33)) : Option (Bool) := if (l0.length : Int) = (l1.length : Int) then (laws_eqFlowKeyS.l0 k l0 l1 0) else (none)
theorem laws_eqFlowKeyS.mono_l : ∀ k, (∀ y0 y1 y2, LeO (laws_eqFlowKeyS.l0 k y0 y1 y2) (laws_eqFlowKeyS.l0 (k + 1) y0 y1 y2))
 | 0 => fun _ _ _ r h => by simp [laws_eqFlowKeyS.l0] at h
 | k + 1 => by
  have ih0 := laws_eqFlowKeyS.mono_l k
  ·intro y0 y1 y2
   unfold laws_eqFlowKeyS.l0
   repeat' first
   | (with_reducible exact ih0 _ _ _)
   | (with_reducible exact LeO.refl _)
   | (with_reducible exact LeO.none _)
   | (with_reducible refine LeO.ite ?_ ?_)
   | (with_reducible refine LeO.bind ?_ (fun _ => ?_))
   | exact ih0 _ _ _
   | exact LeO.none _
   | refine LeO.ite ?_ ?_
   | refine LeO.bind ?_ (fun _ => ?_)
theorem laws_eqFlowKeyS.mono : ∀ a0 a1 k, LeO (laws_eqFlowKeyS.f k a0 a1) (laws_eqFlowKeyS.f (k + 1) a0 a1) := by
 intro a0 a1 k
 have ih0 := laws_eqFlowKeyS.mono_l k
 unfold laws_eqFlowKeyS.f
 repeat' first
   | (with_reducible exact ih0 _ _ _)
   | (with_reducible exact LeO.refl _)
   | (with_reducible exact LeO.none _)
   | (with_reducible refine LeO.ite ?_ ?_)
   | (with_reducible refine LeO.bind ?_ (fun _ => ?_))
   | exact ih0 _ _ _
   | exact LeO.none _
   | refine LeO.ite ?_ ?_
   | refine LeO.bind ?_ (fun _ => ?_)
def laws_eqFlowKeyS.T6 : Bool × List (List Nat × List Nat) := (true, [([], []), ([], []), ([0, 1], [0, 1]), ([2], [2]), ([], []), ([], []), ([4, 5], [4, 5]), ([6], [6]), ([3, 7], [3, 7]), ([8], [8])])
def laws_eqFlowKeyS.B6 : List Nat := [0, 0, 3, 7, 0, 0, 48, 112, 255, 511]
theorem laws_eqFlowKeyS.tab6 : rtab .any (opsOf Try.f35 6) = laws_eqFlowKeyS.T6 := by kernel_rfl
theorem laws_eqFlowKeyS.bits6 : waitsOk laws_eqFlowKeyS.T6.2 laws_eqFlowKeyS.B6 = true := by kernel_rfl
set_option maxHeartbeats 8000000 in
set_option maxRecDepth 100000 in
theorem laws_eqFlowKeyS.calls (k : Nat) (A0 : Option Addr) (c0 : Nat) (l0 : List (S33)) (A1 : Option Addr) (c1 : Nat) (l1 : List (S33)) (r : Bool) (w : World) (hr0 : Kd.C k33 w A0 l0.length l0) (hc0 : l0.length ≤ c0) (hr1 : Kd.C k33 w A1 l1.length l1) (hc1 : l1.length ≤ c1) (h : laws_eqFlowKeyS.f k l0 l1 = some r) :
  Calls Try.prog 35 #[.slice A0 l0.length c0, .slice A1 l1.length c1] w fun e w' => e = .returned (.bool r) ∧ Below w.heap.size w w' := by
 have hu33 := Try.underlying33
 have HR0 := Gv.a0 hr0
 have HC0 := Gv.a0 hc0
 clear hr0 hc0
 have HR1 := Gv.a0 hr1
 have HC1 := Gv.a0 hc1
 clear hr1 hc1
 have HB := Gv.a0 (Below.refl w.heap.size w)
 have H : (if (l0.length : Int) = (l1.length : Int) then (laws_eqFlowKeyS.l0 k l0 l1 0) else (none)) = some r := h
 clear h
 by_cases c3 : (l0.length : Int) = (l1.length : Int)
 ·rw [if_pos c3] at H
  have c3b0 : ((l0.length : Int) == (l1.length : Int)) = true := beq_iff_eq.mpr c3
  have c3b1 : ((l0.length : Int) != (l1.length : Int)) = false := bne_eq_false_iff_eq.mpr c3
  have c3b2 : (l0.length == l1.length) = true := by first | simpa using c3 | (simp at c3 ⊢; omega)
  clear c3
  have H' := Gv.a0 H
  clear H
  go_enter Try.func35, Try.ntmps35
  go_wp2
  go_loopg [5] k (fun kq v5 w' => ∃ (x5_1 : Int), v5 = .int .i64 x5_1 ∧ Aside0 (laws_eqFlowKeyS.l0 kq l0 l1 x5_1 = some r) ∧ Aside0 (kq ≤ k) ∧ Aside0 (Below w.heap.size w w'))
  case atStart => exact ⟨(0), Gv.rq, H', ⟨Nat.le_refl _⟩, ⟨Gv.bw⟩⟩
  case round =>
   clear H'
   try clear c1
   try clear p2
   try clear c3
   try clear c3b0
   try clear c3b1
   try clear c3b2
   obtain ⟨x5_1, rfl, HA, HK1, HB⟩ := hrel
   cases gk with
   | zero => exact absurd HA.out (by simp [laws_eqFlowKeyS.l0])
   | succ k1 =>
    have H := HA.out
    clear HA
    simp only [laws_eqFlowKeyS.l0] at H
    by_cases c4 : x5_1 < (l0.length : Int)
    ·rw [if_pos c4] at H
     have c4b0 : decide (x5_1 < (l0.length : Int)) = true := decide_eq_true c4
     clear c4
     by_cases c5 : 0 ≤ x5_1
     ·rw [if_pos c5] at H
      have c5b0 : decide (0 ≤ x5_1) = true := decide_eq_true c5
      clear c5
      by_cases c6 : x5_1 < (l1.length : Int)
      ·rw [if_pos c6] at H
       have c6b0 : decide (x5_1 < (l1.length : Int)) = true := decide_eq_true c6
       clear c6
       replace H := Option.bind_eq_some_iff.mp H
       obtain ⟨t446, A70, H⟩ := H
       replace H : (if t446 = true then (laws_eqFlowKeyS.l0 k1 l0 l1 (wrap64 (x5_1 + 1))) else (none)) = some r := H
       have A7 := Gv.a0 A70
       clear A70
       by_cases c8 : t446 = true
       ·subst c8
        have H1 : (laws_eqFlowKeyS.l0 k1 l0 l1 (wrap64 (x5_1 + 1))) = some r := by rw [if_pos rfl] at H; exact H
        clear H
        have H := H1
        clear H1
        have H' := Gv.a0 H
        clear H
        try go_wp2
        have n0_ := Gv.a0 (below_drew1 HB.out)
        clear HB
        have HB := n0_
        clear n0_
        have p444 : 0 ≤ (x5_1 : Int) := of_decide_eq_true (by first | (with_reducible assumption) | assumption)
        have q444 : x5_1 < (l0.length : Int) := of_decide_eq_true (by first | (with_reducible assumption) | assumption)
        obtain ⟨ad444, e444, hx444_0, hx444_1, hx444_2, hx444_3, hx444_4, hx444_5, hx444_6, hx444_7, hx444_8, hx444_9, hx444_10, hx444_11, hx444_12, hx444_13⟩ := at_T33 HR0.out x5_1 p444 q444
        have hw444_13 := hx444_13
        have hw444_12 := hx444_12
        have hw444_11 := hx444_11
        have hw444_10 := hx444_10
        have hw444_9 := hx444_9
        have hw444_8 := hx444_8
        have hw444_7 := hx444_7
        have hw444_6 := hx444_6
        have hw444_5 := hx444_5
        have hw444_4 := hx444_4
        have hw444_3 := hx444_3
        have hw444_2 := hx444_2
        have hw444_1 := hx444_1
        have hw444_0 := hx444_0
        cases e444
        replace hx444_0 := Gv.bx HB.out hx444_0
        replace hx444_1 := Gv.bx HB.out hx444_1
        replace hx444_2 := Gv.bx HB.out hx444_2
        replace hx444_3 := Gv.bx HB.out hx444_3
        replace hx444_4 := Gv.bx HB.out hx444_4
        replace hx444_5 := Gv.bx HB.out hx444_5
        replace hx444_6 := Gv.bx HB.out hx444_6
        replace hx444_7 := Gv.bx HB.out hx444_7
        replace hx444_8 := Gv.bx HB.out hx444_8
        replace hx444_9 := Gv.bx HB.out hx444_9
        replace hx444_10 := Gv.bx HB.out hx444_10
        replace hx444_11 := Gv.bx HB.out hx444_11
        replace hx444_12 := Gv.bx HB.out hx444_12
        replace hx444_13 := Gv.bx HB.out hx444_13
        replace p444 := eq_true p444
        replace q444 := eq_true q444
        have p445 : 0 ≤ (x5_1 : Int) := of_decide_eq_true (by first | (with_reducible assumption) | assumption)
        have q445 : x5_1 < (l1.length : Int) := of_decide_eq_true (by first | (with_reducible assumption) | assumption)
        obtain ⟨ad445, e445, hx445_0, hx445_1, hx445_2, hx445_3, hx445_4, hx445_5, hx445_6, hx445_7, hx445_8, hx445_9, hx445_10, hx445_11, hx445_12, hx445_13⟩ := at_T33 HR1.out x5_1 p445 q445
        have hw445_13 := hx445_13
        have hw445_12 := hx445_12
        have hw445_11 := hx445_11
        have hw445_10 := hx445_10
        have hw445_9 := hx445_9
        have hw445_8 := hx445_8
        have hw445_7 := hx445_7
        have hw445_6 := hx445_6
        have hw445_5 := hx445_5
        have hw445_4 := hx445_4
        have hw445_3 := hx445_3
        have hw445_2 := hx445_2
        have hw445_1 := hx445_1
        have hw445_0 := hx445_0
        cases e445
        replace hx445_0 := Gv.bx HB.out hx445_0
        replace hx445_1 := Gv.bx HB.out hx445_1
        replace hx445_2 := Gv.bx HB.out hx445_2
        replace hx445_3 := Gv.bx HB.out hx445_3
        replace hx445_4 := Gv.bx HB.out hx445_4
        replace hx445_5 := Gv.bx HB.out hx445_5
        replace hx445_6 := Gv.bx HB.out hx445_6
        replace hx445_7 := Gv.bx HB.out hx445_7
        replace hx445_8 := Gv.bx HB.out hx445_8
        replace hx445_9 := Gv.bx HB.out hx445_9
        replace hx445_10 := Gv.bx HB.out hx445_10
        replace hx445_11 := Gv.bx HB.out hx445_11
        replace hx445_12 := Gv.bx HB.out hx445_12
        replace hx445_13 := Gv.bx HB.out hx445_13
        replace p445 := eq_true p445
        replace q445 := eq_true q445
        refine start_ (n := 10) (S := fun w' => w'.cell? (ad444.add ((x5_1).toNat * 14)) = some (.int .i64 ((rd_T33 l0 x5_1).f0)) ∧ w'.cell? ⟨(ad444.add ((x5_1).toNat * 14)).block, (ad444.add ((x5_1).toNat * 14)).off + 1, none⟩ = some (.int .i64 ((rd_T33 l0 x5_1).f1.f0.f0)) ∧ w'.cell? ⟨(ad444.add ((x5_1).toNat * 14)).block, (ad444.add ((x5_1).toNat * 14)).off + 2, none⟩ = some (.int .i64 ((rd_T33 l0 x5_1).f1.f0.f1)) ∧ w'.cell? ⟨(ad444.add ((x5_1).toNat * 14)).block, (ad444.add ((x5_1).toNat * 14)).off + 3, none⟩ = some (.int .i64 ((rd_T33 l0 x5_1).f1.f0.f2)) ∧ w'.cell? ⟨(ad444.add ((x5_1).toNat * 14)).block, (ad444.add ((x5_1).toNat * 14)).off + 4, none⟩ = some (.int .i64 ((rd_T33 l0 x5_1).f1.f0.f3)) ∧ w'.cell? ⟨(ad444.add ((x5_1).toNat * 14)).block, (ad444.add ((x5_1).toNat * 14)).off + 5, none⟩ = some (.int .i64 ((rd_T33 l0 x5_1).f1.f0.f4)) ∧ w'.cell? ⟨(ad444.add ((x5_1).toNat * 14)).block, (ad444.add ((x5_1).toNat * 14)).off + 6, none⟩ = some (.int .i64 ((rd_T33 l0 x5_1).f1.f1.f0)) ∧ w'.cell? ⟨(ad444.add ((x5_1).toNat * 14)).block, (ad444.add ((x5_1).toNat * 14)).off + 7, none⟩ = some (.int .i64 ((rd_T33 l0 x5_1).f1.f1.f1)) ∧ w'.cell? ⟨(ad444.add ((x5_1).toNat * 14)).block, (ad444.add ((x5_1).toNat * 14)).off + 8, none⟩ = some (.int .i64 ((rd_T33 l0 x5_1).f1.f1.f2)) ∧ w'.cell? ⟨(ad444.add ((x5_1).toNat * 14)).block, (ad444.add ((x5_1).toNat * 14)).off + 9, none⟩ = some (.int .i64 ((rd_T33 l0 x5_1).f1.f1.f3)) ∧ w'.cell? ⟨(ad444.add ((x5_1).toNat * 14)).block, (ad444.add ((x5_1).toNat * 14)).off + 10, none⟩ = some (.int .i64 ((rd_T33 l0 x5_1).f1.f1.f4)) ∧ w'.cell? ⟨(ad444.add ((x5_1).toNat * 14)).block, (ad444.add ((x5_1).toNat * 14)).off + 11, none⟩ = some (.int .i64 ((rd_T33 l0 x5_1).f1.f2)) ∧ w'.cell? ⟨(ad444.add ((x5_1).toNat * 14)).block, (ad444.add ((x5_1).toNat * 14)).off + 12, none⟩ = some (.int .i64 ((rd_T33 l0 x5_1).f1.f3)) ∧ w'.cell? ⟨(ad444.add ((x5_1).toNat * 14)).block, (ad444.add ((x5_1).toNat * 14)).off + 13, none⟩ = some (.int .i64 ((rd_T33 l0 x5_1).f1.f4)) ∧ w'.cell? (ad445.add ((x5_1).toNat * 14)) = some (.int .i64 ((rd_T33 l1 x5_1).f0)) ∧ w'.cell? ⟨(ad445.add ((x5_1).toNat * 14)).block, (ad445.add ((x5_1).toNat * 14)).off + 1, none⟩ = some (.int .i64 ((rd_T33 l1 x5_1).f1.f0.f0)) ∧ w'.cell? ⟨(ad445.add ((x5_1).toNat * 14)).block, (ad445.add ((x5_1).toNat * 14)).off + 2, none⟩ = some (.int .i64 ((rd_T33 l1 x5_1).f1.f0.f1)) ∧ w'.cell? ⟨(ad445.add ((x5_1).toNat * 14)).block, (ad445.add ((x5_1).toNat * 14)).off + 3, none⟩ = some (.int .i64 ((rd_T33 l1 x5_1).f1.f0.f2)) ∧ w'.cell? ⟨(ad445.add ((x5_1).toNat * 14)).block, (ad445.add ((x5_1).toNat * 14)).off + 4, none⟩ = some (.int .i64 ((rd_T33 l1 x5_1).f1.f0.f3)) ∧ w'.cell? ⟨(ad445.add ((x5_1).toNat * 14)).block, (ad445.add ((x5_1).toNat * 14)).off + 5, none⟩ = some (.int .i64 ((rd_T33 l1 x5_1).f1.f0.f4)) ∧ w'.cell? ⟨(ad445.add ((x5_1).toNat * 14)).block, (ad445.add ((x5_1).toNat * 14)).off + 6, none⟩ = some (.int .i64 ((rd_T33 l1 x5_1).f1.f1.f0)) ∧ w'.cell? ⟨(ad445.add ((x5_1).toNat * 14)).block, (ad445.add ((x5_1).toNat * 14)).off + 7, none⟩ = some (.int .i64 ((rd_T33 l1 x5_1).f1.f1.f1)) ∧ w'.cell? ⟨(ad445.add ((x5_1).toNat * 14)).block, (ad445.add ((x5_1).toNat * 14)).off + 8, none⟩ = some (.int .i64 ((rd_T33 l1 x5_1).f1.f1.f2)) ∧ w'.cell? ⟨(ad445.add ((x5_1).toNat * 14)).block, (ad445.add ((x5_1).toNat * 14)).off + 9, none⟩ = some (.int .i64 ((rd_T33 l1 x5_1).f1.f1.f3)) ∧ w'.cell? ⟨(ad445.add ((x5_1).toNat * 14)).block, (ad445.add ((x5_1).toNat * 14)).off + 10, none⟩ = some (.int .i64 ((rd_T33 l1 x5_1).f1.f1.f4)) ∧ w'.cell? ⟨(ad445.add ((x5_1).toNat * 14)).block, (ad445.add ((x5_1).toNat * 14)).off + 11, none⟩ = some (.int .i64 ((rd_T33 l1 x5_1).f1.f2)) ∧ w'.cell? ⟨(ad445.add ((x5_1).toNat * 14)).block, (ad445.add ((x5_1).toNat * 14)).off + 12, none⟩ = some (.int .i64 ((rd_T33 l1 x5_1).f1.f3)) ∧ w'.cell? ⟨(ad445.add ((x5_1).toNat * 14)).block, (ad445.add ((x5_1).toNat * 14)).off + 13, none⟩ = some (.int .i64 ((rd_T33 l1 x5_1).f1.f4))) (ds := []) #[false, false, false, false, false, false, false, false, false, false] (by kernel_rfl) rfl rfl ⟨(Gv.bx HB.out hw444_0), (Gv.bx HB.out hw444_1), (Gv.bx HB.out hw444_2), (Gv.bx HB.out hw444_3), (Gv.bx HB.out hw444_4), (Gv.bx HB.out hw444_5), (Gv.bx HB.out hw444_6), (Gv.bx HB.out hw444_7), (Gv.bx HB.out hw444_8), (Gv.bx HB.out hw444_9), (Gv.bx HB.out hw444_10), (Gv.bx HB.out hw444_11), (Gv.bx HB.out hw444_12), (Gv.bx HB.out hw444_13), (Gv.bx HB.out hw445_0), (Gv.bx HB.out hw445_1), (Gv.bx HB.out hw445_2), (Gv.bx HB.out hw445_3), (Gv.bx HB.out hw445_4), (Gv.bx HB.out hw445_5), (Gv.bx HB.out hw445_6), (Gv.bx HB.out hw445_7), (Gv.bx HB.out hw445_8), (Gv.bx HB.out hw445_9), (Gv.bx HB.out hw445_10), (Gv.bx HB.out hw445_11), (Gv.bx HB.out hw445_12), (Gv.bx HB.out hw445_13)⟩ (fun hHeld => ?_); refine with_tabW laws_eqFlowKeyS.tab6 laws_eqFlowKeyS.bits6 (fun HT_ HW_ => ?_)
        generalize wr.drew = w9 at HB hx444_0 hx444_1 hx444_10 hx444_11 hx444_12 hx444_13 hx444_2 hx444_3 hx444_4 hx444_5 hx444_6 hx444_7 hx444_8 hx444_9 hx445_0 hx445_1 hx445_10 hx445_11 hx445_12 hx445_13 hx445_2 hx445_3 hx445_4 hx445_5 hx445_6 hx445_7 hx445_8 hx445_9 hHeld ⊢
        refine Gv.pu 0 (some 17) HT_ ?_
        refine Gv.pu 1 (some 18) HT_ ?_
        refine Gv.pu 2 (some 19) HT_ ?_
        refine Gv.pu 4 (some 21) HT_ ?_
        refine Gv.pu 5 (some 22) HT_ ?_
        refine Gv.pu 6 (some 23) HT_ ?_
        refine take_ (i := 3) (N := some 20) (v := ?_) (a' := ?_) #[true, true, true, true, true, true, true, false, false, false] rfl rfl (take_ofW HT_.out HW_.out (by kernel_rfl)) (fun _ _ _ h => h) (Or.inl ⟨by rfl, ?_⟩) hHeld ?_ ?_
        rotate_left
        ·rintro w' ⟨s0, s1, s2, s3, s4, s5, s6, s7, s8, s9, s10, s11, s12, s13, s14, s15, s16, s17, s18, s19, s20, s21, s22, s23, s24, s25, s26, s27⟩
         first | ((refine Gv.load_run (t := 33) (A := ad444.add ((x5_1).toNat * 14)) (cs := [_, _, _, _, _, _, _, _, _, _, _, _, _, _]) (x := ?xx21_) ?ho21_ ?hx21_ ⟨s0, s1, s2, s3, s4, s5, s6, s7, s8, s9, s10, s11, s12, s13, trivial⟩ Try.underlying33 rfl (by kernel_rfl)); (case ho21_ => rfl); (case hx21_ => rfl)) | ((refine Gv.load_run (t := 33) (A := ad445.add ((x5_1).toNat * 14)) (cs := [_, _, _, _, _, _, _, _, _, _, _, _, _, _]) (x := ?xx22_) ?ho22_ ?hx22_ ⟨s14, s15, s16, s17, s18, s19, s20, s21, s22, s23, s24, s25, s26, s27, trivial⟩ Try.underlying33 rfl (by kernel_rfl)); (case ho22_ => rfl); (case hx22_ => rfl)) | (go_simp; with_reducible rfl)
        rotate_left
        ·simp only [Act.put, List.setIfInBounds_toArray, List.set_cons_zero, List.set_cons_succ, i64_w, i32_w]
         rfl
        refine take_ (i := 7) (N := some 24) (v := ?_) (a' := ?_) #[true, true, true, true, true, true, true, true, false, false] rfl rfl (take_ofW HT_.out HW_.out (by kernel_rfl)) (fun _ _ _ h => h) (Or.inl ⟨by rfl, ?_⟩) hHeld ?_ ?_
        rotate_left
        ·rintro w' ⟨s0, s1, s2, s3, s4, s5, s6, s7, s8, s9, s10, s11, s12, s13, s14, s15, s16, s17, s18, s19, s20, s21, s22, s23, s24, s25, s26, s27⟩
         first | ((refine Gv.load_run (t := 33) (A := ad444.add ((x5_1).toNat * 14)) (cs := [_, _, _, _, _, _, _, _, _, _, _, _, _, _]) (x := ?xx24_) ?ho24_ ?hx24_ ⟨s0, s1, s2, s3, s4, s5, s6, s7, s8, s9, s10, s11, s12, s13, trivial⟩ Try.underlying33 rfl (by kernel_rfl)); (case ho24_ => rfl); (case hx24_ => rfl)) | ((refine Gv.load_run (t := 33) (A := ad445.add ((x5_1).toNat * 14)) (cs := [_, _, _, _, _, _, _, _, _, _, _, _, _, _]) (x := ?xx25_) ?ho25_ ?hx25_ ⟨s14, s15, s16, s17, s18, s19, s20, s21, s22, s23, s24, s25, s26, s27, trivial⟩ Try.underlying33 rfl (by kernel_rfl)); (case ho25_ => rfl); (case hx25_ => rfl)) | (go_simp; with_reducible rfl)
        rotate_left
        ·simp only [Act.put, List.setIfInBounds_toArray, List.set_cons_zero, List.set_cons_succ, i64_w, i32_w]
         rfl
        refine one_ (i := 8) (N := some 25) #[true, true, true, true, true, true, true, true, true, false] rfl rfl (one_of HT_.out (by kernel_rfl)) (by decide) (fun K hK => ?_)
        refine goes_ Try.func61 (by kernel_rfl) rfl #[.agg #[.int .i64 ((rd_T33 l0 x5_1).f0), .int .i64 ((rd_T33 l0 x5_1).f1.f0.f0), .int .i64 ((rd_T33 l0 x5_1).f1.f0.f1), .int .i64 ((rd_T33 l0 x5_1).f1.f0.f2), .int .i64 ((rd_T33 l0 x5_1).f1.f0.f3), .int .i64 ((rd_T33 l0 x5_1).f1.f0.f4), .int .i64 ((rd_T33 l0 x5_1).f1.f1.f0), .int .i64 ((rd_T33 l0 x5_1).f1.f1.f1), .int .i64 ((rd_T33 l0 x5_1).f1.f1.f2), .int .i64 ((rd_T33 l0 x5_1).f1.f1.f3), .int .i64 ((rd_T33 l0 x5_1).f1.f1.f4), .int .i64 ((rd_T33 l0 x5_1).f1.f2), .int .i64 ((rd_T33 l0 x5_1).f1.f3), .int .i64 ((rd_T33 l0 x5_1).f1.f4)], .agg #[.int .i64 ((rd_T33 l1 x5_1).f0), .int .i64 ((rd_T33 l1 x5_1).f1.f0.f0), .int .i64 ((rd_T33 l1 x5_1).f1.f0.f1), .int .i64 ((rd_T33 l1 x5_1).f1.f0.f2), .int .i64 ((rd_T33 l1 x5_1).f1.f0.f3), .int .i64 ((rd_T33 l1 x5_1).f1.f0.f4), .int .i64 ((rd_T33 l1 x5_1).f1.f1.f0), .int .i64 ((rd_T33 l1 x5_1).f1.f1.f1), .int .i64 ((rd_T33 l1 x5_1).f1.f1.f2), .int .i64 ((rd_T33 l1 x5_1).f1.f1.f3), .int .i64 ((rd_T33 l1 x5_1).f1.f1.f4), .int .i64 ((rd_T33 l1 x5_1).f1.f2), .int .i64 ((rd_T33 l1 x5_1).f1.f3), .int .i64 ((rd_T33 l1 x5_1).f1.f4)]] (by rfl) rfl rfl Gv.lm ?_
        with_reducible refine (laws_eqFlowKey.calls ((rd_T33 l0 x5_1).f0) ((rd_T33 l0 x5_1).f1.f0.f0) ((rd_T33 l0 x5_1).f1.f0.f1) ((rd_T33 l0 x5_1).f1.f0.f2) ((rd_T33 l0 x5_1).f1.f0.f3) ((rd_T33 l0 x5_1).f1.f0.f4) ((rd_T33 l0 x5_1).f1.f1.f0) ((rd_T33 l0 x5_1).f1.f1.f1) ((rd_T33 l0 x5_1).f1.f1.f2) ((rd_T33 l0 x5_1).f1.f1.f3) ((rd_T33 l0 x5_1).f1.f1.f4) ((rd_T33 l0 x5_1).f1.f2) ((rd_T33 l0 x5_1).f1.f3) ((rd_T33 l0 x5_1).f1.f4) ((rd_T33 l1 x5_1).f0) ((rd_T33 l1 x5_1).f1.f0.f0) ((rd_T33 l1 x5_1).f1.f0.f1) ((rd_T33 l1 x5_1).f1.f0.f2) ((rd_T33 l1 x5_1).f1.f0.f3) ((rd_T33 l1 x5_1).f1.f0.f4) ((rd_T33 l1 x5_1).f1.f1.f0) ((rd_T33 l1 x5_1).f1.f1.f1) ((rd_T33 l1 x5_1).f1.f1.f2) ((rd_T33 l1 x5_1).f1.f1.f3) ((rd_T33 l1 x5_1).f1.f1.f4) ((rd_T33 l1 x5_1).f1.f2) ((rd_T33 l1 x5_1).f1.f3) ((rd_T33 l1 x5_1).f1.f4) true _ A7.out).mono ?_
        rintro e w10 ⟨rfl, hb⟩
        refine ⟨_, rfl, ?_⟩
        have n0_ := Gv.a0 (below_step Gv.bw hb)
        clear HB
        have HB := n0_
        clear n0_
        (try clear hb)
        (try clear hb2)
        (try clear hk)
        (try clear hi)
        refine hK.out _ _ ⟨(Gv.bx HB.out hw444_0), (Gv.bx HB.out hw444_1), (Gv.bx HB.out hw444_2), (Gv.bx HB.out hw444_3), (Gv.bx HB.out hw444_4), (Gv.bx HB.out hw444_5), (Gv.bx HB.out hw444_6), (Gv.bx HB.out hw444_7), (Gv.bx HB.out hw444_8), (Gv.bx HB.out hw444_9), (Gv.bx HB.out hw444_10), (Gv.bx HB.out hw444_11), (Gv.bx HB.out hw444_12), (Gv.bx HB.out hw444_13), (Gv.bx HB.out hw445_0), (Gv.bx HB.out hw445_1), (Gv.bx HB.out hw445_2), (Gv.bx HB.out hw445_3), (Gv.bx HB.out hw445_4), (Gv.bx HB.out hw445_5), (Gv.bx HB.out hw445_6), (Gv.bx HB.out hw445_7), (Gv.bx HB.out hw445_8), (Gv.bx HB.out hw445_9), (Gv.bx HB.out hw445_10), (Gv.bx HB.out hw445_11), (Gv.bx HB.out hw445_12), (Gv.bx HB.out hw445_13)⟩ (fun hHeld => ?_)
        clear hK K
        refine norm_ (a' := ?_) ?_ ?_
        rotate_left
        ·show Act.put _ (some 25) _ = _
         simp only [Act.put, List.setIfInBounds_toArray, List.set_cons_zero, List.set_cons_succ, i64_w, i32_w]
         rfl
        refine Gv.pu 9 (some 26) HT_ ?_
        refine done_ (done_of HT_.out (by kernel_rfl)) ?_
        try go_wp2
        go_roundg k1
        case measure => have := HK1.out; omega
        case rel => exact ⟨(wrap64 (x5_1 + 1)), Gv.rq, H', ⟨by have := HK1.out; omega⟩, ⟨Gv.bw⟩⟩
       ·replace c8 := Bool.eq_false_iff.mpr c8
        subst c8
        have H1 : (none) = some r := by rw [if_neg (show ¬ (false = true) by decide)] at H; exact H
        clear H
        have H := H1
        clear H1
        exact absurd H (by simp)
      ·rw [if_neg c6] at H
       exact absurd H (by simp)
     ·rw [if_neg c5] at H
      exact absurd H (by simp)
    ·rw [if_neg c4] at H
     have c4b0 : decide (x5_1 < (l0.length : Int)) = false := decide_eq_false c4
     clear c4
     obtain rfl := Option.some.inj H
     go_wp2
     go_ret
     exact ⟨Gv.rt, Gv.bw⟩
 ·rw [if_neg c3] at H
  exact absurd H (by simp)

/-! ### laws_markFlowKeyS: function 36 -/
def laws_markFlowKeyS.f (l0 : List (S33)) (a1 : Int) : Option (Int × (List (S33))) := some (Gv.stepN (Gv.stepN Gv.nx 14) l0.length a1, Gv.mkL (fun a : Int => (⟨(Gv.stepN Gv.nx 0 a), (⟨(⟨(Gv.stepN Gv.nx 1 a), (Gv.stepN Gv.nx 2 a), (Gv.stepN Gv.nx 3 a), (Gv.stepN Gv.nx 4 a), (Gv.stepN Gv.nx 5 a)⟩ : S29), (⟨(Gv.stepN Gv.nx 6 a), (Gv.stepN Gv.nx 7 a), (Gv.stepN Gv.nx 8 a), (Gv.stepN Gv.nx 9 a), (Gv.stepN Gv.nx 10 a)⟩ : S29), (Gv.stepN Gv.nx 11 a), (Gv.stepN Gv.nx 12 a), (Gv.stepN Gv.nx 13 a)⟩ : S31)⟩ : S33)) (Gv.stepN Gv.nx 14) l0.length a1)
set_option maxHeartbeats 8000000 in
set_option maxRecDepth 100000 in
theorem laws_markFlowKeyS.calls (P0_ : Nat → Prop) (u9000_ : Value) (l0 : List (S33)) (a1 : Int) (r1 : Int) (r2 : List (S33)) (w0 w : World) (hB : Below w0.heap.size w0 w) (ho0 : Kd.R k33 33 w w0.heap.size P0_ u9000_ l0) (h : laws_markFlowKeyS.f l0 a1 = some (r1, r2)) :
  Calls Try.prog 36 #[u9000_, .int .i64 a1] w fun e w' => e = .returned (.int .i64 r1) ∧ Kd.R k33 33 w' w0.heap.size (fun k_ => (P0_ k_ ∨ w.heap.size ≤ k_)) u9000_ r2 ∧ Below w0.heap.size w0 w' ∧ Kept w w' (fun k_ => P0_ k_) := by
 obtain ⟨rfl, rfl⟩ := Prod.mk.inj (Option.some.inj h)
 clear h
 obtain ⟨hok, inner, ⟨hlen, ho⟩, hrep⟩ := ho0
 rcases ho with ⟨rfl, hz⟩ | ⟨g, cap, cur, rfl, hbase, hg, hnc, hcm, hsz, htk⟩
 ·have hl : l0 = [] := List.length_eq_zero_iff.1 hz
  subst hl
  have HB := Gv.a0 hB
  clear hrep hok hlen hB
  go_enter Try.func36, Try.ntmps36
  go_wp2
  go_loopg [1, 5] 0 (fun gg s1 s5 wr => s1 = .int .i64 a1 ∧ s5 = .int .i64 0 ∧ wr = w)
  case atStart => exact ⟨rfl, rfl, rfl⟩
  case round =>
   obtain ⟨rfl, rfl, rfl⟩ := hrel
   go_wp2_with fail
   go_ret
   exact ⟨rfl, Kd.R_nil _ _ _ _ _, HB.out, Kept.refl _ _⟩
 ·have hS : l0.length * 14 ≤ cap * 14 := Nat.mul_le_mul_right _ hnc
  have hN : inner.length = l0.length * 14 := hlen
  have hP : P0_ g := hok g rfl
  have hle : w0.heap.size ≤ g := hbase
  have hcap : cap ≤ 9223372036854775807 := by
   unfold maxLen at hcm
   omega
  have HM0 := Gv.a0 (show Gv.MK w0 w g 33 (l0.length * 14) (cap * 14) inner w [] 0 from ⟨rfl, ⟨cur, hg, hsz, htk⟩, fun _ _ => rfl, hB, Nat.le_refl _⟩)
  have HF := Gv.a0 (And.intro hnc (And.intro hcm hP))
  clear hok hlen hrep hbase hg hcm hsz htk hB hP hnc
  go_enter Try.func36, Try.ntmps36
  go_wp2
  go_loopg [1, 5] l0.length (fun gg s1 s5 wr => ∃ kk : Nat, kk ≤ l0.length ∧ l0.length - kk ≤ gg ∧ s1 = .int .i64 (Gv.stepN (Gv.stepN Gv.nx 14) kk a1) ∧ s5 = .int .i64 kk ∧ Aside0 (Gv.MK w0 w g 33 (l0.length * 14) (cap * 14) inner wr ((Gv.mkL (fun a : Int => (⟨(Gv.stepN Gv.nx 0 a), (⟨(⟨(Gv.stepN Gv.nx 1 a), (Gv.stepN Gv.nx 2 a), (Gv.stepN Gv.nx 3 a), (Gv.stepN Gv.nx 4 a), (Gv.stepN Gv.nx 5 a)⟩ : S29), (⟨(Gv.stepN Gv.nx 6 a), (Gv.stepN Gv.nx 7 a), (Gv.stepN Gv.nx 8 a), (Gv.stepN Gv.nx 9 a), (Gv.stepN Gv.nx 10 a)⟩ : S29), (Gv.stepN Gv.nx 11 a), (Gv.stepN Gv.nx 12 a), (Gv.stepN Gv.nx 13 a)⟩ : S31)⟩ : S33)) (Gv.stepN Gv.nx 14) kk a1).flatMap (fun x : S33 => ([.int .i64 x.f0, .int .i64 x.f1.f0.f0, .int .i64 x.f1.f0.f1, .int .i64 x.f1.f0.f2, .int .i64 x.f1.f0.f3, .int .i64 x.f1.f0.f4, .int .i64 x.f1.f1.f0, .int .i64 x.f1.f1.f1, .int .i64 x.f1.f1.f2, .int .i64 x.f1.f1.f3, .int .i64 x.f1.f1.f4, .int .i64 x.f1.f2, .int .i64 x.f1.f3, .int .i64 x.f1.f4] : List Value))) (kk * 14)))
  case atStart => exact ⟨0, Nat.zero_le _, by omega, rfl, rfl, ⟨HM0.out⟩⟩
  case round =>
   obtain ⟨kk, hkk, hgg, rfl, rfl, HM⟩ := hrel
   obtain ⟨x_, hx_⟩ : ∃ x_, x_ = Gv.stepN (Gv.stepN Gv.nx 14) kk a1 := ⟨_, rfl⟩
   rw [← hx_]
   obtain ⟨done, hd_⟩ : ∃ d_, d_ = (Gv.mkL (fun a : Int => (⟨(Gv.stepN Gv.nx 0 a), (⟨(⟨(Gv.stepN Gv.nx 1 a), (Gv.stepN Gv.nx 2 a), (Gv.stepN Gv.nx 3 a), (Gv.stepN Gv.nx 4 a), (Gv.stepN Gv.nx 5 a)⟩ : S29), (⟨(Gv.stepN Gv.nx 6 a), (Gv.stepN Gv.nx 7 a), (Gv.stepN Gv.nx 8 a), (Gv.stepN Gv.nx 9 a), (Gv.stepN Gv.nx 10 a)⟩ : S29), (Gv.stepN Gv.nx 11 a), (Gv.stepN Gv.nx 12 a), (Gv.stepN Gv.nx 13 a)⟩ : S31)⟩ : S33)) (Gv.stepN Gv.nx 14) kk a1).flatMap (fun x : S33 => ([.int .i64 x.f0, .int .i64 x.f1.f0.f0, .int .i64 x.f1.f0.f1, .int .i64 x.f1.f0.f2, .int .i64 x.f1.f0.f3, .int .i64 x.f1.f0.f4, .int .i64 x.f1.f1.f0, .int .i64 x.f1.f1.f1, .int .i64 x.f1.f1.f2, .int .i64 x.f1.f1.f3, .int .i64 x.f1.f1.f4, .int .i64 x.f1.f2, .int .i64 x.f1.f3, .int .i64 x.f1.f4] : List Value)) := ⟨_, rfl⟩
   rw [← hd_] at HM
   have HX := Gv.a0 hx_
   have HD := Gv.a0 hd_
   clear hx_ hd_
   by_cases hlt : kk < l0.length
   ·have hltz : (kk : Int) < (l0.length : Int) := by omega
    have hk0 : 0 ≤ (kk : Int) := by omega
    go_wp2_with (first | ((with_reducible refine gate_store (t := 3) rfl ?_); refine Gv.mark_event rfl rfl rfl rfl rfl (.inl ⟨_, _, rfl⟩) (by kernel_rfl) HM.out hS hN (by omega) (by omega) hle ?_; intro wm hM; have HM' := Gv.a0 hM; clear hM HM; have HM := HM'; clear HM'))
    go_roundg (l0.length - (kk + 1))
    case measure => omega
    case rel =>
     refine ⟨kk + 1, by omega, by omega, by rw [Gv.stepN, ← HX.out]; rfl, by go_num, ⟨?_⟩⟩
     have hm := HM.out
     rw [HD.out] at hm
     rw [Gv.mkL, List.flatMap_append, ← HX.out, Nat.succ_mul]
     simp only [List.append_assoc, List.cons_append, List.nil_append] at hm
     exact hm
   ·have hk : kk = l0.length := by omega
    have hltz : ¬ (kk : Int) < (l0.length : Int) := by omega
    have HK := Gv.a0 hk
    clear hk
    go_wp2_with fail
    go_ret
    obtain ⟨h1, ⟨cur, h2, h3, h4⟩, h5, h6, h7⟩ := HM.out
    have hk := HK.out
    subst hk
    rw [HX.out]
    rw [HD.out, List.drop_eq_nil_of_le (by omega), List.append_nil] at h4
    refine ⟨rfl, ⟨fun k hk => ?_, _, ⟨?_, .inr ⟨g, cap, cur, ?_, hle, h2, ?_, HF.out.2.1, h3, ?_⟩⟩, Gv.mkL_reps _ _ _ (fun x => k33_mkM _ _ _ x) (fun _ => rfl) _⟩, h6, h7, fun i hi hni => h5 i (fun e => hni (by rw [e]; exact HF.out.2.2))⟩
    ·have : g = k := by simpa [Value.ownBlock] using hk
     subst this
     exact .inl HF.out.2.2
    ·rw [← HD.out, h1, Gv.mkL_length]; rfl
    ·rw [Gv.mkL_length]
    ·rw [Gv.mkL_length]; exact HF.out.1
    ·rw [Gv.mkL_length]; exact h4

/-! ### laws_heldFlowKeyS: function 37 -/
def laws_heldFlowKeyS.f (l0 : List (S33)) (a1 : Int) : Option (Int) := Gv.heldL (fun (x : S33) (a : Int) => decide (x.f0 = Gv.stepN Gv.nx 0 a) && (decide (x.f1.f0.f0 = Gv.stepN Gv.nx 1 a) && (decide (x.f1.f0.f1 = Gv.stepN Gv.nx 2 a) && (decide (x.f1.f0.f2 = Gv.stepN Gv.nx 3 a) && (decide (x.f1.f0.f3 = Gv.stepN Gv.nx 4 a) && (decide (x.f1.f0.f4 = Gv.stepN Gv.nx 5 a) && (decide (x.f1.f1.f0 = Gv.stepN Gv.nx 6 a) && (decide (x.f1.f1.f1 = Gv.stepN Gv.nx 7 a) && (decide (x.f1.f1.f2 = Gv.stepN Gv.nx 8 a) && (decide (x.f1.f1.f3 = Gv.stepN Gv.nx 9 a) && (decide (x.f1.f1.f4 = Gv.stepN Gv.nx 10 a) && (decide (x.f1.f2 = Gv.stepN Gv.nx 11 a) && (decide (x.f1.f3 = Gv.stepN Gv.nx 12 a) && (decide (x.f1.f4 = Gv.stepN Gv.nx 13 a))))))))))))))) (Gv.stepN Gv.nx 14) l0 a1
set_option maxHeartbeats 8000000 in
set_option maxRecDepth 100000 in
theorem laws_heldFlowKeyS.calls (A0 : Option Addr) (c0 : Nat) (l0 : List (S33)) (a1 : Int) (r : Int) (w : World) (hr0 : Kd.C k33 w A0 l0.length l0) (hc0 : l0.length ≤ c0) (h : laws_heldFlowKeyS.f l0 a1 = some r) :
  Calls Try.prog 37 #[.slice A0 l0.length c0, .int .i64 a1] w fun e w' => e = .returned (.int .i64 r) ∧ Below w.heap.size w w' := by
 have hlm := hr0.2.1
 have HR0 := Gv.a0 hr0
 have H0 := Gv.a0 h
 clear hr0 h hc0
 go_enter Try.func37, Try.ntmps37
 go_wp2
 go_loopg [1, 5] l0.length (fun gg s1 s5 wr => ∃ (kk : Nat) (x_ : Int), kk ≤ l0.length ∧ l0.length - kk ≤ gg ∧ s1 = .int .i64 x_ ∧ s5 = .int .i64 kk ∧ Aside0 (Gv.heldL (fun (x : S33) (a : Int) => decide (x.f0 = Gv.stepN Gv.nx 0 a) && (decide (x.f1.f0.f0 = Gv.stepN Gv.nx 1 a) && (decide (x.f1.f0.f1 = Gv.stepN Gv.nx 2 a) && (decide (x.f1.f0.f2 = Gv.stepN Gv.nx 3 a) && (decide (x.f1.f0.f3 = Gv.stepN Gv.nx 4 a) && (decide (x.f1.f0.f4 = Gv.stepN Gv.nx 5 a) && (decide (x.f1.f1.f0 = Gv.stepN Gv.nx 6 a) && (decide (x.f1.f1.f1 = Gv.stepN Gv.nx 7 a) && (decide (x.f1.f1.f2 = Gv.stepN Gv.nx 8 a) && (decide (x.f1.f1.f3 = Gv.stepN Gv.nx 9 a) && (decide (x.f1.f1.f4 = Gv.stepN Gv.nx 10 a) && (decide (x.f1.f2 = Gv.stepN Gv.nx 11 a) && (decide (x.f1.f3 = Gv.stepN Gv.nx 12 a) && (decide (x.f1.f4 = Gv.stepN Gv.nx 13 a))))))))))))))) (Gv.stepN Gv.nx 14) (l0.drop kk) x_ = some r) ∧ Aside0 (Drawn0 w wr))
 case atStart => exact ⟨0, a1, Nat.zero_le _, by omega, rfl, rfl, ⟨H0.out⟩, ⟨Drawn0.refl w⟩⟩
 case round =>
  obtain ⟨kk, z0, hkk, hg, rfl, rfl, HN, HD⟩ := hrel
  by_cases hlt : kk < l0.length
  ·have hltz : (kk : Int) < (l0.length : Int) := by omega
   have hk0 : 0 ≤ (kk : Int) := by omega
   obtain ⟨ad, e1, hx0, hx1, hx2, hx3, hx4, hx5, hx6, hx7, hx8, hx9, hx10, hx11, hx12, hx13⟩ := at_T33 (Kd.C_below HR0.out HD.out.below) (kk : Int) hk0 hltz
   cases e1
   obtain ⟨y_, hy_⟩ : ∃ y_, y_ = rd_T33 l0 kk := ⟨_, rfl⟩
   rw [← hy_, Int.toNat_natCast] at hx0 hx1 hx2 hx3 hx4 hx5 hx6 hx7 hx8 hx9 hx10 hx11 hx12 hx13
   have hN := HN.out
   have hget : l0.drop kk = y_ :: l0.drop (kk + 1) := by
    rw [hy_, List.drop_eq_getElem_cons hlt]
    congr 1
    unfold rd_T33
    rw [Int.toNat_natCast, List.getD_eq_getElem?_getD, List.getElem?_eq_getElem hlt]
    rfl
   rw [hget, Gv.heldL] at hN
   clear hget hy_ HN
   by_cases hq : (fun (x : S33) (a : Int) => decide (x.f0 = Gv.stepN Gv.nx 0 a) && (decide (x.f1.f0.f0 = Gv.stepN Gv.nx 1 a) && (decide (x.f1.f0.f1 = Gv.stepN Gv.nx 2 a) && (decide (x.f1.f0.f2 = Gv.stepN Gv.nx 3 a) && (decide (x.f1.f0.f3 = Gv.stepN Gv.nx 4 a) && (decide (x.f1.f0.f4 = Gv.stepN Gv.nx 5 a) && (decide (x.f1.f1.f0 = Gv.stepN Gv.nx 6 a) && (decide (x.f1.f1.f1 = Gv.stepN Gv.nx 7 a) && (decide (x.f1.f1.f2 = Gv.stepN Gv.nx 8 a) && (decide (x.f1.f1.f3 = Gv.stepN Gv.nx 9 a) && (decide (x.f1.f1.f4 = Gv.stepN Gv.nx 10 a) && (decide (x.f1.f2 = Gv.stepN Gv.nx 11 a) && (decide (x.f1.f3 = Gv.stepN Gv.nx 12 a) && (decide (x.f1.f4 = Gv.stepN Gv.nx 13 a))))))))))))))) y_ z0 = true
   ·rw [if_pos hq] at hN
    simp only [Bool.and_eq_true, decide_eq_true_eq] at hq
    obtain ⟨q0, q1, q2, q3, q4, q5, q6, q7, q8, q9, q10, q11, q12, q13⟩ := hq
    have e0 : Gv.stepN Gv.nx 0 z0 = z0 := rfl
    obtain ⟨z1, hw1⟩ : ∃ z_, IntKind.i64.wrap (z0 + 1) = z_ := ⟨_, rfl⟩
    have e1 : Gv.stepN Gv.nx 1 z0 = z1 := by rw [Gv.stepN, e0]; first | exact hw1 | exact (i64_w _).symm.trans hw1
    obtain ⟨z2, hw2⟩ : ∃ z_, IntKind.i64.wrap (z1 + 1) = z_ := ⟨_, rfl⟩
    have e2 : Gv.stepN Gv.nx 2 z0 = z2 := by rw [Gv.stepN, e1]; first | exact hw2 | exact (i64_w _).symm.trans hw2
    obtain ⟨z3, hw3⟩ : ∃ z_, IntKind.i64.wrap (z2 + 1) = z_ := ⟨_, rfl⟩
    have e3 : Gv.stepN Gv.nx 3 z0 = z3 := by rw [Gv.stepN, e2]; first | exact hw3 | exact (i64_w _).symm.trans hw3
    obtain ⟨z4, hw4⟩ : ∃ z_, IntKind.i64.wrap (z3 + 1) = z_ := ⟨_, rfl⟩
    have e4 : Gv.stepN Gv.nx 4 z0 = z4 := by rw [Gv.stepN, e3]; first | exact hw4 | exact (i64_w _).symm.trans hw4
    obtain ⟨z5, hw5⟩ : ∃ z_, IntKind.i64.wrap (z4 + 1) = z_ := ⟨_, rfl⟩
    have e5 : Gv.stepN Gv.nx 5 z0 = z5 := by rw [Gv.stepN, e4]; first | exact hw5 | exact (i64_w _).symm.trans hw5
    obtain ⟨z6, hw6⟩ : ∃ z_, IntKind.i64.wrap (z5 + 1) = z_ := ⟨_, rfl⟩
    have e6 : Gv.stepN Gv.nx 6 z0 = z6 := by rw [Gv.stepN, e5]; first | exact hw6 | exact (i64_w _).symm.trans hw6
    obtain ⟨z7, hw7⟩ : ∃ z_, IntKind.i64.wrap (z6 + 1) = z_ := ⟨_, rfl⟩
    have e7 : Gv.stepN Gv.nx 7 z0 = z7 := by rw [Gv.stepN, e6]; first | exact hw7 | exact (i64_w _).symm.trans hw7
    obtain ⟨z8, hw8⟩ : ∃ z_, IntKind.i64.wrap (z7 + 1) = z_ := ⟨_, rfl⟩
    have e8 : Gv.stepN Gv.nx 8 z0 = z8 := by rw [Gv.stepN, e7]; first | exact hw8 | exact (i64_w _).symm.trans hw8
    obtain ⟨z9, hw9⟩ : ∃ z_, IntKind.i64.wrap (z8 + 1) = z_ := ⟨_, rfl⟩
    have e9 : Gv.stepN Gv.nx 9 z0 = z9 := by rw [Gv.stepN, e8]; first | exact hw9 | exact (i64_w _).symm.trans hw9
    obtain ⟨z10, hw10⟩ : ∃ z_, IntKind.i64.wrap (z9 + 1) = z_ := ⟨_, rfl⟩
    have e10 : Gv.stepN Gv.nx 10 z0 = z10 := by rw [Gv.stepN, e9]; first | exact hw10 | exact (i64_w _).symm.trans hw10
    obtain ⟨z11, hw11⟩ : ∃ z_, IntKind.i64.wrap (z10 + 1) = z_ := ⟨_, rfl⟩
    have e11 : Gv.stepN Gv.nx 11 z0 = z11 := by rw [Gv.stepN, e10]; first | exact hw11 | exact (i64_w _).symm.trans hw11
    obtain ⟨z12, hw12⟩ : ∃ z_, IntKind.i64.wrap (z11 + 1) = z_ := ⟨_, rfl⟩
    have e12 : Gv.stepN Gv.nx 12 z0 = z12 := by rw [Gv.stepN, e11]; first | exact hw12 | exact (i64_w _).symm.trans hw12
    obtain ⟨z13, hw13⟩ : ∃ z_, IntKind.i64.wrap (z12 + 1) = z_ := ⟨_, rfl⟩
    have e13 : Gv.stepN Gv.nx 13 z0 = z13 := by rw [Gv.stepN, e12]; first | exact hw13 | exact (i64_w _).symm.trans hw13
    obtain ⟨z14, hw14⟩ : ∃ z_, IntKind.i64.wrap (z13 + 1) = z_ := ⟨_, rfl⟩
    have e14 : Gv.stepN Gv.nx 14 z0 = z14 := by rw [Gv.stepN, e13]; first | exact hw14 | exact (i64_w _).symm.trans hw14
    rw [q0, e0] at hx0
    rw [q1, e1] at hx1
    rw [q2, e2] at hx2
    rw [q3, e3] at hx3
    rw [q4, e4] at hx4
    rw [q5, e5] at hx5
    rw [q6, e6] at hx6
    rw [q7, e7] at hx7
    rw [q8, e8] at hx8
    rw [q9, e9] at hx9
    rw [q10, e10] at hx10
    rw [q11, e11] at hx11
    rw [q12, e12] at hx12
    rw [q13, e13] at hx13
    rw [e14] at hN
    have HN2 := Gv.a0 hN
    clear hN q0 q1 q2 q3 q4 q5 q6 q7 q8 q9 q10 q11 q12 q13
    go_wp2_with fail
    go_roundg (l0.length - (kk + 1))
    case measure => omega
    case rel => exact ⟨kk + 1, z14, by omega, by omega, by simp [*], by go_num, HN2, HD⟩
   ·rw [if_neg hq] at hN
    cases hN
  ·have hltz : ¬ (kk : Int) < (l0.length : Int) := by omega
   have hN := HN.out
   rw [List.drop_eq_nil_of_le (by omega), Gv.heldL] at hN
   have HN2 := Gv.a0 (Option.some.inj hN)
   clear hN
   go_wp2_with fail
   go_ret
   exact ⟨by rw [← HN2.out]; rfl, by first | exact HD.out | exact HD.out.below⟩

/-! ### laws_FnExactTableKeys: function 10 -/
def laws_FnExactTableKeys.f (k : Nat) (a0_0 : Int) (l0_1 : List (S94)) : Option (Bool) := (laws_szTable.f a0_0 l0_1 1048576).bind fun t449 => (if t449 < 0 then (some true) else ((laws_toTable.f k a0_0 l0_1).bind fun bt450 => ((spec_TableKeys.f k bt450.1 bt450.2).bind fun t454 => ((laws_toTable.f k a0_0 l0_1).bind fun bt457 => ((impl_TableKeys.f k bt457.1 bt457.2).bind fun t462 => ((laws_eqFlowKeyS.f k t462 t454).bind fun t465 => (if t465 = true then ((laws_toTable.f k a0_0 l0_1).bind fun bt466 => ((laws_eqTable.f k bt457.1 bt457.2 bt466.1 bt466.2).bind fun t470 => (if t470 = true then ((laws_markTable.f bt457.1 bt457.2 1).bind fun bt471 => (if bt471.1 < 0 then (none) else ((laws_eqFlowKeyS.f k t462 t454).bind fun t473 => (if t473 = true then ((laws_markFlowKeyS.f t462 1).bind fun bt474 => ((laws_heldFlowKeyS.f bt474.2 1).bind fun t476 => (if t476 < 0 then (none) else (if t476 = bt474.1 then ((laws_toTable.f k a0_0 l0_1).bind fun bt477 => ((impl_TableKeys.f k bt477.1 bt477.2).bind fun t481 => ((laws_eqFlowKeyS.f k t481 t454).bind fun t484 => (if t484 = true then ((laws_heldFlowKeyS.f bt474.2 1).bind fun t485 => (if t485 < 0 then (none) else (if t485 = bt474.1 then (some true) else (none)))) else (none))))) else (none))))) else (none))))) else (none)))) else (none))))))))
theorem laws_FnExactTableKeys.mono : ∀ a0 a1 k, LeO (laws_FnExactTableKeys.f k a0 a1) (laws_FnExactTableKeys.f (k + 1) a0 a1) := by
 intro a0 a1 k
 unfold laws_FnExactTableKeys.f
 repeat' first
   | (with_reducible exact impl_TableKeys.mono _ _ _)
   | (with_reducible exact laws_eqFlowKeyS.mono _ _ _)
   | (with_reducible exact laws_eqTable.mono _ _ _ _ _)
   | (with_reducible exact laws_toTable.mono _ _ _)
   | (with_reducible exact spec_TableKeys.mono _ _ _)
   | (with_reducible exact LeO.refl _)
   | (with_reducible exact LeO.none _)
   | (with_reducible refine LeO.ite ?_ ?_)
   | (with_reducible refine LeO.bind ?_ (fun _ => ?_))
   | exact impl_TableKeys.mono _ _ _
   | exact laws_eqFlowKeyS.mono _ _ _
   | exact laws_eqTable.mono _ _ _ _ _
   | exact laws_toTable.mono _ _ _
   | exact spec_TableKeys.mono _ _ _
   | exact LeO.none _
   | refine LeO.ite ?_ ?_
   | refine LeO.bind ?_ (fun _ => ?_)
set_option maxHeartbeats 8000000 in
set_option maxRecDepth 100000 in
theorem laws_FnExactTableKeys.calls (k : Nat) (a0_0 : Int) (A0_1 : Option Addr) (c0_1 : Nat) (l0_1 : List (S94)) (r : Bool) (w : World) (hr0_1 : Kd.C k94 w A0_1 l0_1.length l0_1) (hc0_1 : l0_1.length ≤ c0_1) (h : laws_FnExactTableKeys.f k a0_0 l0_1 = some r) :
  Calls Try.prog 10 #[.agg #[.int .i64 a0_0, .slice A0_1 l0_1.length c0_1]] w fun e w' => e = .returned (.bool r) ∧ Below w.heap.size w w' := by
 have hu47 := Try.underlying47
 have hu40 := Try.underlying40
 have HR0_1 := Gv.a0 hr0_1
 have HC0_1 := Gv.a0 hc0_1
 clear hr0_1 hc0_1
 have HB := Gv.a0 (Below.refl w.heap.size w)
 have H : ((laws_szTable.f a0_0 l0_1 1048576).bind fun t449 => (if t449 < 0 then (some true) else ((laws_toTable.f k a0_0 l0_1).bind fun bt450 => ((spec_TableKeys.f k bt450.1 bt450.2).bind fun t454 => ((laws_toTable.f k a0_0 l0_1).bind fun bt457 => ((impl_TableKeys.f k bt457.1 bt457.2).bind fun t462 => ((laws_eqFlowKeyS.f k t462 t454).bind fun t465 => (if t465 = true then ((laws_toTable.f k a0_0 l0_1).bind fun bt466 => ((laws_eqTable.f k bt457.1 bt457.2 bt466.1 bt466.2).bind fun t470 => (if t470 = true then ((laws_markTable.f bt457.1 bt457.2 1).bind fun bt471 => (if bt471.1 < 0 then (none) else ((laws_eqFlowKeyS.f k t462 t454).bind fun t473 => (if t473 = true then ((laws_markFlowKeyS.f t462 1).bind fun bt474 => ((laws_heldFlowKeyS.f bt474.2 1).bind fun t476 => (if t476 < 0 then (none) else (if t476 = bt474.1 then ((laws_toTable.f k a0_0 l0_1).bind fun bt477 => ((impl_TableKeys.f k bt477.1 bt477.2).bind fun t481 => ((laws_eqFlowKeyS.f k t481 t454).bind fun t484 => (if t484 = true then ((laws_heldFlowKeyS.f bt474.2 1).bind fun t485 => (if t485 < 0 then (none) else (if t485 = bt474.1 then (some true) else (none)))) else (none))))) else (none))))) else (none))))) else (none)))) else (none))))))))) = some r := h
 clear h
 replace H := Option.bind_eq_some_iff.mp H
 obtain ⟨t449, A20, H⟩ := H
 replace H : (if t449 < 0 then (some true) else ((laws_toTable.f k a0_0 l0_1).bind fun bt450 => ((spec_TableKeys.f k bt450.1 bt450.2).bind fun t454 => ((laws_toTable.f k a0_0 l0_1).bind fun bt457 => ((impl_TableKeys.f k bt457.1 bt457.2).bind fun t462 => ((laws_eqFlowKeyS.f k t462 t454).bind fun t465 => (if t465 = true then ((laws_toTable.f k a0_0 l0_1).bind fun bt466 => ((laws_eqTable.f k bt457.1 bt457.2 bt466.1 bt466.2).bind fun t470 => (if t470 = true then ((laws_markTable.f bt457.1 bt457.2 1).bind fun bt471 => (if bt471.1 < 0 then (none) else ((laws_eqFlowKeyS.f k t462 t454).bind fun t473 => (if t473 = true then ((laws_markFlowKeyS.f t462 1).bind fun bt474 => ((laws_heldFlowKeyS.f bt474.2 1).bind fun t476 => (if t476 < 0 then (none) else (if t476 = bt474.1 then ((laws_toTable.f k a0_0 l0_1).bind fun bt477 => ((impl_TableKeys.f k bt477.1 bt477.2).bind fun t481 => ((laws_eqFlowKeyS.f k t481 t454).bind fun t484 => (if t484 = true then ((laws_heldFlowKeyS.f bt474.2 1).bind fun t485 => (if t485 < 0 then (none) else (if t485 = bt474.1 then (some true) else (none)))) else (none))))) else (none))))) else (none))))) else (none)))) else (none)))))))) = some r := H
 have A2 := Gv.a0 A20
 clear A20
 by_cases c3 : t449 < 0
 ·rw [if_pos c3] at H
  have c3b0 : decide (t449 < 0) = true := decide_eq_true c3
  clear c3
  obtain rfl := Option.some.inj H
  go_enter Try.func10, Try.ntmps10
  go_wp2_with (first | ((with_reducible refine gate_dst (N := 1) rfl ?_); refine box_event ?hg (N := 1) ?hd (cs := #[.int .i64 a0_0, .slice A0_1 l0_1.length c0_1]) (t := 47) ?hr ?_; (case hd => rfl); (case hg => rfl); (case hr => first | (go_simp; done) | (go_simp; rfl)); intro gb448 hg w4 hbox hb; have n0_ := Gv.a0 (below_step Gv.bw hb); have n1_ := Gv.a0 (hbox); have n2_ := Gv.a0 ((Gv.ble hg Gv.bw : w.heap.size ≤ gb448)); have n3_ := Gv.a0 ((Gv.ble hg Gv.bw : w.heap.size ≤ gb448)); clear HB; have HB := n0_; have BK448 := n1_; have GW448 := n2_; have GE448 := n3_; clear n0_ n1_ n2_ n3_; clear hb hbox hg; have hcz5_0 : w4.cell? ⟨gb448, 0, none⟩ = some (.int .i64 a0_0) := (blk_cell BK448.out 0).trans rfl; have hcz5_1 : w4.cell? ⟨gb448, 1, none⟩ = some (.slice A0_1 l0_1.length c0_1) := (blk_cell BK448.out 1).trans rfl; have hfz5_0 := blk_frozen BK448.out 0; have hfz5_1 := blk_frozen BK448.out 1) | ((with_reducible refine gate_callee (f := 23) rfl ?_); refine goesL_ (some 13) rfl rfl Try.func23 (by kernel_rfl) rfl #[.agg #[.int .i64 a0_0, .slice A0_1 l0_1.length c0_1], .int .i64 1048576] rfl Gv.lm ?_; (with_reducible refine (laws_szTable.calls a0_0 _ _ l0_1 1048576 t449 _ ?side1 ?side2 A2.out).mono ?_); (case side1 => repeat (first | exact (Kd.C_below HR0_1.out HB.out) | (with_reducible refine Kd.C_alloc ?_ _) | (with_reducible refine Kd.C_drewN ?_ _) | (with_reducible refine Kd.C_drew ?_))); (case side2 => exact HC0_1.out); rintro e w6 ⟨rfl, hb⟩; refine ⟨_, rfl, ?_⟩; have n0_ := Gv.a0 (Gv.bb BK448.out hb); have n1_ := Gv.a0 (below_step Gv.bw hb); clear BK448; clear HB; have BK448 := n0_; have HB := n1_; clear n0_ n1_; (try clear hb); (try clear hb2); (try clear hk); (try clear hi)))
  go_ret
  exact ⟨Gv.rt, Gv.bw⟩
 ·rw [if_neg c3] at H
  have c3b0 : decide (t449 < 0) = false := decide_eq_false c3
  clear c3
  replace H := Option.bind_eq_some_iff.mp H
  obtain ⟨⟨t450, t451⟩, A70, H⟩ := H
  replace H : ((spec_TableKeys.f k t450 t451).bind fun t454 => ((laws_toTable.f k a0_0 l0_1).bind fun bt457 => ((impl_TableKeys.f k bt457.1 bt457.2).bind fun t462 => ((laws_eqFlowKeyS.f k t462 t454).bind fun t465 => (if t465 = true then ((laws_toTable.f k a0_0 l0_1).bind fun bt466 => ((laws_eqTable.f k bt457.1 bt457.2 bt466.1 bt466.2).bind fun t470 => (if t470 = true then ((laws_markTable.f bt457.1 bt457.2 1).bind fun bt471 => (if bt471.1 < 0 then (none) else ((laws_eqFlowKeyS.f k t462 t454).bind fun t473 => (if t473 = true then ((laws_markFlowKeyS.f t462 1).bind fun bt474 => ((laws_heldFlowKeyS.f bt474.2 1).bind fun t476 => (if t476 < 0 then (none) else (if t476 = bt474.1 then ((laws_toTable.f k a0_0 l0_1).bind fun bt477 => ((impl_TableKeys.f k bt477.1 bt477.2).bind fun t481 => ((laws_eqFlowKeyS.f k t481 t454).bind fun t484 => (if t484 = true then ((laws_heldFlowKeyS.f bt474.2 1).bind fun t485 => (if t485 < 0 then (none) else (if t485 = bt474.1 then (some true) else (none)))) else (none))))) else (none))))) else (none))))) else (none)))) else (none)))))) = some r := H
  have A7 := Gv.a0 A70
  clear A70
  replace H := Option.bind_eq_some_iff.mp H
  obtain ⟨t454, A80, H⟩ := H
  replace H : ((laws_toTable.f k a0_0 l0_1).bind fun bt457 => ((impl_TableKeys.f k bt457.1 bt457.2).bind fun t462 => ((laws_eqFlowKeyS.f k t462 t454).bind fun t465 => (if t465 = true then ((laws_toTable.f k a0_0 l0_1).bind fun bt466 => ((laws_eqTable.f k bt457.1 bt457.2 bt466.1 bt466.2).bind fun t470 => (if t470 = true then ((laws_markTable.f bt457.1 bt457.2 1).bind fun bt471 => (if bt471.1 < 0 then (none) else ((laws_eqFlowKeyS.f k t462 t454).bind fun t473 => (if t473 = true then ((laws_markFlowKeyS.f t462 1).bind fun bt474 => ((laws_heldFlowKeyS.f bt474.2 1).bind fun t476 => (if t476 < 0 then (none) else (if t476 = bt474.1 then ((laws_toTable.f k a0_0 l0_1).bind fun bt477 => ((impl_TableKeys.f k bt477.1 bt477.2).bind fun t481 => ((laws_eqFlowKeyS.f k t481 t454).bind fun t484 => (if t484 = true then ((laws_heldFlowKeyS.f bt474.2 1).bind fun t485 => (if t485 < 0 then (none) else (if t485 = bt474.1 then (some true) else (none)))) else (none))))) else (none))))) else (none))))) else (none)))) else (none))))) = some r := H
  have A8 := Gv.a0 A80
  clear A80
  replace H := Option.bind_eq_some_iff.mp H
  obtain ⟨⟨t457, t458⟩, A90, H⟩ := H
  replace H : ((impl_TableKeys.f k t457 t458).bind fun t462 => ((laws_eqFlowKeyS.f k t462 t454).bind fun t465 => (if t465 = true then ((laws_toTable.f k a0_0 l0_1).bind fun bt466 => ((laws_eqTable.f k t457 t458 bt466.1 bt466.2).bind fun t470 => (if t470 = true then ((laws_markTable.f t457 t458 1).bind fun bt471 => (if bt471.1 < 0 then (none) else ((laws_eqFlowKeyS.f k t462 t454).bind fun t473 => (if t473 = true then ((laws_markFlowKeyS.f t462 1).bind fun bt474 => ((laws_heldFlowKeyS.f bt474.2 1).bind fun t476 => (if t476 < 0 then (none) else (if t476 = bt474.1 then ((laws_toTable.f k a0_0 l0_1).bind fun bt477 => ((impl_TableKeys.f k bt477.1 bt477.2).bind fun t481 => ((laws_eqFlowKeyS.f k t481 t454).bind fun t484 => (if t484 = true then ((laws_heldFlowKeyS.f bt474.2 1).bind fun t485 => (if t485 < 0 then (none) else (if t485 = bt474.1 then (some true) else (none)))) else (none))))) else (none))))) else (none))))) else (none)))) else (none)))) = some r := H
  have A9 := Gv.a0 A90
  clear A90
  replace H := Option.bind_eq_some_iff.mp H
  obtain ⟨t462, A100, H⟩ := H
  replace H : ((laws_eqFlowKeyS.f k t462 t454).bind fun t465 => (if t465 = true then ((laws_toTable.f k a0_0 l0_1).bind fun bt466 => ((laws_eqTable.f k t457 t458 bt466.1 bt466.2).bind fun t470 => (if t470 = true then ((laws_markTable.f t457 t458 1).bind fun bt471 => (if bt471.1 < 0 then (none) else ((laws_eqFlowKeyS.f k t462 t454).bind fun t473 => (if t473 = true then ((laws_markFlowKeyS.f t462 1).bind fun bt474 => ((laws_heldFlowKeyS.f bt474.2 1).bind fun t476 => (if t476 < 0 then (none) else (if t476 = bt474.1 then ((laws_toTable.f k a0_0 l0_1).bind fun bt477 => ((impl_TableKeys.f k bt477.1 bt477.2).bind fun t481 => ((laws_eqFlowKeyS.f k t481 t454).bind fun t484 => (if t484 = true then ((laws_heldFlowKeyS.f bt474.2 1).bind fun t485 => (if t485 < 0 then (none) else (if t485 = bt474.1 then (some true) else (none)))) else (none))))) else (none))))) else (none))))) else (none)))) else (none))) = some r := H
  have A10 := Gv.a0 A100
  clear A100
  replace H := Option.bind_eq_some_iff.mp H
  obtain ⟨t465, A110, H⟩ := H
  replace H : (if t465 = true then ((laws_toTable.f k a0_0 l0_1).bind fun bt466 => ((laws_eqTable.f k t457 t458 bt466.1 bt466.2).bind fun t470 => (if t470 = true then ((laws_markTable.f t457 t458 1).bind fun bt471 => (if bt471.1 < 0 then (none) else ((laws_eqFlowKeyS.f k t462 t454).bind fun t473 => (if t473 = true then ((laws_markFlowKeyS.f t462 1).bind fun bt474 => ((laws_heldFlowKeyS.f bt474.2 1).bind fun t476 => (if t476 < 0 then (none) else (if t476 = bt474.1 then ((laws_toTable.f k a0_0 l0_1).bind fun bt477 => ((impl_TableKeys.f k bt477.1 bt477.2).bind fun t481 => ((laws_eqFlowKeyS.f k t481 t454).bind fun t484 => (if t484 = true then ((laws_heldFlowKeyS.f bt474.2 1).bind fun t485 => (if t485 < 0 then (none) else (if t485 = bt474.1 then (some true) else (none)))) else (none))))) else (none))))) else (none))))) else (none)))) else (none)) = some r := H
  have A11 := Gv.a0 A110
  clear A110
  by_cases c12 : t465 = true
  ·subst c12
   have H1 : ((laws_toTable.f k a0_0 l0_1).bind fun bt466 => ((laws_eqTable.f k t457 t458 bt466.1 bt466.2).bind fun t470 => (if t470 = true then ((laws_markTable.f t457 t458 1).bind fun bt471 => (if bt471.1 < 0 then (none) else ((laws_eqFlowKeyS.f k t462 t454).bind fun t473 => (if t473 = true then ((laws_markFlowKeyS.f t462 1).bind fun bt474 => ((laws_heldFlowKeyS.f bt474.2 1).bind fun t476 => (if t476 < 0 then (none) else (if t476 = bt474.1 then ((laws_toTable.f k a0_0 l0_1).bind fun bt477 => ((impl_TableKeys.f k bt477.1 bt477.2).bind fun t481 => ((laws_eqFlowKeyS.f k t481 t454).bind fun t484 => (if t484 = true then ((laws_heldFlowKeyS.f bt474.2 1).bind fun t485 => (if t485 < 0 then (none) else (if t485 = bt474.1 then (some true) else (none)))) else (none))))) else (none))))) else (none))))) else (none)))) = some r := by rw [if_pos rfl] at H; exact H
   clear H
   have H := H1
   clear H1
   replace H := Option.bind_eq_some_iff.mp H
   obtain ⟨⟨t466, t467⟩, A130, H⟩ := H
   replace H : ((laws_eqTable.f k t457 t458 t466 t467).bind fun t470 => (if t470 = true then ((laws_markTable.f t457 t458 1).bind fun bt471 => (if bt471.1 < 0 then (none) else ((laws_eqFlowKeyS.f k t462 t454).bind fun t473 => (if t473 = true then ((laws_markFlowKeyS.f t462 1).bind fun bt474 => ((laws_heldFlowKeyS.f bt474.2 1).bind fun t476 => (if t476 < 0 then (none) else (if t476 = bt474.1 then ((laws_toTable.f k a0_0 l0_1).bind fun bt477 => ((impl_TableKeys.f k bt477.1 bt477.2).bind fun t481 => ((laws_eqFlowKeyS.f k t481 t454).bind fun t484 => (if t484 = true then ((laws_heldFlowKeyS.f bt474.2 1).bind fun t485 => (if t485 < 0 then (none) else (if t485 = bt474.1 then (some true) else (none)))) else (none))))) else (none))))) else (none))))) else (none))) = some r := H
   have A13 := Gv.a0 A130
   clear A130
   replace H := Option.bind_eq_some_iff.mp H
   obtain ⟨t470, A140, H⟩ := H
   replace H : (if t470 = true then ((laws_markTable.f t457 t458 1).bind fun bt471 => (if bt471.1 < 0 then (none) else ((laws_eqFlowKeyS.f k t462 t454).bind fun t473 => (if t473 = true then ((laws_markFlowKeyS.f t462 1).bind fun bt474 => ((laws_heldFlowKeyS.f bt474.2 1).bind fun t476 => (if t476 < 0 then (none) else (if t476 = bt474.1 then ((laws_toTable.f k a0_0 l0_1).bind fun bt477 => ((impl_TableKeys.f k bt477.1 bt477.2).bind fun t481 => ((laws_eqFlowKeyS.f k t481 t454).bind fun t484 => (if t484 = true then ((laws_heldFlowKeyS.f bt474.2 1).bind fun t485 => (if t485 < 0 then (none) else (if t485 = bt474.1 then (some true) else (none)))) else (none))))) else (none))))) else (none))))) else (none)) = some r := H
   have A14 := Gv.a0 A140
   clear A140
   by_cases c15 : t470 = true
   ·subst c15
    have H1 : ((laws_markTable.f t457 t458 1).bind fun bt471 => (if bt471.1 < 0 then (none) else ((laws_eqFlowKeyS.f k t462 t454).bind fun t473 => (if t473 = true then ((laws_markFlowKeyS.f t462 1).bind fun bt474 => ((laws_heldFlowKeyS.f bt474.2 1).bind fun t476 => (if t476 < 0 then (none) else (if t476 = bt474.1 then ((laws_toTable.f k a0_0 l0_1).bind fun bt477 => ((impl_TableKeys.f k bt477.1 bt477.2).bind fun t481 => ((laws_eqFlowKeyS.f k t481 t454).bind fun t484 => (if t484 = true then ((laws_heldFlowKeyS.f bt474.2 1).bind fun t485 => (if t485 < 0 then (none) else (if t485 = bt474.1 then (some true) else (none)))) else (none))))) else (none))))) else (none))))) = some r := by rw [if_pos rfl] at H; exact H
    clear H
    have H := H1
    clear H1
    replace H := Option.bind_eq_some_iff.mp H
    obtain ⟨⟨t471, t472⟩, A160, H⟩ := H
    replace H : (if t471 < 0 then (none) else ((laws_eqFlowKeyS.f k t462 t454).bind fun t473 => (if t473 = true then ((laws_markFlowKeyS.f t462 1).bind fun bt474 => ((laws_heldFlowKeyS.f bt474.2 1).bind fun t476 => (if t476 < 0 then (none) else (if t476 = bt474.1 then ((laws_toTable.f k a0_0 l0_1).bind fun bt477 => ((impl_TableKeys.f k bt477.1 bt477.2).bind fun t481 => ((laws_eqFlowKeyS.f k t481 t454).bind fun t484 => (if t484 = true then ((laws_heldFlowKeyS.f bt474.2 1).bind fun t485 => (if t485 < 0 then (none) else (if t485 = bt474.1 then (some true) else (none)))) else (none))))) else (none))))) else (none)))) = some r := H
    have A16 := Gv.a0 A160
    clear A160
    by_cases c17 : t471 < 0
    ·rw [if_pos c17] at H
     exact absurd H (by simp)
    ·rw [if_neg c17] at H
     have c17b0 : decide (t471 < 0) = false := decide_eq_false c17
     clear c17
     replace H := Option.bind_eq_some_iff.mp H
     obtain ⟨t473, A180, H⟩ := H
     replace H : (if t473 = true then ((laws_markFlowKeyS.f t462 1).bind fun bt474 => ((laws_heldFlowKeyS.f bt474.2 1).bind fun t476 => (if t476 < 0 then (none) else (if t476 = bt474.1 then ((laws_toTable.f k a0_0 l0_1).bind fun bt477 => ((impl_TableKeys.f k bt477.1 bt477.2).bind fun t481 => ((laws_eqFlowKeyS.f k t481 t454).bind fun t484 => (if t484 = true then ((laws_heldFlowKeyS.f bt474.2 1).bind fun t485 => (if t485 < 0 then (none) else (if t485 = bt474.1 then (some true) else (none)))) else (none))))) else (none))))) else (none)) = some r := H
     have A18 := Gv.a0 A180
     clear A180
     by_cases c19 : t473 = true
     ·subst c19
      have H1 : ((laws_markFlowKeyS.f t462 1).bind fun bt474 => ((laws_heldFlowKeyS.f bt474.2 1).bind fun t476 => (if t476 < 0 then (none) else (if t476 = bt474.1 then ((laws_toTable.f k a0_0 l0_1).bind fun bt477 => ((impl_TableKeys.f k bt477.1 bt477.2).bind fun t481 => ((laws_eqFlowKeyS.f k t481 t454).bind fun t484 => (if t484 = true then ((laws_heldFlowKeyS.f bt474.2 1).bind fun t485 => (if t485 < 0 then (none) else (if t485 = bt474.1 then (some true) else (none)))) else (none))))) else (none))))) = some r := by rw [if_pos rfl] at H; exact H
      clear H
      have H := H1
      clear H1
      replace H := Option.bind_eq_some_iff.mp H
      obtain ⟨⟨t474, t475⟩, A200, H⟩ := H
      replace H : ((laws_heldFlowKeyS.f t475 1).bind fun t476 => (if t476 < 0 then (none) else (if t476 = t474 then ((laws_toTable.f k a0_0 l0_1).bind fun bt477 => ((impl_TableKeys.f k bt477.1 bt477.2).bind fun t481 => ((laws_eqFlowKeyS.f k t481 t454).bind fun t484 => (if t484 = true then ((laws_heldFlowKeyS.f t475 1).bind fun t485 => (if t485 < 0 then (none) else (if t485 = t474 then (some true) else (none)))) else (none))))) else (none)))) = some r := H
      have A20 := Gv.a0 A200
      clear A200
      replace H := Option.bind_eq_some_iff.mp H
      obtain ⟨t476, A210, H⟩ := H
      replace H : (if t476 < 0 then (none) else (if t476 = t474 then ((laws_toTable.f k a0_0 l0_1).bind fun bt477 => ((impl_TableKeys.f k bt477.1 bt477.2).bind fun t481 => ((laws_eqFlowKeyS.f k t481 t454).bind fun t484 => (if t484 = true then ((laws_heldFlowKeyS.f t475 1).bind fun t485 => (if t485 < 0 then (none) else (if t485 = t474 then (some true) else (none)))) else (none))))) else (none))) = some r := H
      have A21 := Gv.a0 A210
      clear A210
      by_cases c22 : t476 < 0
      ·rw [if_pos c22] at H
       exact absurd H (by simp)
      ·rw [if_neg c22] at H
       have c22b0 : decide (t476 < 0) = false := decide_eq_false c22
       clear c22
       by_cases c23 : t476 = t474
       ·rw [if_pos c23] at H
        have c23b0 : (t476 == t474) = true := beq_iff_eq.mpr c23
        have c23b1 : (t476 != t474) = false := bne_eq_false_iff_eq.mpr c23
        clear c23
        replace H := Option.bind_eq_some_iff.mp H
        obtain ⟨⟨t477, t478⟩, A240, H⟩ := H
        replace H : ((impl_TableKeys.f k t477 t478).bind fun t481 => ((laws_eqFlowKeyS.f k t481 t454).bind fun t484 => (if t484 = true then ((laws_heldFlowKeyS.f t475 1).bind fun t485 => (if t485 < 0 then (none) else (if t485 = t474 then (some true) else (none)))) else (none)))) = some r := H
        have A24 := Gv.a0 A240
        clear A240
        replace H := Option.bind_eq_some_iff.mp H
        obtain ⟨t481, A250, H⟩ := H
        replace H : ((laws_eqFlowKeyS.f k t481 t454).bind fun t484 => (if t484 = true then ((laws_heldFlowKeyS.f t475 1).bind fun t485 => (if t485 < 0 then (none) else (if t485 = t474 then (some true) else (none)))) else (none))) = some r := H
        have A25 := Gv.a0 A250
        clear A250
        replace H := Option.bind_eq_some_iff.mp H
        obtain ⟨t484, A260, H⟩ := H
        replace H : (if t484 = true then ((laws_heldFlowKeyS.f t475 1).bind fun t485 => (if t485 < 0 then (none) else (if t485 = t474 then (some true) else (none)))) else (none)) = some r := H
        have A26 := Gv.a0 A260
        clear A260
        by_cases c27 : t484 = true
        ·subst c27
         have H1 : ((laws_heldFlowKeyS.f t475 1).bind fun t485 => (if t485 < 0 then (none) else (if t485 = t474 then (some true) else (none)))) = some r := by rw [if_pos rfl] at H; exact H
         clear H
         have H := H1
         clear H1
         replace H := Option.bind_eq_some_iff.mp H
         obtain ⟨t485, A280, H⟩ := H
         replace H : (if t485 < 0 then (none) else (if t485 = t474 then (some true) else (none))) = some r := H
         have A28 := Gv.a0 A280
         clear A280
         by_cases c29 : t485 < 0
         ·rw [if_pos c29] at H
          exact absurd H (by simp)
         ·rw [if_neg c29] at H
          have c29b0 : decide (t485 < 0) = false := decide_eq_false c29
          clear c29
          by_cases c30 : t485 = t474
          ·rw [if_pos c30] at H
           have c30b0 : (t485 == t474) = true := beq_iff_eq.mpr c30
           have c30b1 : (t485 != t474) = false := bne_eq_false_iff_eq.mpr c30
           clear c30
           obtain rfl := Option.some.inj H
           go_enter Try.func10, Try.ntmps10
           try go_wp2_with (first | ((with_reducible refine gate_dst (N := 1) rfl ?_); refine box_event ?hg (N := 1) ?hd (cs := #[.int .i64 a0_0, .slice A0_1 l0_1.length c0_1]) (t := 47) ?hr ?_; (case hd => rfl); (case hg => rfl); (case hr => first | (go_simp; done) | (go_simp; rfl)); intro gb448 hg w31 hbox hb; have n0_ := Gv.a0 (below_step Gv.bw hb); have n1_ := Gv.a0 (hbox); have n2_ := Gv.a0 ((Gv.ble hg Gv.bw : w.heap.size ≤ gb448)); have n3_ := Gv.a0 ((Gv.ble hg Gv.bw : w.heap.size ≤ gb448)); clear HB; have HB := n0_; have BK448 := n1_; have GW448 := n2_; have GE448 := n3_; clear n0_ n1_ n2_ n3_; clear hb hbox hg; have hcz32_0 : w31.cell? ⟨gb448, 0, none⟩ = some (.int .i64 a0_0) := (blk_cell BK448.out 0).trans rfl; have hcz32_1 : w31.cell? ⟨gb448, 1, none⟩ = some (.slice A0_1 l0_1.length c0_1) := (blk_cell BK448.out 1).trans rfl; have hfz32_0 := blk_frozen BK448.out 0; have hfz32_1 := blk_frozen BK448.out 1) | ((with_reducible refine gate_callee (f := 23) rfl ?_); refine goesL_ (some 13) rfl rfl Try.func23 (by kernel_rfl) rfl #[.agg #[.int .i64 a0_0, .slice A0_1 l0_1.length c0_1], .int .i64 1048576] rfl Gv.lm ?_; (with_reducible refine (laws_szTable.calls a0_0 _ _ l0_1 1048576 t449 _ ?side1 ?side2 A2.out).mono ?_); (case side1 => repeat (first | exact (Kd.C_below HR0_1.out HB.out) | (with_reducible refine Kd.C_alloc ?_ _) | (with_reducible refine Kd.C_drewN ?_ _) | (with_reducible refine Kd.C_drew ?_))); (case side2 => exact HC0_1.out); rintro e w33 ⟨rfl, hb⟩; refine ⟨_, rfl, ?_⟩; have n0_ := Gv.a0 (Gv.bb BK448.out hb); have n1_ := Gv.a0 (below_step Gv.bw hb); clear BK448; clear HB; have BK448 := n0_; have HB := n1_; clear n0_ n1_; (try clear hb); (try clear hb2); (try clear hk); (try clear hi); have hcz34_0 : w33.cell? ⟨gb448, 0, none⟩ = some (.int .i64 a0_0) := (blk_cell BK448.out 0).trans rfl; have hcz34_1 : w33.cell? ⟨gb448, 1, none⟩ = some (.slice A0_1 l0_1.length c0_1) := (blk_cell BK448.out 1).trans rfl; have hfz34_0 := blk_frozen BK448.out 0; have hfz34_1 := blk_frozen BK448.out 1) | ((with_reducible refine gate_callee (f := 25) rfl ?_); refine goesL_ (some 17) rfl rfl Try.func25 (by kernel_rfl) rfl #[.agg #[.int .i64 a0_0, .slice A0_1 l0_1.length c0_1]] rfl Gv.lm ?_; (with_reducible refine (laws_toTable.calls k a0_0 _ _ l0_1 t450 t451 _ ?side1 ?side2 A7.out).mono ?_); (case side1 => repeat (first | exact (Kd.C_below HR0_1.out HB.out) | (with_reducible refine Kd.C_alloc ?_ _) | (with_reducible refine Kd.C_drewN ?_ _) | (with_reducible refine Kd.C_drew ?_))); (case side2 => exact HC0_1.out); rintro e w35 ⟨v452, rfl, ho0, hb⟩; refine ⟨_, rfl, ?_⟩; have n0_ := Gv.a0 (Kd.R_lower ho0 (below_size Gv.bw)); have n1_ := Gv.a0 (Gv.bb BK448.out hb); have n2_ := Gv.a0 (below_step Gv.bw hb); clear BK448; clear HB; have HO453 := n0_; have BK448 := n1_; have HB := n2_; clear n0_ n1_ n2_; (try clear hb); (try clear hb2); (try clear hk); (try clear hi); (try clear ho0); obtain ⟨Ao36, co36, eo36⟩ := Kd.R_slice HO453.out; subst eo36) | ((with_reducible refine gate_callee (f := 33) rfl ?_); refine goesL_ (some 18) rfl rfl Try.func33 (by kernel_rfl) rfl #[.agg #[.int .i64 t450, .slice Ao36 t451.length co36]] rfl Gv.lm ?_; (with_reducible refine (spec_TableKeys.calls k t450 _ _ t451 t454 _ ?side1 ?side2 A8.out).mono ?_); (case side1 => repeat (first | exact (Kd.R_reads' HO453.out).2.2 | (with_reducible refine Kd.C_alloc ?_ _) | (with_reducible refine Kd.C_drewN ?_ _) | (with_reducible refine Kd.C_drew ?_))); (case side2 => exact (Kd.R_reads' HO453.out).2.1); rintro e w37 ⟨v455, rfl, ho0, hb⟩; refine ⟨_, rfl, ?_⟩; have n0_ := Gv.a0 (Kd.R_below (Gv.kr HO453.out) hb); have n1_ := Gv.a0 (Kd.R_lower ho0 (below_size Gv.bw)); have n2_ := Gv.a0 (Gv.bb BK448.out hb); have n3_ := Gv.a0 (below_step Gv.bw hb); clear HO453; clear BK448; clear HB; have HO453 := n0_; have HO456 := n1_; have BK448 := n2_; have HB := n3_; clear n0_ n1_ n2_ n3_; (try clear hb); (try clear hb2); (try clear hk); (try clear hi); (try clear ho0); have hcz38_0 : w37.cell? ⟨gb448, 0, none⟩ = some (.int .i64 a0_0) := (blk_cell BK448.out 0).trans rfl; have hcz38_1 : w37.cell? ⟨gb448, 1, none⟩ = some (.slice A0_1 l0_1.length c0_1) := (blk_cell BK448.out 1).trans rfl; have hfz38_0 := blk_frozen BK448.out 0; have hfz38_1 := blk_frozen BK448.out 1) | ((with_reducible refine gate_callee (f := 25) rfl ?_); refine goesL_ (some 20) rfl rfl Try.func25 (by kernel_rfl) rfl #[.agg #[.int .i64 a0_0, .slice A0_1 l0_1.length c0_1]] rfl Gv.lm ?_; (with_reducible refine (laws_toTable.calls k a0_0 _ _ l0_1 t457 t458 _ ?side1 ?side2 A9.out).mono ?_); (case side1 => repeat (first | exact (Kd.C_below HR0_1.out HB.out) | (with_reducible refine Kd.C_alloc ?_ _) | (with_reducible refine Kd.C_drewN ?_ _) | (with_reducible refine Kd.C_drew ?_))); (case side2 => exact HC0_1.out); rintro e w39 ⟨v459, rfl, ho0, hb⟩; refine ⟨_, rfl, ?_⟩; have n0_ := Gv.a0 (Kd.R_elder' (Gv.kr HO453.out) (Kd.R_base ho0) hb); have n1_ := Gv.a0 (Kd.R_below (Gv.kr HO456.out) hb); have n2_ := Gv.a0 (Kd.R_lower (Kd.R_new' ho0 (Kd.R_lt (Gv.kr HO453.out))) (below_size Gv.bw)); have n3_ := Gv.a0 (Gv.bb BK448.out hb); have n4_ := Gv.a0 (below_step Gv.bw hb); clear HO453; clear HO456; clear BK448; clear HB; have HO453 := n0_; have HO456 := n1_; have HO460 := n2_; have BK448 := n3_; have HB := n4_; clear n0_ n1_ n2_ n3_ n4_; (try clear hb); (try clear hb2); (try clear hk); (try clear hi); (try clear ho0)) | ((with_reducible refine gate_dst (N := 5) rfl ?_); refine box_event ?hg (N := 5) ?hd (cs := #[.int .i64 0, .slice none 0 0]) (t := 40) ?hr ?_; (case hd => rfl); (case hg => rfl); (case hr => first | (go_simp; done) | (go_simp; rfl)); intro gb461 hg w40 hbox hb; have n0_ := Gv.a0 (Kd.R_below (Gv.kr HO453.out) hb); have n1_ := Gv.a0 (Kd.R_below (Gv.kr HO456.out) hb); have n2_ := Gv.a0 (Kd.R_below (Gv.kr HO460.out) hb); have n3_ := Gv.a0 (Gv.bb BK448.out hb); have n4_ := Gv.a0 (below_step Gv.bw hb); have n5_ := Gv.a0 (hbox); have n6_ := Gv.a0 ((Gv.ble hg Gv.bw : w.heap.size ≤ gb461)); have n7_ := Gv.a0 ((Gv.ble hg Gv.bw : w.heap.size ≤ gb461)); have n8_ := Gv.a0 ((Gv.nlt hg (Gv.kb BK448.out) : gb448 ≠ gb461)); have n9_ := Gv.a0 ((Gv.ngt hg (Gv.kb BK448.out) : gb461 ≠ gb448)); clear HO453; clear HO456; clear HO460; clear BK448; clear HB; have HO453 := n0_; have HO456 := n1_; have HO460 := n2_; have BK448 := n3_; have HB := n4_; have BK461 := n5_; have GW461 := n6_; have GE461 := n7_; have NB448_461 := n8_; have NB461_448 := n9_; clear n0_ n1_ n2_ n3_ n4_ n5_ n6_ n7_ n8_ n9_; clear hb hbox hg; have hnb41 := NB461_448.out; have hnc41 := NB448_461.out; have hcz42_0 : w40.cell? ⟨gb461, 0, none⟩ = some (.int .i64 0) := (blk_cell BK461.out 0).trans rfl; have hcz42_1 : w40.cell? ⟨gb461, 1, none⟩ = some (.slice none 0 0) := (blk_cell BK461.out 1).trans rfl; have hfz42_0 := blk_frozen BK461.out 0; have hfz42_1 := blk_frozen BK461.out 1; obtain ⟨Ao43, co43, eo43⟩ := Kd.R_slice HO460.out; subst eo43) | ((with_reducible refine gate_callee (f := 34) rfl ?_); refine goesL_ (some 22) rfl rfl Try.func34 (by kernel_rfl) rfl #[.agg #[.int .i64 t457, .slice Ao43 t458.length co43]] rfl Gv.lm ?_; (with_reducible refine (impl_TableKeys.calls k t457 _ _ t458 t462 _ ?side1 ?side2 A10.out).mono ?_); (case side1 => refine (Kd.R_reads' (e := 75) (base := w.heap.size) (ok := fun k_ => (True ∧ some k_ ≠ (.slice Ao36 t451.length co36 : Value).ownBlock)) (n := t458.length) (c := co43) ?_).2.2; exact (by (with_reducible repeat (first | apply Kd.R_alloc | apply Kd.R_drewN | apply Kd.R_drew)); exact (Kd.R_mono (Kd.R_far (p := ⟨gb461, 1, none⟩) (Kd.R_far (p := ⟨gb461, 0, none⟩) (Kd.R_types HO460.out BK461.out (by decide)) (fun _ hk => hk.2) (.int .i64 t457)) (fun _ hk => hk.2) (.slice Ao43 t458.length co43)) (fun _ h_ => h_.1)))); (case side2 => exact (Kd.R_reads' HO460.out).2.1); rintro e w44 ⟨v463, rfl, ho0, hb⟩; refine ⟨_, rfl, ?_⟩; have n0_ := Gv.a0 (Kd.R_below (by (with_reducible repeat (first | apply Kd.R_alloc | apply Kd.R_drewN | apply Kd.R_drew)); exact (Kd.R_mono (Kd.R_far (p := ⟨gb461, 1, none⟩) (Kd.R_far (p := ⟨gb461, 0, none⟩) (Kd.R_types HO453.out BK461.out (by decide)) (fun _ hk => hk.2) (.int .i64 t457)) (fun _ hk => hk.2) (.slice Ao43 t458.length co43)) (fun _ h_ => h_.1))) hb); have n1_ := Gv.a0 (Kd.R_elder' (by (with_reducible repeat (first | apply Kd.R_alloc | apply Kd.R_drewN | apply Kd.R_drew)); exact (Kd.R_mono (Kd.R_far (p := ⟨gb461, 1, none⟩) (Kd.R_far (p := ⟨gb461, 0, none⟩) (Kd.R_types HO456.out BK461.out (by decide)) (fun _ hk => hk.2) (.int .i64 t457)) (fun _ hk => hk.2) (.slice Ao43 t458.length co43)) (fun _ h_ => h_.1))) (Kd.R_base ho0) hb); have n2_ := Gv.a0 (Kd.R_below (by (with_reducible repeat (first | apply Kd.R_alloc | apply Kd.R_drewN | apply Kd.R_drew)); exact (Kd.R_mono (Kd.R_far (p := ⟨gb461, 1, none⟩) (Kd.R_far (p := ⟨gb461, 0, none⟩) (Kd.R_types HO460.out BK461.out (by decide)) (fun _ hk => hk.2) (.int .i64 t457)) (fun _ hk => hk.2) (.slice Ao43 t458.length co43)) (fun _ h_ => h_.1))) hb); have n3_ := Gv.a0 (Kd.R_lower (Kd.R_new' ho0 (Kd.R_lt (by (with_reducible repeat (first | apply Kd.R_alloc | apply Kd.R_drewN | apply Kd.R_drew)); exact (Kd.R_mono (Kd.R_far (p := ⟨gb461, 1, none⟩) (Kd.R_far (p := ⟨gb461, 0, none⟩) (Kd.R_types HO456.out BK461.out (by decide)) (fun _ hk => hk.2) (.int .i64 t457)) (fun _ hk => hk.2) (.slice Ao43 t458.length co43)) (fun _ h_ => h_.1))))) (below_size Gv.bw)); have n4_ := Gv.a0 (blk_below (g := gb448) (o := .cells #[.int .i64 a0_0, .slice A0_1 l0_1.length c0_1] 47 (0, 0)) Gv.bkf hb); have n5_ := Gv.a0 (blk_below (g := gb461) (o := .cells #[.int .i64 t457, .slice Ao43 t458.length co43] 40 (0, 0)) (by (with_reducible repeat (first | refine blk_drewN ?_ _ | refine blk_drew ?_ | refine blk_alloc ?_ _)); refine blk_put (cs := #[.int .i64 t457, .slice none 0 0]) ?_ 1 _ rfl; (with_reducible repeat (first | refine blk_drewN ?_ _ | refine blk_drew ?_ | refine blk_alloc ?_ _)); refine blk_put (cs := #[.int .i64 0, .slice none 0 0]) ?_ 0 _ rfl; (with_reducible repeat (first | refine blk_drewN ?_ _ | refine blk_drew ?_ | refine blk_alloc ?_ _)); exact BK461.out) hb); have n6_ := Gv.a0 (below_step Gv.bw hb); clear HO453; clear HO456; clear HO460; clear BK448; clear BK461; clear HB; have HO453 := n0_; have HO456 := n1_; have HO460 := n2_; have HO464 := n3_; have BK448 := n4_; have BK461 := n5_; have HB := n6_; clear n0_ n1_ n2_ n3_ n4_ n5_ n6_; (try clear hb); (try clear hb2); (try clear hk); (try clear hi); (try clear ho0); obtain ⟨Ao45, co45, eo45⟩ := Kd.R_slice HO464.out; subst eo45; obtain ⟨Ao46, co46, eo46⟩ := Kd.R_slice HO456.out; subst eo46) | ((with_reducible refine gate_callee (f := 35) rfl ?_); refine goesL_ (some 25) rfl rfl Try.func35 (by kernel_rfl) rfl #[.slice Ao45 t462.length co45, .slice Ao46 t454.length co46] rfl Gv.lm ?_; (with_reducible refine (laws_eqFlowKeyS.calls k _ _ t462 _ _ t454 true _ ?side1 ?side2 ?side3 ?side4 A11.out).mono ?_); (case side1 => repeat (first | exact (Kd.R_reads' HO464.out).2.2 | (with_reducible refine Kd.C_alloc ?_ _) | (with_reducible refine Kd.C_drewN ?_ _) | (with_reducible refine Kd.C_drew ?_))); (case side2 => exact (Kd.R_reads' HO464.out).2.1); (case side3 => repeat (first | exact (Kd.R_reads' HO456.out).2.2 | (with_reducible refine Kd.C_alloc ?_ _) | (with_reducible refine Kd.C_drewN ?_ _) | (with_reducible refine Kd.C_drew ?_))); (case side4 => exact (Kd.R_reads' HO456.out).2.1); rintro e w47 ⟨rfl, hb⟩; refine ⟨_, rfl, ?_⟩; have n0_ := Gv.a0 (Kd.R_below (Gv.kr HO453.out) hb); have n1_ := Gv.a0 (Kd.R_below (Gv.kr HO456.out) hb); have n2_ := Gv.a0 (Kd.R_below (Gv.kr HO460.out) hb); have n3_ := Gv.a0 (Kd.R_below (Gv.kr HO464.out) hb); have n4_ := Gv.a0 (Gv.bb BK448.out hb); have n5_ := Gv.a0 (Gv.bb BK461.out hb); have n6_ := Gv.a0 (below_step Gv.bw hb); clear HO453; clear HO456; clear HO460; clear HO464; clear BK448; clear BK461; clear HB; have HO453 := n0_; have HO456 := n1_; have HO460 := n2_; have HO464 := n3_; have BK448 := n4_; have BK461 := n5_; have HB := n6_; clear n0_ n1_ n2_ n3_ n4_ n5_ n6_; (try clear hb); (try clear hb2); (try clear hk); (try clear hi)))
           have n0_ := Gv.a0 (Kd.R_drew HO453.out)
           have n1_ := Gv.a0 (Kd.R_drew HO456.out)
           have n2_ := Gv.a0 (Kd.R_drew HO460.out)
           have n3_ := Gv.a0 (Kd.R_drew HO464.out)
           have n4_ := Gv.a0 (blk_drew BK448.out)
           have n5_ := Gv.a0 (blk_drew BK461.out)
           have n6_ := Gv.a0 (below_drew1 HB.out)
           clear HO453
           clear HO456
           clear HO460
           clear HO464
           clear BK448
           clear BK461
           clear HB
           have HO453 := n0_
           have HO456 := n1_
           have HO460 := n2_
           have HO464 := n3_
           have BK448 := n4_
           have BK461 := n5_
           have HB := n6_
           clear n0_ n1_ n2_ n3_ n4_ n5_ n6_
           refine start_ (n := 5) (S := fun w' => w'.cell? ⟨gb461, 0, none⟩ = some (.int .i64 t457) ∧ w'.cell? ⟨gb461, 1, none⟩ = some (.slice Ao43 t458.length co43) ∧ w'.cell? ⟨gb448, 0, none⟩ = some (.int .i64 a0_0) ∧ w'.cell? ⟨gb448, 1, none⟩ = some (.slice A0_1 l0_1.length c0_1)) (ds := []) #[false, false, false, false, false] (by kernel_rfl) rfl rfl ⟨(blk_cell BK461.out 0).trans rfl, (blk_cell BK461.out 1).trans rfl, (blk_cell BK448.out 0).trans rfl, (blk_cell BK448.out 1).trans rfl⟩ (fun hHeld => ?_)
           generalize w47.drew = w48 at HO453 HO456 HO460 HO464 BK448 BK461 HB hHeld ⊢
           refine take_ (i := 0) (N := some 27) (v := ?_) (a' := ?_) #[true, false, false, false, false] rfl rfl (by kernel_rfl) (fun _ _ _ h => h) (Or.inl ⟨by rfl, ?_⟩) hHeld ?_ ?_
           rotate_left
           ·rintro w' ⟨s0, s1, s2, s3⟩
            go_simp
            with_reducible rfl
           rotate_left
           ·simp only [Act.put, List.setIfInBounds_toArray, List.set_cons_zero, List.set_cons_succ, i64_w, i32_w]
            rfl
           refine take_ (i := 1) (N := some 28) (v := ?_) (a' := ?_) #[true, true, false, false, false] rfl rfl (by kernel_rfl) (fun _ _ _ h => h) (Or.inl ⟨by rfl, ?_⟩) hHeld ?_ ?_
           rotate_left
           ·rintro w' ⟨s0, s1, s2, s3⟩
            go_simp
            with_reducible rfl
           rotate_left
           ·simp only [Act.put, List.setIfInBounds_toArray, List.set_cons_zero, List.set_cons_succ, i64_w, i32_w]
            rfl
           refine one_ (i := 2) (N := some 29) #[true, true, true, false, false] rfl rfl (by kernel_rfl) (by decide) (fun K hK => ?_)
           refine goes_ Try.func25 (by kernel_rfl) rfl #[.agg #[.int .i64 a0_0, .slice A0_1 l0_1.length c0_1]] (by rfl) rfl rfl Gv.lm ?_
           with_reducible refine (laws_toTable.calls k a0_0 _ _ l0_1 t466 t467 _ ?side1 ?side2 A13.out).mono ?_
           (case side1 => repeat (first | exact (Kd.C_below HR0_1.out HB.out) | (with_reducible refine Kd.C_alloc ?_ _) | (with_reducible refine Kd.C_drewN ?_ _) | (with_reducible refine Kd.C_drew ?_)))
           (case side2 => exact HC0_1.out)
           rintro e w49 ⟨v468, rfl, ho0, hb⟩
           refine ⟨_, rfl, ?_⟩
           have n0_ := Gv.a0 (Kd.R_elder' (Gv.kr HO453.out) (Kd.R_base ho0) hb)
           have n1_ := Gv.a0 (Kd.R_below (Gv.kr HO456.out) hb)
           have n2_ := Gv.a0 (Kd.R_elder' (Gv.kr HO460.out) (Kd.R_base ho0) hb)
           have n3_ := Gv.a0 (Kd.R_below (Gv.kr HO464.out) hb)
           have n4_ := Gv.a0 (Kd.R_lower (Kd.R_new' (Kd.R_new' ho0 (Kd.R_lt (Gv.kr HO453.out))) (Kd.R_lt (Gv.kr HO460.out))) (below_size Gv.bw))
           have n5_ := Gv.a0 (Gv.bb BK448.out hb)
           have n6_ := Gv.a0 (Gv.bb BK461.out hb)
           have n7_ := Gv.a0 (below_step Gv.bw hb)
           clear HO453
           clear HO456
           clear HO460
           clear HO464
           clear BK448
           clear BK461
           clear HB
           have HO453 := n0_
           have HO456 := n1_
           have HO460 := n2_
           have HO464 := n3_
           have HO469 := n4_
           have BK448 := n5_
           have BK461 := n6_
           have HB := n7_
           clear n0_ n1_ n2_ n3_ n4_ n5_ n6_ n7_
           (try clear hb)
           (try clear hb2)
           (try clear hk)
           (try clear hi)
           (try clear ho0)
           obtain ⟨Ao50, co50, eo50⟩ := Kd.R_slice HO469.out
           (first | subst eo50 | (injection eo50 with f1_ f2_ f3_; have f4_ := f1_.symm; have f5_ := f3_.symm; clear f1_ f2_ f3_; subst f4_; subst f5_))
           refine hK.out _ _ ⟨(blk_cell BK461.out 0).trans rfl, (blk_cell BK461.out 1).trans rfl, (blk_cell BK448.out 0).trans rfl, (blk_cell BK448.out 1).trans rfl⟩ (fun hHeld => ?_)
           clear hK K
           refine norm_ (a' := ?_) ?_ ?_
           rotate_left
           ·show Act.put _ (some 29) _ = _
            simp only [Act.put, List.setIfInBounds_toArray, List.set_cons_zero, List.set_cons_succ, i64_w, i32_w]
            rfl
           refine one_ (i := 3) (N := some 30) #[true, true, true, true, false] rfl rfl (by kernel_rfl) (by decide) (fun K hK => ?_)
           refine goes_ Try.func20 (by kernel_rfl) rfl #[.agg #[.int .i64 t457, .slice Ao43 t458.length co43], .agg #[.int .i64 t466, .slice Ao50 t467.length co50]] (by rfl) rfl rfl Gv.lm ?_
           with_reducible refine (laws_eqTable.calls k t457 _ _ t458 t466 _ _ t467 true _ ?side1 ?side2 ?side3 ?side4 A14.out).mono ?_
           (case side1 => repeat (first | exact (Kd.R_reads' HO460.out).2.2 | (with_reducible refine Kd.C_alloc ?_ _) | (with_reducible refine Kd.C_drewN ?_ _) | (with_reducible refine Kd.C_drew ?_)))
           (case side2 => exact (Kd.R_reads' HO460.out).2.1)
           (case side3 => repeat (first | exact (Kd.R_reads' HO469.out).2.2 | (with_reducible refine Kd.C_alloc ?_ _) | (with_reducible refine Kd.C_drewN ?_ _) | (with_reducible refine Kd.C_drew ?_)))
           (case side4 => exact (Kd.R_reads' HO469.out).2.1)
           rintro e w51 ⟨rfl, hb⟩
           refine ⟨_, rfl, ?_⟩
           have n0_ := Gv.a0 (Kd.R_below (Gv.kr HO453.out) hb)
           have n1_ := Gv.a0 (Kd.R_below (Gv.kr HO456.out) hb)
           have n2_ := Gv.a0 (Kd.R_below (Gv.kr HO460.out) hb)
           have n3_ := Gv.a0 (Kd.R_below (Gv.kr HO464.out) hb)
           have n4_ := Gv.a0 (Kd.R_below (Gv.kr HO469.out) hb)
           have n5_ := Gv.a0 (Gv.bb BK448.out hb)
           have n6_ := Gv.a0 (Gv.bb BK461.out hb)
           have n7_ := Gv.a0 (below_step Gv.bw hb)
           clear HO453
           clear HO456
           clear HO460
           clear HO464
           clear HO469
           clear BK448
           clear BK461
           clear HB
           have HO453 := n0_
           have HO456 := n1_
           have HO460 := n2_
           have HO464 := n3_
           have HO469 := n4_
           have BK448 := n5_
           have BK461 := n6_
           have HB := n7_
           clear n0_ n1_ n2_ n3_ n4_ n5_ n6_ n7_
           (try clear hb)
           (try clear hb2)
           (try clear hk)
           (try clear hi)
           refine hK.out _ _ ⟨(blk_cell BK461.out 0).trans rfl, (blk_cell BK461.out 1).trans rfl, (blk_cell BK448.out 0).trans rfl, (blk_cell BK448.out 1).trans rfl⟩ (fun hHeld => ?_)
           clear hK K
           refine norm_ (a' := ?_) ?_ ?_
           rotate_left
           ·show Act.put _ (some 30) _ = _
            simp only [Act.put, List.setIfInBounds_toArray, List.set_cons_zero, List.set_cons_succ, i64_w, i32_w]
            rfl
           refine pure_ (i := 4) (N := some 31) (v := ?_) (a' := ?_) #[true, true, true, true, true] rfl rfl (by kernel_rfl) (fun _ _ _ h => h) (Or.inl ⟨by rfl, ?_⟩) ?_ ?_
           rotate_left
           ·intro w'
            go_simp
            with_reducible rfl
           rotate_left
           ·simp only [Act.put, List.setIfInBounds_toArray, List.set_cons_zero, List.set_cons_succ, i64_w, i32_w]
            rfl
           refine done_ (by kernel_rfl) ?_
           have hcz52_0 : w51.cell? ⟨gb461, 0, none⟩ = some (.int .i64 t457) := (blk_cell BK461.out 0).trans rfl
           have hcz52_1 : w51.cell? ⟨gb461, 1, none⟩ = some (.slice Ao43 t458.length co43) := (blk_cell BK461.out 1).trans rfl
           have hfz52_0 := blk_frozen BK461.out 0
           have hfz52_1 := blk_frozen BK461.out 1
           try go_wp2_with (first | ((with_reducible refine gate_callee (f := 21) rfl ?_); refine goesL_ (some 34) rfl rfl Try.func21 (by kernel_rfl) rfl #[.agg #[.int .i64 t457, .slice Ao43 t458.length co43], .int .i64 1] rfl Gv.lm ?_; (with_reducible refine (laws_markTable.calls t457 (fun k_ => some k_ = (.slice Ao43 t458.length co43 : Value).ownBlock) (.slice Ao43 t458.length co43) t458 1 t471 t472 w _ ?side1 ?side2 A16.out).mono ?_); (case side1 => repeat (first | (with_reducible first | exact HB.out | apply below_alloc | apply pw_below_drewN | apply below_drew1 | refine below_set ?_ GE448.out | refine below_set ?_ GE461.out) | exact HB.out)); (case side2 => exact Kd.R_tight rfl HO460.out); rintro e w53 ⟨rfl, hy0, hb, hkp⟩; refine ⟨_, rfl, ?_⟩; have n0_ := Gv.a0 (blk_kept Gv.bk hkp (fun hs_ => (fun e_ => (Kd.R_ne HO460.out BK448.out (by decide)) e_) hs_)); have n1_ := Gv.a0 (Kd.R_mono (ok' := fun k_ => some k_ ≠ (.slice Ao43 t458.length co43 : Value).ownBlock ∧ some k_ ≠ (.slice Ao50 t467.length co50 : Value).ownBlock) (Kd.R_keptB (HO453.out) hkp (fun k_ hk_ hs_ => (hk_.1.2) hs_)) (fun k_ hk_ => ⟨hk_.1.1.2, hk_.1.2⟩)); have n2_ := Gv.a0 (Kd.R_mono (ok' := fun k_ => some k_ ≠ (.slice Ao45 t462.length co45 : Value).ownBlock) (Kd.R_keptB ((Kd.R_apart' HO456.out (Kd.R_typed HO460.out) (by decide))) hkp (fun k_ hk_ hs_ => (hk_.2) hs_)) (fun k_ hk_ => hk_.1.1.2)); have n3_ := Gv.a0 (Kd.R_reok rfl hy0 (fun k_ e_ => HO460.out.1 k_ e_)); have n4_ := Gv.a0 (blk_kept Gv.bk hkp (fun hs_ => (fun e_ => (Kd.R_ne HO460.out BK461.out (by decide)) e_) hs_)); have n5_ := Gv.a0 (Kd.R_mono (ok' := fun k_ => some k_ ≠ (.slice Ao46 t454.length co46 : Value).ownBlock) (Kd.R_keptB ((Kd.R_apart' HO464.out (Kd.R_typed HO460.out) (by decide))) hkp (fun k_ hk_ hs_ => (hk_.2) hs_)) (fun k_ hk_ => hk_.1.1.2)); have n6_ := Gv.a0 (Kd.R_mono (ok' := fun k_ => some k_ ≠ (.slice Ao36 t451.length co36 : Value).ownBlock ∧ some k_ ≠ (.slice Ao43 t458.length co43 : Value).ownBlock) (Kd.R_keptB (HO469.out) hkp (fun k_ hk_ hs_ => (hk_.2) hs_)) (fun k_ hk_ => ⟨hk_.1.1.2, hk_.1.2⟩)); have n7_ := Gv.a0 (hb); clear BK448; clear HO453; clear HO456; clear HO460; clear BK461; clear HO464; clear HO469; clear HB; have BK448 := n0_; have HO453 := n1_; have HO456 := n2_; have HO460 := n3_; have BK461 := n4_; have HO464 := n5_; have HO469 := n6_; have HB := n7_; clear n0_ n1_ n2_ n3_ n4_ n5_ n6_ n7_; (try clear hb); (try clear hkp); (try clear hy0)) | (go_at_call 35; (with_reducible refine (laws_eqFlowKeyS.calls k _ _ t462 _ _ t454 true _ ?side1 ?side2 ?side3 ?side4 A18.out).mono ?_); (case side1 => repeat (first | exact (Kd.R_reads' HO464.out).2.2 | (with_reducible refine Kd.C_alloc ?_ _) | (with_reducible refine Kd.C_drewN ?_ _) | (with_reducible refine Kd.C_drew ?_))); (case side2 => exact (Kd.R_reads' HO464.out).2.1); (case side3 => repeat (first | exact (Kd.R_reads' HO456.out).2.2 | (with_reducible refine Kd.C_alloc ?_ _) | (with_reducible refine Kd.C_drewN ?_ _) | (with_reducible refine Kd.C_drew ?_))); (case side4 => exact (Kd.R_reads' HO456.out).2.1); rintro e w54 ⟨rfl, hb⟩; have n0_ := Gv.a0 (Kd.R_below (Gv.kr HO453.out) hb); have n1_ := Gv.a0 (Kd.R_below (Gv.kr HO456.out) hb); have n2_ := Gv.a0 (Kd.R_below (Gv.kr HO460.out) hb); have n3_ := Gv.a0 (Kd.R_below (Gv.kr HO464.out) hb); have n4_ := Gv.a0 (Kd.R_below (Gv.kr HO469.out) hb); have n5_ := Gv.a0 (Gv.bb BK448.out hb); have n6_ := Gv.a0 (Gv.bb BK461.out hb); have n7_ := Gv.a0 (below_step Gv.bw hb); clear HO453; clear HO456; clear HO460; clear HO464; clear HO469; clear BK448; clear BK461; clear HB; have HO453 := n0_; have HO456 := n1_; have HO460 := n2_; have HO464 := n3_; have HO469 := n4_; have BK448 := n5_; have BK461 := n6_; have HB := n7_; clear n0_ n1_ n2_ n3_ n4_ n5_ n6_ n7_; (try clear hb); (try clear hb2); (try clear hk); (try clear hi)) | ((with_reducible refine gate_callee (f := 36) rfl ?_); refine goesL_ (some 45) rfl rfl Try.func36 (by kernel_rfl) rfl #[.slice Ao45 t462.length co45, .int .i64 1] rfl Gv.lm ?_; (with_reducible refine (laws_markFlowKeyS.calls (fun k_ => some k_ = (.slice Ao45 t462.length co45 : Value).ownBlock) (.slice Ao45 t462.length co45) t462 1 t474 t475 w _ ?side1 ?side2 A20.out).mono ?_); (case side1 => repeat (first | (with_reducible first | exact HB.out | apply below_alloc | apply pw_below_drewN | apply below_drew1 | refine below_set ?_ GE448.out | refine below_set ?_ GE461.out) | exact HB.out)); (case side2 => exact Kd.R_tight rfl HO464.out); rintro e w55 ⟨rfl, hy0, hb, hkp⟩; refine ⟨_, rfl, ?_⟩; have n0_ := Gv.a0 (blk_kept Gv.bk hkp (fun hs_ => (fun e_ => (Kd.R_ne HO464.out BK448.out (by decide)) e_) hs_)); have n1_ := Gv.a0 (Kd.R_mono (ok' := fun k_ => some k_ ≠ (.slice Ao43 t458.length co43 : Value).ownBlock ∧ some k_ ≠ (.slice Ao50 t467.length co50 : Value).ownBlock) (Kd.R_keptB ((Kd.R_apart' HO453.out (Kd.R_typed HO464.out) (by decide))) hkp (fun k_ hk_ hs_ => (hk_.2) hs_)) (fun k_ hk_ => ⟨hk_.1.1.1, hk_.1.1.2⟩)); have n2_ := Gv.a0 (Kd.R_mono (ok' := fun k_ => some k_ ≠ (.slice Ao45 t462.length co45 : Value).ownBlock) (Kd.R_keptB (HO456.out) hkp (fun k_ hk_ hs_ => (hk_) hs_)) (fun k_ hk_ => hk_.1)); have n3_ := Gv.a0 (Kd.R_mono (ok' := fun k_ => some k_ ≠ (.slice Ao36 t451.length co36 : Value).ownBlock ∧ some k_ ≠ (.slice Ao50 t467.length co50 : Value).ownBlock) (Kd.R_keptB ((Kd.R_apart' HO460.out (Kd.R_typed HO464.out) (by decide))) hkp (fun k_ hk_ hs_ => (hk_.2) hs_)) (fun k_ hk_ => ⟨hk_.1.1.1.2, hk_.1.1.2⟩)); have n4_ := Gv.a0 (blk_kept Gv.bk hkp (fun hs_ => (fun e_ => (Kd.R_ne HO464.out BK461.out (by decide)) e_) hs_)); have n5_ := Gv.a0 (Kd.R_reok rfl hy0 (fun k_ e_ => HO464.out.1 k_ e_)); have n6_ := Gv.a0 (Kd.R_mono (ok' := fun k_ => some k_ ≠ (.slice Ao36 t451.length co36 : Value).ownBlock ∧ some k_ ≠ (.slice Ao43 t458.length co43 : Value).ownBlock) (Kd.R_keptB ((Kd.R_apart' HO469.out (Kd.R_typed HO464.out) (by decide))) hkp (fun k_ hk_ hs_ => (hk_.2) hs_)) (fun k_ hk_ => ⟨hk_.1.1.1, hk_.1.1.2⟩)); have n7_ := Gv.a0 (hb); clear BK448; clear HO453; clear HO456; clear HO460; clear BK461; clear HO464; clear HO469; clear HB; have BK448 := n0_; have HO453 := n1_; have HO456 := n2_; have HO460 := n3_; have BK461 := n4_; have HO464 := n5_; have HO469 := n6_; have HB := n7_; clear n0_ n1_ n2_ n3_ n4_ n5_ n6_ n7_; (try clear hb); (try clear hkp); (try clear hy0)) | ((with_reducible refine gate_callee (f := 37) rfl ?_); refine goesL_ (some 48) rfl rfl Try.func37 (by kernel_rfl) rfl #[.slice Ao45 t475.length co45, .int .i64 1] rfl (by (try simp only [List.map_toArray, List.map_cons, List.map_nil]); first | done | (rw [show t475.length = t462.length from (Kd.R_reads' HO464.out).1.symm] <;> rfl) | rfl | (simp only [List.length_drop, List.length_take]; rfl)) ?_; (with_reducible refine (laws_heldFlowKeyS.calls _ _ t475 1 t476 _ ?side1 ?side2 A21.out).mono ?_); (case side1 => repeat (first | exact (Kd.R_reads' HO464.out).2.2 | (with_reducible refine Kd.C_alloc ?_ _) | (with_reducible refine Kd.C_drewN ?_ _) | (with_reducible refine Kd.C_drew ?_))); (case side2 => rw [show t475.length = t462.length from (Kd.R_reads' HO464.out).1.symm]; exact (Kd.R_reads' HO464.out).2.1); rintro e w56 ⟨rfl, hb⟩; refine ⟨_, rfl, ?_⟩; have n0_ := Gv.a0 (Kd.R_below (Gv.kr HO453.out) hb); have n1_ := Gv.a0 (Kd.R_below (Gv.kr HO456.out) hb); have n2_ := Gv.a0 (Kd.R_below (Gv.kr HO460.out) hb); have n3_ := Gv.a0 (Kd.R_below (Gv.kr HO464.out) hb); have n4_ := Gv.a0 (Kd.R_below (Gv.kr HO469.out) hb); have n5_ := Gv.a0 (Gv.bb BK448.out hb); have n6_ := Gv.a0 (Gv.bb BK461.out hb); have n7_ := Gv.a0 (below_step Gv.bw hb); clear HO453; clear HO456; clear HO460; clear HO464; clear HO469; clear BK448; clear BK461; clear HB; have HO453 := n0_; have HO456 := n1_; have HO460 := n2_; have HO464 := n3_; have HO469 := n4_; have BK448 := n5_; have BK461 := n6_; have HB := n7_; clear n0_ n1_ n2_ n3_ n4_ n5_ n6_ n7_; (try clear hb); (try clear hb2); (try clear hk); (try clear hi); have hcz57_0 : w56.cell? ⟨gb448, 0, none⟩ = some (.int .i64 a0_0) := (blk_cell BK448.out 0).trans rfl; have hcz57_1 : w56.cell? ⟨gb448, 1, none⟩ = some (.slice A0_1 l0_1.length c0_1) := (blk_cell BK448.out 1).trans rfl; have hfz57_0 := blk_frozen BK448.out 0; have hfz57_1 := blk_frozen BK448.out 1) | ((with_reducible refine gate_callee (f := 25) rfl ?_); refine goesL_ (some 55) rfl rfl Try.func25 (by kernel_rfl) rfl #[.agg #[.int .i64 a0_0, .slice A0_1 l0_1.length c0_1]] rfl Gv.lm ?_; (with_reducible refine (laws_toTable.calls k a0_0 _ _ l0_1 t477 t478 _ ?side1 ?side2 A24.out).mono ?_); (case side1 => repeat (first | exact (Kd.C_below HR0_1.out HB.out) | (with_reducible refine Kd.C_alloc ?_ _) | (with_reducible refine Kd.C_drewN ?_ _) | (with_reducible refine Kd.C_drew ?_))); (case side2 => exact HC0_1.out); rintro e w58 ⟨v479, rfl, ho0, hb⟩; refine ⟨_, rfl, ?_⟩; have n0_ := Gv.a0 (Kd.R_elder' (Gv.kr HO453.out) (Kd.R_base ho0) hb); have n1_ := Gv.a0 (Kd.R_below (Gv.kr HO456.out) hb); have n2_ := Gv.a0 (Kd.R_elder' (Gv.kr HO460.out) (Kd.R_base ho0) hb); have n3_ := Gv.a0 (Kd.R_below (Gv.kr HO464.out) hb); have n4_ := Gv.a0 (Kd.R_elder' (Gv.kr HO469.out) (Kd.R_base ho0) hb); have n5_ := Gv.a0 (Kd.R_lower (Kd.R_new' (Kd.R_new' (Kd.R_new' ho0 (Kd.R_lt (Gv.kr HO453.out))) (Kd.R_lt (Gv.kr HO460.out))) (Kd.R_lt (Gv.kr HO469.out))) (below_size Gv.bw)); have n6_ := Gv.a0 (Gv.bb BK448.out hb); have n7_ := Gv.a0 (Gv.bb BK461.out hb); have n8_ := Gv.a0 (below_step Gv.bw hb); clear HO453; clear HO456; clear HO460; clear HO464; clear HO469; clear BK448; clear BK461; clear HB; have HO453 := n0_; have HO456 := n1_; have HO460 := n2_; have HO464 := n3_; have HO469 := n4_; have HO480 := n5_; have BK448 := n6_; have BK461 := n7_; have HB := n8_; clear n0_ n1_ n2_ n3_ n4_ n5_ n6_ n7_ n8_; (try clear hb); (try clear hb2); (try clear hk); (try clear hi); (try clear ho0); obtain ⟨Ao59, co59, eo59⟩ := Kd.R_slice HO480.out; subst eo59) | ((with_reducible refine gate_callee (f := 34) rfl ?_); refine goesL_ (some 56) rfl rfl Try.func34 (by kernel_rfl) rfl #[.agg #[.int .i64 t477, .slice Ao59 t478.length co59]] rfl Gv.lm ?_; (with_reducible refine (impl_TableKeys.calls k t477 _ _ t478 t481 _ ?side1 ?side2 A25.out).mono ?_); (case side1 => repeat (first | exact (Kd.R_reads' HO480.out).2.2 | (with_reducible refine Kd.C_alloc ?_ _) | (with_reducible refine Kd.C_drewN ?_ _) | (with_reducible refine Kd.C_drew ?_))); (case side2 => exact (Kd.R_reads' HO480.out).2.1); rintro e w60 ⟨v482, rfl, ho0, hb⟩; refine ⟨_, rfl, ?_⟩; have n0_ := Gv.a0 (Kd.R_below (Gv.kr HO453.out) hb); have n1_ := Gv.a0 (Kd.R_elder' (Gv.kr HO456.out) (Kd.R_base ho0) hb); have n2_ := Gv.a0 (Kd.R_below (Gv.kr HO460.out) hb); have n3_ := Gv.a0 (Kd.R_elder' (Gv.kr HO464.out) (Kd.R_base ho0) hb); have n4_ := Gv.a0 (Kd.R_below (Gv.kr HO469.out) hb); have n5_ := Gv.a0 (Kd.R_below (Gv.kr HO480.out) hb); have n6_ := Gv.a0 (Kd.R_lower (Kd.R_new' (Kd.R_new' ho0 (Kd.R_lt (Gv.kr HO456.out))) (Kd.R_lt (Gv.kr HO464.out))) (below_size Gv.bw)); have n7_ := Gv.a0 (Gv.bb BK448.out hb); have n8_ := Gv.a0 (Gv.bb BK461.out hb); have n9_ := Gv.a0 (below_step Gv.bw hb); clear HO453; clear HO456; clear HO460; clear HO464; clear HO469; clear HO480; clear BK448; clear BK461; clear HB; have HO453 := n0_; have HO456 := n1_; have HO460 := n2_; have HO464 := n3_; have HO469 := n4_; have HO480 := n5_; have HO483 := n6_; have BK448 := n7_; have BK461 := n8_; have HB := n9_; clear n0_ n1_ n2_ n3_ n4_ n5_ n6_ n7_ n8_ n9_; (try clear hb); (try clear hb2); (try clear hk); (try clear hi); (try clear ho0); obtain ⟨Ao61, co61, eo61⟩ := Kd.R_slice HO483.out; subst eo61) | ((with_reducible refine gate_callee (f := 35) rfl ?_); refine goesL_ (some 59) rfl rfl Try.func35 (by kernel_rfl) rfl #[.slice Ao61 t481.length co61, .slice Ao46 t454.length co46] rfl Gv.lm ?_; (with_reducible refine (laws_eqFlowKeyS.calls k _ _ t481 _ _ t454 true _ ?side1 ?side2 ?side3 ?side4 A26.out).mono ?_); (case side1 => repeat (first | exact (Kd.R_reads' HO483.out).2.2 | (with_reducible refine Kd.C_alloc ?_ _) | (with_reducible refine Kd.C_drewN ?_ _) | (with_reducible refine Kd.C_drew ?_))); (case side2 => exact (Kd.R_reads' HO483.out).2.1); (case side3 => repeat (first | exact (Kd.R_reads' HO456.out).2.2 | (with_reducible refine Kd.C_alloc ?_ _) | (with_reducible refine Kd.C_drewN ?_ _) | (with_reducible refine Kd.C_drew ?_))); (case side4 => exact (Kd.R_reads' HO456.out).2.1); rintro e w62 ⟨rfl, hb⟩; refine ⟨_, rfl, ?_⟩; have n0_ := Gv.a0 (Kd.R_below (Gv.kr HO453.out) hb); have n1_ := Gv.a0 (Kd.R_below (Gv.kr HO456.out) hb); have n2_ := Gv.a0 (Kd.R_below (Gv.kr HO460.out) hb); have n3_ := Gv.a0 (Kd.R_below (Gv.kr HO464.out) hb); have n4_ := Gv.a0 (Kd.R_below (Gv.kr HO469.out) hb); have n5_ := Gv.a0 (Kd.R_below (Gv.kr HO480.out) hb); have n6_ := Gv.a0 (Kd.R_below (Gv.kr HO483.out) hb); have n7_ := Gv.a0 (Gv.bb BK448.out hb); have n8_ := Gv.a0 (Gv.bb BK461.out hb); have n9_ := Gv.a0 (below_step Gv.bw hb); clear HO453; clear HO456; clear HO460; clear HO464; clear HO469; clear HO480; clear HO483; clear BK448; clear BK461; clear HB; have HO453 := n0_; have HO456 := n1_; have HO460 := n2_; have HO464 := n3_; have HO469 := n4_; have HO480 := n5_; have HO483 := n6_; have BK448 := n7_; have BK461 := n8_; have HB := n9_; clear n0_ n1_ n2_ n3_ n4_ n5_ n6_ n7_ n8_ n9_; (try clear hb); (try clear hb2); (try clear hk); (try clear hi)) | ((with_reducible refine gate_callee (f := 37) rfl ?_); refine goesL_ (some 63) rfl rfl Try.func37 (by kernel_rfl) rfl #[.slice Ao45 t475.length co45, .int .i64 1] rfl (by (try simp only [List.map_toArray, List.map_cons, List.map_nil]); first | done | (rw [show t475.length = t462.length from (Kd.R_reads' HO464.out).1.symm] <;> rfl) | rfl | (simp only [List.length_drop, List.length_take]; rfl)) ?_; (with_reducible refine (laws_heldFlowKeyS.calls _ _ t475 1 t485 _ ?side1 ?side2 A28.out).mono ?_); (case side1 => repeat (first | exact (Kd.R_reads' HO464.out).2.2 | (with_reducible refine Kd.C_alloc ?_ _) | (with_reducible refine Kd.C_drewN ?_ _) | (with_reducible refine Kd.C_drew ?_))); (case side2 => rw [show t475.length = t462.length from (Kd.R_reads' HO464.out).1.symm]; exact (Kd.R_reads' HO464.out).2.1); rintro e w63 ⟨rfl, hb⟩; refine ⟨_, rfl, ?_⟩; have n0_ := Gv.a0 (Kd.R_below (Gv.kr HO453.out) hb); have n1_ := Gv.a0 (Kd.R_below (Gv.kr HO456.out) hb); have n2_ := Gv.a0 (Kd.R_below (Gv.kr HO460.out) hb); have n3_ := Gv.a0 (Kd.R_below (Gv.kr HO464.out) hb); have n4_ := Gv.a0 (Kd.R_below (Gv.kr HO469.out) hb); have n5_ := Gv.a0 (Kd.R_below (Gv.kr HO480.out) hb); have n6_ := Gv.a0 (Kd.R_below (Gv.kr HO483.out) hb); have n7_ := Gv.a0 (Gv.bb BK448.out hb); have n8_ := Gv.a0 (Gv.bb BK461.out hb); have n9_ := Gv.a0 (below_step Gv.bw hb); clear HO453; clear HO456; clear HO460; clear HO464; clear HO469; clear HO480; clear HO483; clear BK448; clear BK461; clear HB; have HO453 := n0_; have HO456 := n1_; have HO460 := n2_; have HO464 := n3_; have HO469 := n4_; have HO480 := n5_; have HO483 := n6_; have BK448 := n7_; have BK461 := n8_; have HB := n9_; clear n0_ n1_ n2_ n3_ n4_ n5_ n6_ n7_ n8_ n9_; (try clear hb); (try clear hb2); (try clear hk); (try clear hi)))
           go_ret
           exact ⟨Gv.rt, Gv.bw⟩
          ·rw [if_neg c30] at H
           exact absurd H (by simp)
        ·replace c27 := Bool.eq_false_iff.mpr c27
         subst c27
         have H1 : (none) = some r := by rw [if_neg (show ¬ (false = true) by decide)] at H; exact H
         clear H
         have H := H1
         clear H1
         exact absurd H (by simp)
       ·rw [if_neg c23] at H
        exact absurd H (by simp)
     ·replace c19 := Bool.eq_false_iff.mpr c19
      subst c19
      have H1 : (none) = some r := by rw [if_neg (show ¬ (false = true) by decide)] at H; exact H
      clear H
      have H := H1
      clear H1
      exact absurd H (by simp)
   ·replace c15 := Bool.eq_false_iff.mpr c15
    subst c15
    have H1 : (none) = some r := by rw [if_neg (show ¬ (false = true) by decide)] at H; exact H
    clear H
    have H := H1
    clear H1
    exact absurd H (by simp)
  ·replace c12 := Bool.eq_false_iff.mpr c12
   subst c12
   have H1 : (none) = some r := by rw [if_neg (show ¬ (false = true) by decide)] at H; exact H
   clear H
   have H := H1
   clear H1
   exact absurd H (by simp)

end Go.Proofs.Ytfnpodebjejhpaa.PTk
