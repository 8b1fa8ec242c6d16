/- Plain Lean functions of a law's Go functions, their contracts, by a program of this session (wip/pr.py over the kit's print). -/
import Derived.Test.YtfnpodebjejhpaaPTux0
import Derived.Test.YtfnpodebjejhpaaPTux2
import Derived.Test.YtfnpodebjejhpaaPTux3
import Derived.Test.YtfnpodebjejhpaaPTux5
import Derived.Test.YtfnpodebjejhpaaPTux6
namespace Go.Proofs.Ytfnpodebjejhpaa.PTu
open Go.RowKit Go.Proofs.YtfnpodebjejhpaaW.PrintWords Go.Proofs.YtfnpodebjejhpaaW.PrintLast Go.Proofs.YtfnpodebjejhpaaW.PrintMore
attribute [local go_sem] max2_int min2_int max_two min_two max_three min_three max_four min_four   -- for this text's walks alone
set_option linter.unusedVariables false
set_option linter.unusedSimpArgs false

attribute [local go_sem high] eqA75
/-! ### impl_TableOk: function 26 -/
mutual
def impl_TableOk.j0 : Nat → Bool → Int → List (S75) → Option (Bool)
 | 0, _, _, _ => none
 | k + 1, x25, x415000, x415001 => if x25 = true then (some false) else (impl_TableOk.l0 k x415001 (x415001.length : Int) 0 x415000 x415001)
def impl_TableOk.l0 : Nat → List (S75) → Int → Int → Int → List (S75) → Option (Bool)
 | 0, _, _, _, _, _ => none
 | k + 1, x27, x28, x29, x415000, x415001 => if x29 < x28 then (if 0 ≤ x29 then (if x29 < (x27.length : Int) then (if ((rd_T75 x27 x29).f0 = true) then ((impl_FlowKeyOk.f k ((rd_T75 x27 x29).f1.f0) ((rd_T75 x27 x29).f1.f1.f0.f0) ((rd_T75 x27 x29).f1.f1.f0.f1) ((rd_T75 x27 x29).f1.f1.f0.f2) ((rd_T75 x27 x29).f1.f1.f0.f3) ((rd_T75 x27 x29).f1.f1.f0.f4) ((rd_T75 x27 x29).f1.f1.f1.f0) ((rd_T75 x27 x29).f1.f1.f1.f1) ((rd_T75 x27 x29).f1.f1.f1.f2) ((rd_T75 x27 x29).f1.f1.f1.f3) ((rd_T75 x27 x29).f1.f1.f1.f4) ((rd_T75 x27 x29).f1.f1.f2) ((rd_T75 x27 x29).f1.f1.f3) ((rd_T75 x27 x29).f1.f1.f4)).bind fun t420 => (if t420 = true then ((impl_within.f ((rd_T75 x27 x29).f2) 0 1000000000000).bind fun t421 => (if t421 = true then ((impl_Table_probe.f k x415000 x415001 ((rd_T75 x27 x29).f1.f0) ((rd_T75 x27 x29).f1.f1.f0.f0) ((rd_T75 x27 x29).f1.f1.f0.f1) ((rd_T75 x27 x29).f1.f1.f0.f2) ((rd_T75 x27 x29).f1.f1.f0.f3) ((rd_T75 x27 x29).f1.f1.f0.f4) ((rd_T75 x27 x29).f1.f1.f1.f0) ((rd_T75 x27 x29).f1.f1.f1.f1) ((rd_T75 x27 x29).f1.f1.f1.f2) ((rd_T75 x27 x29).f1.f1.f1.f3) ((rd_T75 x27 x29).f1.f1.f1.f4) ((rd_T75 x27 x29).f1.f1.f2) ((rd_T75 x27 x29).f1.f1.f3) ((rd_T75 x27 x29).f1.f1.f4)).bind fun t422 => (if t422 = x29 then (impl_TableOk.l0 k x27 x28 (wrap64 (x29 + 1)) x415000 x415001) else (some false))) else (some false))) else (some false))) else (if (((rd_T75 x27 x29).f0) || ((!(((rd_T75 x27 x29).f1.f0) == 0) || (((!(((rd_T75 x27 x29).f1.f1.f0.f0) == 0) || (!(((rd_T75 x27 x29).f1.f1.f0.f1) == 0) || (!(((rd_T75 x27 x29).f1.f1.f0.f2) == 0) || (!(((rd_T75 x27 x29).f1.f1.f0.f3) == 0) || (!(((rd_T75 x27 x29).f1.f1.f0.f4) == 0)))))) || ((!(((rd_T75 x27 x29).f1.f1.f1.f0) == 0) || (!(((rd_T75 x27 x29).f1.f1.f1.f1) == 0) || (!(((rd_T75 x27 x29).f1.f1.f1.f2) == 0) || (!(((rd_T75 x27 x29).f1.f1.f1.f3) == 0) || (!(((rd_T75 x27 x29).f1.f1.f1.f4) == 0)))))) || (!(((rd_T75 x27 x29).f1.f1.f2) == 0) || (!(((rd_T75 x27 x29).f1.f1.f3) == 0) || (!(((rd_T75 x27 x29).f1.f1.f4) == 0)))))))) || (!(((rd_T75 x27 x29).f2) == 0)))) = true then (some false) else (impl_TableOk.l0 k x27 x28 (wrap64 (x29 + 1)) x415000 x415001))) else (none)) else (none)) else (some true)
end
def impl_TableOk.f (k : Nat) (a0_0 : Int) (l0_1 : List (S75)) : Option (Bool) := (impl_within.f a0_0 0 4294967295).bind fun t415 => (if t415 = true then ((impl_isCells.f (l0_1.length : Int)).bind fun t416 => (if t416 = true then ((impl_Table_used.f k a0_0 l0_1).bind fun t417 => (impl_TableOk.j0 k (decide ((wrap64 (4 * t417)) > (wrap64 (3 * (l0_1.length : Int))))) a0_0 l0_1)) else (impl_TableOk.j0 k true a0_0 l0_1))) else (impl_TableOk.j0 k true a0_0 l0_1))
theorem impl_TableOk.mono_l : ∀ k, (∀ y0 y1 y2, LeO (impl_TableOk.j0 k y0 y1 y2) (impl_TableOk.j0 (k + 1) y0 y1 y2)) ∧ (∀ y0 y1 y2 y3 y4, LeO (impl_TableOk.l0 k y0 y1 y2 y3 y4) (impl_TableOk.l0 (k + 1) y0 y1 y2 y3 y4))
 | 0 => ⟨fun _ _ _ r h => by simp [impl_TableOk.j0] at h, fun _ _ _ _ _ r h => by simp [impl_TableOk.l0] at h⟩
 | k + 1 => by
  obtain ⟨ih0, ih1⟩ := impl_TableOk.mono_l k
  refine ⟨?_, ?_⟩
  ·intro y0 y1 y2
   unfold impl_TableOk.j0
   repeat' first
   | (with_reducible exact ih0 _ _ _)
   | (with_reducible exact ih1 _ _ _ _ _)
   | (with_reducible exact impl_FlowKeyOk.mono _ _ _ _ _ _ _ _ _ _ _ _ _ _ _)
   | (with_reducible exact impl_Table_probe.mono _ _ _ _ _ _ _ _ _ _ _ _ _ _ _ _ _)
   | (with_reducible exact impl_Table_used.mono _ _ _)
   | (with_reducible exact LeO.refl _)
   | (with_reducible exact LeO.none _)
   | (with_reducible refine LeO.ite ?_ ?_)
   | (with_reducible refine LeO.bind ?_ (fun _ => ?_))
   | exact ih0 _ _ _
   | exact ih1 _ _ _ _ _
   | exact impl_FlowKeyOk.mono _ _ _ _ _ _ _ _ _ _ _ _ _ _ _
   | exact impl_Table_probe.mono _ _ _ _ _ _ _ _ _ _ _ _ _ _ _ _ _
   | exact impl_Table_used.mono _ _ _
   | exact LeO.none _
   | refine LeO.ite ?_ ?_
   | refine LeO.bind ?_ (fun _ => ?_)
  ·intro y0 y1 y2 y3 y4
   unfold impl_TableOk.l0
   repeat' first
   | (with_reducible exact ih0 _ _ _)
   | (with_reducible exact ih1 _ _ _ _ _)
   | (with_reducible exact impl_FlowKeyOk.mono _ _ _ _ _ _ _ _ _ _ _ _ _ _ _)
   | (with_reducible exact impl_Table_probe.mono _ _ _ _ _ _ _ _ _ _ _ _ _ _ _ _ _)
   | (with_reducible exact impl_Table_used.mono _ _ _)
   | (with_reducible exact LeO.refl _)
   | (with_reducible exact LeO.none _)
   | (with_reducible refine LeO.ite ?_ ?_)
   | (with_reducible refine LeO.bind ?_ (fun _ => ?_))
   | exact ih0 _ _ _
   | exact ih1 _ _ _ _ _
   | exact impl_FlowKeyOk.mono _ _ _ _ _ _ _ _ _ _ _ _ _ _ _
   | exact impl_Table_probe.mono _ _ _ _ _ _ _ _ _ _ _ _ _ _ _ _ _
   | exact impl_Table_used.mono _ _ _
   | exact LeO.none _
   | refine LeO.ite ?_ ?_
   | refine LeO.bind ?_ (fun _ => ?_)
theorem impl_TableOk.mono : ∀ a0 a1 k, LeO (impl_TableOk.f k a0 a1) (impl_TableOk.f (k + 1) a0 a1) := by
 intro a0 a1 k
 obtain ⟨ih0, ih1⟩ := impl_TableOk.mono_l k
 unfold impl_TableOk.f
 repeat' first
   | (with_reducible exact ih0 _ _ _)
   | (with_reducible exact ih1 _ _ _ _ _)
   | (with_reducible exact impl_FlowKeyOk.mono _ _ _ _ _ _ _ _ _ _ _ _ _ _ _)
   | (with_reducible exact impl_Table_probe.mono _ _ _ _ _ _ _ _ _ _ _ _ _ _ _ _ _)
   | (with_reducible exact impl_Table_used.mono _ _ _)
   | (with_reducible exact LeO.refl _)
   | (with_reducible exact LeO.none _)
   | (with_reducible refine LeO.ite ?_ ?_)
   | (with_reducible refine LeO.bind ?_ (fun _ => ?_))
   | exact ih0 _ _ _
   | exact ih1 _ _ _ _ _
   | exact impl_FlowKeyOk.mono _ _ _ _ _ _ _ _ _ _ _ _ _ _ _
   | exact impl_Table_probe.mono _ _ _ _ _ _ _ _ _ _ _ _ _ _ _ _ _
   | exact impl_Table_used.mono _ _ _
   | exact LeO.none _
   | refine LeO.ite ?_ ?_
   | refine LeO.bind ?_ (fun _ => ?_)
def impl_TableOk.T1 : Bool × List (List Nat × List Nat) := (true, [([], []), ([0], [0]), ([1], [1]), ([2], [2]), ([3, 2], [3]), ([4], [4]), ([5, 4], [4, 5]), ([6, 4], [4, 6]), ([7, 4, 4], [4, 7]), ([8, 4], [4, 8]), ([4, 9], [4, 9]), ([10, 8], [10]), ([11], [11]), ([12, 11, 11], [11, 12]), ([13, 11], [11, 13]), ([11], [11]), ([15, 11], [11, 15]), ([16, 11], [11, 16]), ([17, 11], [11, 17]), ([14, 18, 11], [11, 14, 18]), ([11, 19], [11, 19])])
def impl_TableOk.B1 : List Nat := [0, 1, 3, 7, 15, 31, 63, 127, 255, 511, 1023, 2047, 4095, 8191, 16383, 4095, 36863, 102399, 233471, 524287, 1048575]
theorem impl_TableOk.tab1 : rtab .any (opsOf Try.f26 1) = impl_TableOk.T1 := by kernel_rfl
theorem impl_TableOk.bits1 : waitsOk impl_TableOk.T1.2 impl_TableOk.B1 = true := by kernel_rfl
set_option maxHeartbeats 8000000 in
set_option maxRecDepth 100000 in
theorem impl_TableOk.calls (k : Nat) (a0_0 : Int) (A0_1 : Option Addr) (c0_1 : Nat) (l0_1 : List (S75)) (r : Bool) (w : World) (hr0_1 : Kd.C k75 w A0_1 l0_1.length l0_1) (hc0_1 : l0_1.length ≤ c0_1) (h : impl_TableOk.f k a0_0 l0_1 = some r) :
  Calls Try.prog 26 #[.agg #[.int .i64 a0_0, .slice A0_1 l0_1.length c0_1]] w fun e w' => e = .returned (.bool r) ∧ Below w.heap.size w w' := by
 have hu40 := Try.underlying40
 have hu75 := Try.underlying75
 have hu33 := Try.underlying33
 have HR0_1 := Gv.a0 hr0_1
 have HC0_1 := Gv.a0 hc0_1
 clear hr0_1 hc0_1
 have HB := Gv.a0 (Below.refl w.heap.size w)
 have H : ((impl_within.f a0_0 0 4294967295).bind fun t415 => (if t415 = true then ((impl_isCells.f (l0_1.length : Int)).bind fun t416 => (if t416 = true then ((impl_Table_used.f k a0_0 l0_1).bind fun t417 => (impl_TableOk.j0 k (decide ((wrap64 (4 * t417)) > (wrap64 (3 * (l0_1.length : Int))))) a0_0 l0_1)) else (impl_TableOk.j0 k true a0_0 l0_1))) else (impl_TableOk.j0 k true a0_0 l0_1))) = some r := h
 clear h
 have HC2 := Gv.a0 H
 clear H
 go_enter Try.func26, Try.ntmps26
 go_upto_region 1 with (first | ((with_reducible refine gate_dst (N := 1) rfl ?_); (try (refine gate_guard (by rfl) ?_; dsimp only)); refine box_event ?hg (N := 1) ?hd (cs := #[.int .i64 a0_0, .slice A0_1 l0_1.length c0_1]) (t := 40) ?hr ?_; (case hd => rfl); (case hg => rfl); (case hr => first | (go_simp; done) | (go_simp; rfl)); intro gb414 hg w3 hbox hb; have n0_ := Gv.a0 (below_step Gv.bw hb); have n1_ := Gv.a0 (hbox); have n2_ := Gv.a0 ((Gv.ble hg Gv.bw : w.heap.size ≤ gb414)); have n3_ := Gv.a0 ((Gv.ble hg Gv.bw : w.heap.size ≤ gb414)); clear HB; have HB := n0_; have BK414 := n1_; have GW414 := n2_; have GE414 := n3_; clear n0_ n1_ n2_ n3_; clear hb hbox hg) | ((with_reducible refine gate_store (t := 40) (p := 1) rfl ?_); refine Gv.store_event rfl rfl rfl rfl rfl (Gv.kb BK414.out) (by kernel_rfl) rfl (by simp; and_intros <;> rfl) ?_; intro w3s hbox hoth hbel; have n0_ := Gv.a0 (hbox); have n1_ := Gv.a0 (hbel w Gv.bw GE414.out); clear BK414 HB; have BK414 := n0_; have HB := n1_; clear n0_ n1_ hbox hoth hbel) | ((with_reducible refine Gv.gate_load (t := 75) rfl ?_); (try (refine gate_guard (by rfl) ?_; dsimp only)); refine wpList_load_row rfl 75 _ rfl gb419 rfl 75 _ _ _ (Gv.kbp BK419.out) Try.underlying75 rfl (by kernel_rfl) ?_))
 (try simp only [Act.put, List.setIfInBounds_toArray, List.set_cons_zero, List.set_cons_succ])
 go_cut [25] (fun v25 wc => ∃ (kq : Nat) (x25_1 : Bool), v25 = .bool x25_1 ∧ Aside0 (impl_TableOk.j0 kq x25_1 a0_0 l0_1 = some r) ∧ Aside0 (kq ≤ k) ∧ Aside0 (wc.heap[gb414]? = some (.cells #[.int .i64 a0_0, (.slice A0_1 l0_1.length c0_1)] 40 (0, 0))) ∧ Aside0 (Below w.heap.size w wc))
 case first =>
  have H := HC2.out
  clear HC2
  replace H := Option.bind_eq_some_iff.mp H
  obtain ⟨t415, A40, H⟩ := H
  replace H : (if t415 = true then ((impl_isCells.f (l0_1.length : Int)).bind fun t416 => (if t416 = true then ((impl_Table_used.f k a0_0 l0_1).bind fun t417 => (impl_TableOk.j0 k (decide ((wrap64 (4 * t417)) > (wrap64 (3 * (l0_1.length : Int))))) a0_0 l0_1)) else (impl_TableOk.j0 k true a0_0 l0_1))) else (impl_TableOk.j0 k true a0_0 l0_1)) = some r := H
  have A4 := Gv.a0 A40
  clear A40
  by_cases c5 : t415 = true
  ·subst c5
   have H1 : ((impl_isCells.f (l0_1.length : Int)).bind fun t416 => (if t416 = true then ((impl_Table_used.f k a0_0 l0_1).bind fun t417 => (impl_TableOk.j0 k (decide ((wrap64 (4 * t417)) > (wrap64 (3 * (l0_1.length : Int))))) a0_0 l0_1)) else (impl_TableOk.j0 k true a0_0 l0_1))) = some r := by rw [if_pos rfl] at H; exact H
   clear H
   have H := H1
   clear H1
   replace H := Option.bind_eq_some_iff.mp H
   obtain ⟨t416, A60, H⟩ := H
   replace H : (if t416 = true then ((impl_Table_used.f k a0_0 l0_1).bind fun t417 => (impl_TableOk.j0 k (decide ((wrap64 (4 * t417)) > (wrap64 (3 * (l0_1.length : Int))))) a0_0 l0_1)) else (impl_TableOk.j0 k true a0_0 l0_1)) = some r := H
   have A6 := Gv.a0 A60
   clear A60
   by_cases c7 : t416 = true
   ·subst c7
    have H1 : ((impl_Table_used.f k a0_0 l0_1).bind fun t417 => (impl_TableOk.j0 k (decide ((wrap64 (4 * t417)) > (wrap64 (3 * (l0_1.length : Int))))) a0_0 l0_1)) = some r := by rw [if_pos rfl] at H; exact H
    clear H
    have H := H1
    clear H1
    replace H := Option.bind_eq_some_iff.mp H
    obtain ⟨t417, A80, H⟩ := H
    replace H : (impl_TableOk.j0 k (decide ((wrap64 (4 * t417)) > (wrap64 (3 * (l0_1.length : Int))))) a0_0 l0_1) = some r := H
    have A8 := Gv.a0 A80
    clear A80
    have H' := Gv.a0 H
    clear H
    try go_wp2
    have n0_ := Gv.a0 (blk_drew BK414.out)
    have n1_ := Gv.a0 (below_drew1 HB.out)
    clear BK414
    clear HB
    have BK414 := n0_
    have HB := n1_
    clear n0_ n1_
    refine start_ (n := 21) (S := fun w' => w'.cell? ⟨gb414, 0, none⟩ = some (.int .i64 a0_0) ∧ w'.cell? ⟨gb414, 1, none⟩ = some (.slice A0_1 l0_1.length c0_1)) (ds := []) #[false, false, false, false, false, false, false, false, false, false, false, false, false, false, false, false, false, false, false, false, false] (by kernel_rfl) rfl rfl ⟨(blk_cell BK414.out 0).trans rfl, (blk_cell BK414.out 1).trans rfl⟩ (fun hHeld => ?_); refine with_tabW impl_TableOk.tab1 impl_TableOk.bits1 (fun HT_ HW_ => ?_)
    generalize w3.drew = w9 at BK414 HB hHeld ⊢
    refine pure_ (i := 0) (N := some 5) (v := ?_) (a' := ?_) #[true, false, false, false, false, false, false, false, false, false, false, false, false, false, false, false, false, false, false, false, false] rfl rfl (any_of HT_.out (by kernel_rfl)) (fun _ _ _ h => h) (Or.inl ⟨by rfl, ?_⟩) ?_ ?_
    rotate_left
    ·intro w'
     go_simp
     with_reducible rfl
    rotate_left
    ·simp only [Act.put, List.setIfInBounds_toArray, List.set_cons_zero, List.set_cons_succ, i64_w, i32_w]
     rfl
    refine take_ (i := 1) (N := some 6) (v := ?_) (a' := ?_) #[true, true, false, false, false, false, false, false, false, false, false, false, false, false, false, false, false, false, false, false, false] rfl rfl (take_ofW HT_.out HW_.out (by kernel_rfl)) (fun _ _ _ h => h) (Or.inl ⟨by rfl, ?_⟩) hHeld ?_ ?_
    rotate_left
    ·rintro w' ⟨s0, s1⟩
     go_simp
     with_reducible rfl
    rotate_left
    ·simp only [Act.put, List.setIfInBounds_toArray, List.set_cons_zero, List.set_cons_succ, i64_w, i32_w]
     rfl
    refine one_ (i := 2) (N := some 7) #[true, true, true, false, false, false, false, false, false, false, false, false, false, false, false, false, false, false, false, false, false] rfl rfl (one_of HT_.out (by kernel_rfl)) (by decide) (fun K hK => ?_)
    refine goes_ Try.func44 (by kernel_rfl) rfl #[.int .i64 a0_0, .int .i64 0, .int .i64 4294967295] (by rfl) rfl rfl Gv.lm ?_
    with_reducible refine (impl_within.calls a0_0 0 4294967295 true _ A4.out).mono ?_
    rintro e w' ⟨rfl, ⟨nd, rfl⟩⟩
    refine ⟨_, rfl, ?_⟩
    refine hK.out _ _ ⟨(blk_cell BK414.out 0).trans rfl, (blk_cell BK414.out 1).trans rfl⟩ (fun hHeld => ?_)
    clear hK K
    refine norm_ (a' := ?_) ?_ ?_
    rotate_left
    ·show Act.put _ (some 7) _ = _
     simp only [Act.put, List.setIfInBounds_toArray, List.set_cons_zero, List.set_cons_succ, i64_w, i32_w]
     rfl
    refine pure_ (i := 3) (N := some 8) (v := ?_) (a' := ?_) #[true, true, true, true, false, false, false, false, false, false, false, false, false, false, false, false, false, false, false, false, false] rfl rfl (any_of HT_.out (by kernel_rfl)) (fun _ _ _ h => h) (Or.inl ⟨by rfl, ?_⟩) ?_ ?_
    rotate_left
    ·intro w'
     go_simp
     with_reducible rfl
    rotate_left
    ·simp only [Act.put, List.setIfInBounds_toArray, List.set_cons_zero, List.set_cons_succ, i64_w, i32_w]
     rfl
    refine pure_ (i := 4) (N := some 9) (v := ?_) (a' := ?_) #[true, true, true, true, true, false, false, false, false, false, false, false, false, false, false, false, false, false, false, false, false] rfl rfl (any_of HT_.out (by kernel_rfl)) (fun _ _ _ h => h) (Or.inl ⟨by rfl, ?_⟩) ?_ ?_
    rotate_left
    ·intro w'
     go_simp
     with_reducible rfl
    rotate_left
    ·simp only [Act.put, List.setIfInBounds_toArray, List.set_cons_zero, List.set_cons_succ, i64_w, i32_w]
     rfl
    refine pure_ (i := 5) (N := some 10) (v := ?_) (a' := ?_) #[true, true, true, true, true, true, false, false, false, false, false, false, false, false, false, false, false, false, false, false, false] rfl rfl (any_of HT_.out (by kernel_rfl)) (fun _ _ _ h => h) (Or.inl ⟨by rfl, ?_⟩) ?_ ?_
    rotate_left
    ·intro w'
     go_simp
     with_reducible rfl
    rotate_left
    ·simp only [Act.put, List.setIfInBounds_toArray, List.set_cons_zero, List.set_cons_succ, i64_w, i32_w]
     rfl
    refine take_ (i := 6) (N := some 11) (v := ?_) (a' := ?_) #[true, true, true, true, true, true, true, false, false, false, false, false, false, false, false, false, false, false, false, false, false] rfl rfl (take_ofW HT_.out HW_.out (by kernel_rfl)) (fun _ _ _ h => h) (Or.inl ⟨by rfl, ?_⟩) hHeld ?_ ?_
    rotate_left
    ·rintro w' ⟨s0, s1⟩
     go_simp
     with_reducible rfl
    rotate_left
    ·simp only [Act.put, List.setIfInBounds_toArray, List.set_cons_zero, List.set_cons_succ, i64_w, i32_w]
     rfl
    refine pure_ (i := 7) (N := some 12) (v := ?_) (a' := ?_) #[true, true, true, true, true, true, true, true, false, false, false, false, false, false, false, false, false, false, false, false, false] rfl rfl (any_of HT_.out (by kernel_rfl)) (fun _ _ _ h => h) (Or.inl ⟨by rfl, ?_⟩) ?_ ?_
    rotate_left
    ·intro w'
     go_simp
     with_reducible rfl
    rotate_left
    ·simp only [Act.put, List.setIfInBounds_toArray, List.set_cons_zero, List.set_cons_succ, i64_w, i32_w]
     rfl
    refine one_ (i := 8) (N := some 13) #[true, true, true, true, true, true, true, true, true, false, false, false, false, false, false, false, false, false, false, false, false] rfl rfl (one_of HT_.out (by kernel_rfl)) (by decide) (fun K hK => ?_)
    refine goes_ Try.func48 (by kernel_rfl) rfl #[.int .i64 (l0_1.length : Int)] (by rfl) rfl rfl Gv.lm ?_
    with_reducible refine (impl_isCells.calls (l0_1.length : Int) true _ A6.out).mono ?_
    rintro e w' ⟨rfl, ⟨nd, rfl⟩⟩
    refine ⟨_, rfl, ?_⟩
    refine hK.out _ _ ⟨(blk_cell BK414.out 0).trans rfl, (blk_cell BK414.out 1).trans rfl⟩ (fun hHeld => ?_)
    clear hK K
    refine norm_ (a' := ?_) ?_ ?_
    rotate_left
    ·show Act.put _ (some 13) _ = _
     simp only [Act.put, List.setIfInBounds_toArray, List.set_cons_zero, List.set_cons_succ, i64_w, i32_w]
     rfl
    refine pure_ (i := 9) (N := some 14) (v := ?_) (a' := ?_) #[true, true, true, true, true, true, true, true, true, true, false, false, false, false, false, false, false, false, false, false, false] rfl rfl (any_of HT_.out (by kernel_rfl)) (fun _ _ _ h => h) (Or.inl ⟨by rfl, ?_⟩) ?_ ?_
    rotate_left
    ·intro w'
     go_simp
     with_reducible rfl
    rotate_left
    ·simp only [Act.put, List.setIfInBounds_toArray, List.set_cons_zero, List.set_cons_succ, i64_w, i32_w]
     rfl
    refine pure_ (i := 10) (N := some 15) (v := ?_) (a' := ?_) #[true, true, true, true, true, true, true, true, true, true, true, false, false, false, false, false, false, false, false, false, false] rfl rfl (any_of HT_.out (by kernel_rfl)) (fun _ _ _ h => h) (Or.inl ⟨by rfl, ?_⟩) ?_ ?_
    rotate_left
    ·intro w'
     go_simp
     with_reducible rfl
    rotate_left
    ·simp only [Act.put, List.setIfInBounds_toArray, List.set_cons_zero, List.set_cons_succ, i64_w, i32_w]
     rfl
    refine pure_ (i := 11) (N := some 16) (v := ?_) (a' := ?_) #[true, true, true, true, true, true, true, true, true, true, true, true, false, false, false, false, false, false, false, false, false] rfl rfl (any_of HT_.out (by kernel_rfl)) (fun _ _ _ h => h) (Or.inl ⟨by rfl, ?_⟩) ?_ ?_
    rotate_left
    ·intro w'
     go_simp
     with_reducible rfl
    rotate_left
    ·simp only [Act.put, List.setIfInBounds_toArray, List.set_cons_zero, List.set_cons_succ, i64_w, i32_w]
     rfl
    refine pure_ (i := 15) (N := some 20) (v := ?_) (a' := ?_) #[true, true, true, true, true, true, true, true, true, true, true, true, false, false, false, true, false, false, false, false, false] rfl rfl (any_of HT_.out (by kernel_rfl)) (fun _ _ _ h => h) (Or.inl ⟨by rfl, ?_⟩) ?_ ?_
    rotate_left
    ·intro w'
     go_simp
     with_reducible rfl
    rotate_left
    ·simp only [Act.put, List.setIfInBounds_toArray, List.set_cons_zero, List.set_cons_succ, i64_w, i32_w]
     rfl
    refine take_ (i := 12) (N := some 17) (v := ?_) (a' := ?_) #[true, true, true, true, true, true, true, true, true, true, true, true, true, false, false, true, false, false, false, false, false] rfl rfl (take_ofW HT_.out HW_.out (by kernel_rfl)) (fun _ _ _ h => h) (Or.inl ⟨by rfl, ?_⟩) hHeld ?_ ?_
    rotate_left
    ·rintro w' ⟨s0, s1⟩
     go_simp
     with_reducible rfl
    rotate_left
    ·simp only [Act.put, List.setIfInBounds_toArray, List.set_cons_zero, List.set_cons_succ, i64_w, i32_w]
     rfl
    refine take_ (i := 16) (N := some 21) (v := ?_) (a' := ?_) #[true, true, true, true, true, true, true, true, true, true, true, true, true, false, false, true, true, false, false, false, false] rfl rfl (take_ofW HT_.out HW_.out (by kernel_rfl)) (fun _ _ _ h => h) (Or.inl ⟨by rfl, ?_⟩) hHeld ?_ ?_
    rotate_left
    ·rintro w' ⟨s0, s1⟩
     go_simp
     with_reducible rfl
    rotate_left
    ·simp only [Act.put, List.setIfInBounds_toArray, List.set_cons_zero, List.set_cons_succ, i64_w, i32_w]
     rfl
    refine pure_ (i := 17) (N := some 22) (v := ?_) (a' := ?_) #[true, true, true, true, true, true, true, true, true, true, true, true, true, false, false, true, true, true, false, false, false] rfl rfl (any_of HT_.out (by kernel_rfl)) (fun _ _ _ h => h) (Or.inl ⟨by rfl, ?_⟩) ?_ ?_
    rotate_left
    ·intro w'
     go_simp
     with_reducible rfl
    rotate_left
    ·simp only [Act.put, List.setIfInBounds_toArray, List.set_cons_zero, List.set_cons_succ, i64_w, i32_w]
     rfl
    refine pure_ (i := 18) (N := some 23) (v := ?_) (a' := ?_) #[true, true, true, true, true, true, true, true, true, true, true, true, true, false, false, true, true, true, true, false, false] rfl rfl (any_of HT_.out (by kernel_rfl)) (fun _ _ _ h => h) (Or.inl ⟨by rfl, ?_⟩) ?_ ?_
    rotate_left
    ·intro w'
     go_simp
     with_reducible rfl
    rotate_left
    ·simp only [Act.put, List.setIfInBounds_toArray, List.set_cons_zero, List.set_cons_succ, i64_w, i32_w]
     rfl
    refine one_ (i := 13) (N := some 18) #[true, true, true, true, true, true, true, true, true, true, true, true, true, true, false, true, true, true, true, false, false] rfl rfl (one_of HT_.out (by kernel_rfl)) (by decide) (fun K hK => ?_)
    refine goes_ Try.func57 (by kernel_rfl) rfl #[.agg #[.int .i64 a0_0, .slice A0_1 l0_1.length c0_1]] (by rfl) rfl rfl Gv.lm ?_
    with_reducible refine (impl_Table_used.calls k a0_0 _ _ l0_1 t417 _ ?side1 ?side2 A8.out).mono ?_
    (case side1 => repeat (first | exact (Kd.C_below HR0_1.out Gv.bw) | (with_reducible refine Kd.C_alloc ?_ _) | (with_reducible refine Kd.C_drewN ?_ _) | (with_reducible refine Kd.C_drew ?_)))
    (case side2 => exact HC0_1.out)
    rintro e w10 ⟨rfl, hb⟩
    refine ⟨_, rfl, ?_⟩
    have n0_ := Gv.a0 (Gv.bb BK414.out hb)
    have n1_ := Gv.a0 (below_step Gv.bw hb)
    clear BK414
    clear HB
    have BK414 := n0_
    have HB := n1_
    clear n0_ n1_
    (try clear hb)
    (try clear hb2)
    (try clear hk)
    (try clear hi)
    refine hK.out _ _ ⟨(blk_cell BK414.out 0).trans rfl, (blk_cell BK414.out 1).trans rfl⟩ (fun hHeld => ?_)
    clear hK K
    refine norm_ (a' := ?_) ?_ ?_
    rotate_left
    ·show Act.put _ (some 18) _ = _
     simp only [Act.put, List.setIfInBounds_toArray, List.set_cons_zero, List.set_cons_succ, i64_w, i32_w]
     rfl
    refine pure_ (i := 14) (N := some 19) (v := ?_) (a' := ?_) #[true, true, true, true, true, true, true, true, true, true, true, true, true, true, true, true, true, true, true, false, false] rfl rfl (any_of HT_.out (by kernel_rfl)) (fun _ _ _ h => h) (Or.inl ⟨by rfl, ?_⟩) ?_ ?_
    rotate_left
    ·intro w'
     go_simp
     with_reducible rfl
    rotate_left
    ·simp only [Act.put, List.setIfInBounds_toArray, List.set_cons_zero, List.set_cons_succ, i64_w, i32_w]
     rfl
    refine pure_ (i := 19) (N := some 24) (v := ?_) (a' := ?_) #[true, true, true, true, true, true, true, true, true, true, true, true, true, true, true, true, true, true, true, true, false] rfl rfl (any_of HT_.out (by kernel_rfl)) (fun _ _ _ h => h) (Or.inl ⟨by rfl, ?_⟩) ?_ ?_
    rotate_left
    ·intro w'
     go_simp
     with_reducible rfl
    rotate_left
    ·simp only [Act.put, List.setIfInBounds_toArray, List.set_cons_zero, List.set_cons_succ, i64_w, i32_w]
     rfl
    refine pure_ (i := 20) (N := some 25) (v := ?_) (a' := ?_) #[true, true, true, true, true, true, true, true, true, true, true, true, true, true, true, true, true, true, true, true, true] rfl rfl (any_of HT_.out (by kernel_rfl)) (fun _ _ _ h => h) (Or.inl ⟨by rfl, ?_⟩) ?_ ?_
    rotate_left
    ·intro w'
     go_simp
     with_reducible rfl
    rotate_left
    ·simp only [Act.put, List.setIfInBounds_toArray, List.set_cons_zero, List.set_cons_succ, i64_w, i32_w]
     rfl
    refine done_ (done_of HT_.out (by kernel_rfl)) ?_
    try go_wp2
    go_meet
    case rel => exact ⟨_, (decide ((wrap64 (4 * t417)) > (wrap64 (3 * (l0_1.length : Int))))), (by first | rfl | (simp; done) | (simp [Int.tdiv_eq_ediv_of_nonneg]; done) | (simp [*]; done)), H', ⟨by first | omega | exact Nat.le_refl _⟩, ⟨by (with_reducible repeat (first | refine blk_drewN ?_ _ | refine blk_drew ?_ | refine blk_alloc ?_ _)); exact BK414.out⟩, ⟨by repeat (first | (with_reducible first | exact HB.out | apply below_alloc | apply pw_below_drewN | apply below_drew1 | refine below_set ?_ GE414.out) | exact HB.out)⟩⟩
   ·replace c7 := Bool.eq_false_iff.mpr c7
    subst c7
    have H1 : (impl_TableOk.j0 k true a0_0 l0_1) = some r := by rw [if_neg (show ¬ (false = true) by decide)] at H; exact H
    clear H
    have H := H1
    clear H1
    have H' := Gv.a0 H
    clear H
    try go_wp2
    have n0_ := Gv.a0 (blk_drew BK414.out)
    have n1_ := Gv.a0 (below_drew1 HB.out)
    clear BK414
    clear HB
    have BK414 := n0_
    have HB := n1_
    clear n0_ n1_
    refine start_ (n := 21) (S := fun w' => w'.cell? ⟨gb414, 0, none⟩ = some (.int .i64 a0_0) ∧ w'.cell? ⟨gb414, 1, none⟩ = some (.slice A0_1 l0_1.length c0_1)) (ds := []) #[false, false, false, false, false, false, false, false, false, false, false, false, false, false, false, false, false, false, false, false, false] (by kernel_rfl) rfl rfl ⟨(blk_cell BK414.out 0).trans rfl, (blk_cell BK414.out 1).trans rfl⟩ (fun hHeld => ?_); refine with_tabW impl_TableOk.tab1 impl_TableOk.bits1 (fun HT_ HW_ => ?_)
    generalize w3.drew = w11 at BK414 HB hHeld ⊢
    refine pure_ (i := 0) (N := some 5) (v := ?_) (a' := ?_) #[true, false, false, false, false, false, false, false, false, false, false, false, false, false, false, false, false, false, false, false, false] rfl rfl (any_of HT_.out (by kernel_rfl)) (fun _ _ _ h => h) (Or.inl ⟨by rfl, ?_⟩) ?_ ?_
    rotate_left
    ·intro w'
     go_simp
     with_reducible rfl
    rotate_left
    ·simp only [Act.put, List.setIfInBounds_toArray, List.set_cons_zero, List.set_cons_succ, i64_w, i32_w]
     rfl
    refine take_ (i := 1) (N := some 6) (v := ?_) (a' := ?_) #[true, true, false, false, false, false, false, false, false, false, false, false, false, false, false, false, false, false, false, false, false] rfl rfl (take_ofW HT_.out HW_.out (by kernel_rfl)) (fun _ _ _ h => h) (Or.inl ⟨by rfl, ?_⟩) hHeld ?_ ?_
    rotate_left
    ·rintro w' ⟨s0, s1⟩
     go_simp
     with_reducible rfl
    rotate_left
    ·simp only [Act.put, List.setIfInBounds_toArray, List.set_cons_zero, List.set_cons_succ, i64_w, i32_w]
     rfl
    refine one_ (i := 2) (N := some 7) #[true, true, true, false, false, false, false, false, false, false, false, false, false, false, false, false, false, false, false, false, false] rfl rfl (one_of HT_.out (by kernel_rfl)) (by decide) (fun K hK => ?_)
    refine goes_ Try.func44 (by kernel_rfl) rfl #[.int .i64 a0_0, .int .i64 0, .int .i64 4294967295] (by rfl) rfl rfl Gv.lm ?_
    with_reducible refine (impl_within.calls a0_0 0 4294967295 true _ A4.out).mono ?_
    rintro e w' ⟨rfl, ⟨nd, rfl⟩⟩
    refine ⟨_, rfl, ?_⟩
    refine hK.out _ _ ⟨(blk_cell BK414.out 0).trans rfl, (blk_cell BK414.out 1).trans rfl⟩ (fun hHeld => ?_)
    clear hK K
    refine norm_ (a' := ?_) ?_ ?_
    rotate_left
    ·show Act.put _ (some 7) _ = _
     simp only [Act.put, List.setIfInBounds_toArray, List.set_cons_zero, List.set_cons_succ, i64_w, i32_w]
     rfl
    refine pure_ (i := 3) (N := some 8) (v := ?_) (a' := ?_) #[true, true, true, true, false, false, false, false, false, false, false, false, false, false, false, false, false, false, false, false, false] rfl rfl (any_of HT_.out (by kernel_rfl)) (fun _ _ _ h => h) (Or.inl ⟨by rfl, ?_⟩) ?_ ?_
    rotate_left
    ·intro w'
     go_simp
     with_reducible rfl
    rotate_left
    ·simp only [Act.put, List.setIfInBounds_toArray, List.set_cons_zero, List.set_cons_succ, i64_w, i32_w]
     rfl
    refine pure_ (i := 4) (N := some 9) (v := ?_) (a' := ?_) #[true, true, true, true, true, false, false, false, false, false, false, false, false, false, false, false, false, false, false, false, false] rfl rfl (any_of HT_.out (by kernel_rfl)) (fun _ _ _ h => h) (Or.inl ⟨by rfl, ?_⟩) ?_ ?_
    rotate_left
    ·intro w'
     go_simp
     with_reducible rfl
    rotate_left
    ·simp only [Act.put, List.setIfInBounds_toArray, List.set_cons_zero, List.set_cons_succ, i64_w, i32_w]
     rfl
    refine pure_ (i := 5) (N := some 10) (v := ?_) (a' := ?_) #[true, true, true, true, true, true, false, false, false, false, false, false, false, false, false, false, false, false, false, false, false] rfl rfl (any_of HT_.out (by kernel_rfl)) (fun _ _ _ h => h) (Or.inl ⟨by rfl, ?_⟩) ?_ ?_
    rotate_left
    ·intro w'
     go_simp
     with_reducible rfl
    rotate_left
    ·simp only [Act.put, List.setIfInBounds_toArray, List.set_cons_zero, List.set_cons_succ, i64_w, i32_w]
     rfl
    refine take_ (i := 6) (N := some 11) (v := ?_) (a' := ?_) #[true, true, true, true, true, true, true, false, false, false, false, false, false, false, false, false, false, false, false, false, false] rfl rfl (take_ofW HT_.out HW_.out (by kernel_rfl)) (fun _ _ _ h => h) (Or.inl ⟨by rfl, ?_⟩) hHeld ?_ ?_
    rotate_left
    ·rintro w' ⟨s0, s1⟩
     go_simp
     with_reducible rfl
    rotate_left
    ·simp only [Act.put, List.setIfInBounds_toArray, List.set_cons_zero, List.set_cons_succ, i64_w, i32_w]
     rfl
    refine pure_ (i := 7) (N := some 12) (v := ?_) (a' := ?_) #[true, true, true, true, true, true, true, true, false, false, false, false, false, false, false, false, false, false, false, false, false] rfl rfl (any_of HT_.out (by kernel_rfl)) (fun _ _ _ h => h) (Or.inl ⟨by rfl, ?_⟩) ?_ ?_
    rotate_left
    ·intro w'
     go_simp
     with_reducible rfl
    rotate_left
    ·simp only [Act.put, List.setIfInBounds_toArray, List.set_cons_zero, List.set_cons_succ, i64_w, i32_w]
     rfl
    refine one_ (i := 8) (N := some 13) #[true, true, true, true, true, true, true, true, true, false, false, false, false, false, false, false, false, false, false, false, false] rfl rfl (one_of HT_.out (by kernel_rfl)) (by decide) (fun K hK => ?_)
    refine goes_ Try.func48 (by kernel_rfl) rfl #[.int .i64 (l0_1.length : Int)] (by rfl) rfl rfl Gv.lm ?_
    with_reducible refine (impl_isCells.calls (l0_1.length : Int) false _ A6.out).mono ?_
    rintro e w' ⟨rfl, ⟨nd, rfl⟩⟩
    refine ⟨_, rfl, ?_⟩
    refine hK.out _ _ ⟨(blk_cell BK414.out 0).trans rfl, (blk_cell BK414.out 1).trans rfl⟩ (fun hHeld => ?_)
    clear hK K
    refine norm_ (a' := ?_) ?_ ?_
    rotate_left
    ·show Act.put _ (some 13) _ = _
     simp only [Act.put, List.setIfInBounds_toArray, List.set_cons_zero, List.set_cons_succ, i64_w, i32_w]
     rfl
    refine pure_ (i := 9) (N := some 14) (v := ?_) (a' := ?_) #[true, true, true, true, true, true, true, true, true, true, false, false, false, false, false, false, false, false, false, false, false] rfl rfl (any_of HT_.out (by kernel_rfl)) (fun _ _ _ h => h) (Or.inl ⟨by rfl, ?_⟩) ?_ ?_
    rotate_left
    ·intro w'
     go_simp
     with_reducible rfl
    rotate_left
    ·simp only [Act.put, List.setIfInBounds_toArray, List.set_cons_zero, List.set_cons_succ, i64_w, i32_w]
     rfl
    refine pure_ (i := 10) (N := some 15) (v := ?_) (a' := ?_) #[true, true, true, true, true, true, true, true, true, true, true, false, false, false, false, false, false, false, false, false, false] rfl rfl (any_of HT_.out (by kernel_rfl)) (fun _ _ _ h => h) (Or.inl ⟨by rfl, ?_⟩) ?_ ?_
    rotate_left
    ·intro w'
     go_simp
     with_reducible rfl
    rotate_left
    ·simp only [Act.put, List.setIfInBounds_toArray, List.set_cons_zero, List.set_cons_succ, i64_w, i32_w]
     rfl
    refine pure_ (i := 11) (N := some 16) (v := ?_) (a' := ?_) #[true, true, true, true, true, true, true, true, true, true, true, true, false, false, false, false, false, false, false, false, false] rfl rfl (any_of HT_.out (by kernel_rfl)) (fun _ _ _ h => h) (Or.inl ⟨by rfl, ?_⟩) ?_ ?_
    rotate_left
    ·intro w'
     go_simp
     with_reducible rfl
    rotate_left
    ·simp only [Act.put, List.setIfInBounds_toArray, List.set_cons_zero, List.set_cons_succ, i64_w, i32_w]
     rfl
    refine pure_ (i := 12) (N := some 17) (v := undef) (a' := ?_) #[true, true, true, true, true, true, true, true, true, true, true, true, true, false, false, false, false, false, false, false, false] rfl rfl (any_of HT_.out (by kernel_rfl)) (fun _ _ _ h => h) (Or.inr ⟨by rfl, rfl⟩) ?_ ?_
    rotate_left
    ·simp only [Act.put, List.setIfInBounds_toArray, List.set_cons_zero, List.set_cons_succ, i64_w, i32_w]
     rfl
    refine pure_ (i := 13) (N := some 18) (v := undef) (a' := ?_) #[true, true, true, true, true, true, true, true, true, true, true, true, true, true, false, false, false, false, false, false, false] rfl rfl (any_of HT_.out (by kernel_rfl)) (fun _ _ _ h => h) (Or.inr ⟨by rfl, rfl⟩) ?_ ?_
    rotate_left
    ·simp only [Act.put, List.setIfInBounds_toArray, List.set_cons_zero, List.set_cons_succ, i64_w, i32_w]
     rfl
    refine pure_ (i := 14) (N := some 19) (v := undef) (a' := ?_) #[true, true, true, true, true, true, true, true, true, true, true, true, true, true, true, false, false, false, false, false, false] rfl rfl (any_of HT_.out (by kernel_rfl)) (fun _ _ _ h => h) (Or.inr ⟨by rfl, rfl⟩) ?_ ?_
    rotate_left
    ·simp only [Act.put, List.setIfInBounds_toArray, List.set_cons_zero, List.set_cons_succ, i64_w, i32_w]
     rfl
    refine pure_ (i := 15) (N := some 20) (v := undef) (a' := ?_) #[true, true, true, true, true, true, true, true, true, true, true, true, true, true, true, true, false, false, false, false, false] rfl rfl (any_of HT_.out (by kernel_rfl)) (fun _ _ _ h => h) (Or.inr ⟨by rfl, rfl⟩) ?_ ?_
    rotate_left
    ·simp only [Act.put, List.setIfInBounds_toArray, List.set_cons_zero, List.set_cons_succ, i64_w, i32_w]
     rfl
    refine pure_ (i := 16) (N := some 21) (v := undef) (a' := ?_) #[true, true, true, true, true, true, true, true, true, true, true, true, true, true, true, true, true, false, false, false, false] rfl rfl (any_of HT_.out (by kernel_rfl)) (fun _ _ _ h => h) (Or.inr ⟨by rfl, rfl⟩) ?_ ?_
    rotate_left
    ·simp only [Act.put, List.setIfInBounds_toArray, List.set_cons_zero, List.set_cons_succ, i64_w, i32_w]
     rfl
    refine pure_ (i := 17) (N := some 22) (v := undef) (a' := ?_) #[true, true, true, true, true, true, true, true, true, true, true, true, true, true, true, true, true, true, false, false, false] rfl rfl (any_of HT_.out (by kernel_rfl)) (fun _ _ _ h => h) (Or.inr ⟨by rfl, rfl⟩) ?_ ?_
    rotate_left
    ·simp only [Act.put, List.setIfInBounds_toArray, List.set_cons_zero, List.set_cons_succ, i64_w, i32_w]
     rfl
    refine pure_ (i := 18) (N := some 23) (v := undef) (a' := ?_) #[true, true, true, true, true, true, true, true, true, true, true, true, true, true, true, true, true, true, true, false, false] rfl rfl (any_of HT_.out (by kernel_rfl)) (fun _ _ _ h => h) (Or.inr ⟨by rfl, rfl⟩) ?_ ?_
    rotate_left
    ·simp only [Act.put, List.setIfInBounds_toArray, List.set_cons_zero, List.set_cons_succ, i64_w, i32_w]
     rfl
    refine pure_ (i := 19) (N := some 24) (v := undef) (a' := ?_) #[true, true, true, true, true, true, true, true, true, true, true, true, true, true, true, true, true, true, true, true, false] rfl rfl (any_of HT_.out (by kernel_rfl)) (fun _ _ _ h => h) (Or.inr ⟨by rfl, rfl⟩) ?_ ?_
    rotate_left
    ·simp only [Act.put, List.setIfInBounds_toArray, List.set_cons_zero, List.set_cons_succ, i64_w, i32_w]
     rfl
    refine pure_ (i := 20) (N := some 25) (v := ?_) (a' := ?_) #[true, true, true, true, true, true, true, true, true, true, true, true, true, true, true, true, true, true, true, true, true] rfl rfl (any_of HT_.out (by kernel_rfl)) (fun _ _ _ h => h) (Or.inl ⟨by rfl, ?_⟩) ?_ ?_
    rotate_left
    ·intro w'
     go_simp
     with_reducible rfl
    rotate_left
    ·simp only [Act.put, List.setIfInBounds_toArray, List.set_cons_zero, List.set_cons_succ, i64_w, i32_w]
     rfl
    refine done_ (done_of HT_.out (by kernel_rfl)) ?_
    try go_wp2
    go_meet
    case rel => exact ⟨_, (true), (by first | rfl | (simp; done) | (simp [Int.tdiv_eq_ediv_of_nonneg]; done) | (simp [*]; done)), H', ⟨by first | omega | exact Nat.le_refl _⟩, ⟨by (with_reducible repeat (first | refine blk_drewN ?_ _ | refine blk_drew ?_ | refine blk_alloc ?_ _)); exact BK414.out⟩, ⟨by repeat (first | (with_reducible first | exact HB.out | apply below_alloc | apply pw_below_drewN | apply below_drew1 | refine below_set ?_ GE414.out) | exact HB.out)⟩⟩
  ·replace c5 := Bool.eq_false_iff.mpr c5
   subst c5
   have H1 : (impl_TableOk.j0 k true a0_0 l0_1) = some r := by rw [if_neg (show ¬ (false = true) by decide)] at H; exact H
   clear H
   have H := H1
   clear H1
   have H' := Gv.a0 H
   clear H
   try go_wp2
   have n0_ := Gv.a0 (blk_drew BK414.out)
   have n1_ := Gv.a0 (below_drew1 HB.out)
   clear BK414
   clear HB
   have BK414 := n0_
   have HB := n1_
   clear n0_ n1_
   refine start_ (n := 21) (S := fun w' => w'.cell? ⟨gb414, 0, none⟩ = some (.int .i64 a0_0) ∧ w'.cell? ⟨gb414, 1, none⟩ = some (.slice A0_1 l0_1.length c0_1)) (ds := []) #[false, false, false, false, false, false, false, false, false, false, false, false, false, false, false, false, false, false, false, false, false] (by kernel_rfl) rfl rfl ⟨(blk_cell BK414.out 0).trans rfl, (blk_cell BK414.out 1).trans rfl⟩ (fun hHeld => ?_); refine with_tabW impl_TableOk.tab1 impl_TableOk.bits1 (fun HT_ HW_ => ?_)
   generalize w3.drew = w12 at BK414 HB hHeld ⊢
   refine pure_ (i := 0) (N := some 5) (v := ?_) (a' := ?_) #[true, false, false, false, false, false, false, false, false, false, false, false, false, false, false, false, false, false, false, false, false] rfl rfl (any_of HT_.out (by kernel_rfl)) (fun _ _ _ h => h) (Or.inl ⟨by rfl, ?_⟩) ?_ ?_
   rotate_left
   ·intro w'
    go_simp
    with_reducible rfl
   rotate_left
   ·simp only [Act.put, List.setIfInBounds_toArray, List.set_cons_zero, List.set_cons_succ, i64_w, i32_w]
    rfl
   refine take_ (i := 1) (N := some 6) (v := ?_) (a' := ?_) #[true, true, false, false, false, false, false, false, false, false, false, false, false, false, false, false, false, false, false, false, false] rfl rfl (take_ofW HT_.out HW_.out (by kernel_rfl)) (fun _ _ _ h => h) (Or.inl ⟨by rfl, ?_⟩) hHeld ?_ ?_
   rotate_left
   ·rintro w' ⟨s0, s1⟩
    go_simp
    with_reducible rfl
   rotate_left
   ·simp only [Act.put, List.setIfInBounds_toArray, List.set_cons_zero, List.set_cons_succ, i64_w, i32_w]
    rfl
   refine one_ (i := 2) (N := some 7) #[true, true, true, false, false, false, false, false, false, false, false, false, false, false, false, false, false, false, false, false, false] rfl rfl (one_of HT_.out (by kernel_rfl)) (by decide) (fun K hK => ?_)
   refine goes_ Try.func44 (by kernel_rfl) rfl #[.int .i64 a0_0, .int .i64 0, .int .i64 4294967295] (by rfl) rfl rfl Gv.lm ?_
   with_reducible refine (impl_within.calls a0_0 0 4294967295 false _ A4.out).mono ?_
   rintro e w' ⟨rfl, ⟨nd, rfl⟩⟩
   refine ⟨_, rfl, ?_⟩
   refine hK.out _ _ ⟨(blk_cell BK414.out 0).trans rfl, (blk_cell BK414.out 1).trans rfl⟩ (fun hHeld => ?_)
   clear hK K
   refine norm_ (a' := ?_) ?_ ?_
   rotate_left
   ·show Act.put _ (some 7) _ = _
    simp only [Act.put, List.setIfInBounds_toArray, List.set_cons_zero, List.set_cons_succ, i64_w, i32_w]
    rfl
   refine pure_ (i := 3) (N := some 8) (v := ?_) (a' := ?_) #[true, true, true, true, false, false, false, false, false, false, false, false, false, false, false, false, false, false, false, false, false] rfl rfl (any_of HT_.out (by kernel_rfl)) (fun _ _ _ h => h) (Or.inl ⟨by rfl, ?_⟩) ?_ ?_
   rotate_left
   ·intro w'
    go_simp
    with_reducible rfl
   rotate_left
   ·simp only [Act.put, List.setIfInBounds_toArray, List.set_cons_zero, List.set_cons_succ, i64_w, i32_w]
    rfl
   refine pure_ (i := 4) (N := some 9) (v := ?_) (a' := ?_) #[true, true, true, true, true, false, false, false, false, false, false, false, false, false, false, false, false, false, false, false, false] rfl rfl (any_of HT_.out (by kernel_rfl)) (fun _ _ _ h => h) (Or.inl ⟨by rfl, ?_⟩) ?_ ?_
   rotate_left
   ·intro w'
    go_simp
    with_reducible rfl
   rotate_left
   ·simp only [Act.put, List.setIfInBounds_toArray, List.set_cons_zero, List.set_cons_succ, i64_w, i32_w]
    rfl
   refine pure_ (i := 5) (N := some 10) (v := undef) (a' := ?_) #[true, true, true, true, true, true, false, false, false, false, false, false, false, false, false, false, false, false, false, false, false] rfl rfl (any_of HT_.out (by kernel_rfl)) (fun _ _ _ h => h) (Or.inr ⟨by rfl, rfl⟩) ?_ ?_
   rotate_left
   ·simp only [Act.put, List.setIfInBounds_toArray, List.set_cons_zero, List.set_cons_succ, i64_w, i32_w]
    rfl
   refine pure_ (i := 6) (N := some 11) (v := undef) (a' := ?_) #[true, true, true, true, true, true, true, false, false, false, false, false, false, false, false, false, false, false, false, false, false] rfl rfl (any_of HT_.out (by kernel_rfl)) (fun _ _ _ h => h) (Or.inr ⟨by rfl, rfl⟩) ?_ ?_
   rotate_left
   ·simp only [Act.put, List.setIfInBounds_toArray, List.set_cons_zero, List.set_cons_succ, i64_w, i32_w]
    rfl
   refine pure_ (i := 7) (N := some 12) (v := undef) (a' := ?_) #[true, true, true, true, true, true, true, true, false, false, false, false, false, false, false, false, false, false, false, false, false] rfl rfl (any_of HT_.out (by kernel_rfl)) (fun _ _ _ h => h) (Or.inr ⟨by rfl, rfl⟩) ?_ ?_
   rotate_left
   ·simp only [Act.put, List.setIfInBounds_toArray, List.set_cons_zero, List.set_cons_succ, i64_w, i32_w]
    rfl
   refine pure_ (i := 8) (N := some 13) (v := undef) (a' := ?_) #[true, true, true, true, true, true, true, true, true, false, false, false, false, false, false, false, false, false, false, false, false] rfl rfl (any_of HT_.out (by kernel_rfl)) (fun _ _ _ h => h) (Or.inr ⟨by rfl, rfl⟩) ?_ ?_
   rotate_left
   ·simp only [Act.put, List.setIfInBounds_toArray, List.set_cons_zero, List.set_cons_succ, i64_w, i32_w]
    rfl
   refine pure_ (i := 9) (N := some 14) (v := undef) (a' := ?_) #[true, true, true, true, true, true, true, true, true, true, false, false, false, false, false, false, false, false, false, false, false] rfl rfl (any_of HT_.out (by kernel_rfl)) (fun _ _ _ h => h) (Or.inr ⟨by rfl, rfl⟩) ?_ ?_
   rotate_left
   ·simp only [Act.put, List.setIfInBounds_toArray, List.set_cons_zero, List.set_cons_succ, i64_w, i32_w]
    rfl
   refine pure_ (i := 10) (N := some 15) (v := ?_) (a' := ?_) #[true, true, true, true, true, true, true, true, true, true, true, false, false, false, false, false, false, false, false, false, false] rfl rfl (any_of HT_.out (by kernel_rfl)) (fun _ _ _ h => h) (Or.inl ⟨by rfl, ?_⟩) ?_ ?_
   rotate_left
   ·intro w'
    go_simp
    with_reducible rfl
   rotate_left
   ·simp only [Act.put, List.setIfInBounds_toArray, List.set_cons_zero, List.set_cons_succ, i64_w, i32_w]
    rfl
   refine pure_ (i := 11) (N := some 16) (v := ?_) (a' := ?_) #[true, true, true, true, true, true, true, true, true, true, true, true, false, false, false, false, false, false, false, false, false] rfl rfl (any_of HT_.out (by kernel_rfl)) (fun _ _ _ h => h) (Or.inl ⟨by rfl, ?_⟩) ?_ ?_
   rotate_left
   ·intro w'
    go_simp
    with_reducible rfl
   rotate_left
   ·simp only [Act.put, List.setIfInBounds_toArray, List.set_cons_zero, List.set_cons_succ, i64_w, i32_w]
    rfl
   refine pure_ (i := 12) (N := some 17) (v := undef) (a' := ?_) #[true, true, true, true, true, true, true, true, true, true, true, true, true, false, false, false, false, false, false, false, false] rfl rfl (any_of HT_.out (by kernel_rfl)) (fun _ _ _ h => h) (Or.inr ⟨by rfl, rfl⟩) ?_ ?_
   rotate_left
   ·simp only [Act.put, List.setIfInBounds_toArray, List.set_cons_zero, List.set_cons_succ, i64_w, i32_w]
    rfl
   refine pure_ (i := 13) (N := some 18) (v := undef) (a' := ?_) #[true, true, true, true, true, true, true, true, true, true, true, true, true, true, false, false, false, false, false, false, false] rfl rfl (any_of HT_.out (by kernel_rfl)) (fun _ _ _ h => h) (Or.inr ⟨by rfl, rfl⟩) ?_ ?_
   rotate_left
   ·simp only [Act.put, List.setIfInBounds_toArray, List.set_cons_zero, List.set_cons_succ, i64_w, i32_w]
    rfl
   refine pure_ (i := 14) (N := some 19) (v := undef) (a' := ?_) #[true, true, true, true, true, true, true, true, true, true, true, true, true, true, true, false, false, false, false, false, false] rfl rfl (any_of HT_.out (by kernel_rfl)) (fun _ _ _ h => h) (Or.inr ⟨by rfl, rfl⟩) ?_ ?_
   rotate_left
   ·simp only [Act.put, List.setIfInBounds_toArray, List.set_cons_zero, List.set_cons_succ, i64_w, i32_w]
    rfl
   refine pure_ (i := 15) (N := some 20) (v := undef) (a' := ?_) #[true, true, true, true, true, true, true, true, true, true, true, true, true, true, true, true, false, false, false, false, false] rfl rfl (any_of HT_.out (by kernel_rfl)) (fun _ _ _ h => h) (Or.inr ⟨by rfl, rfl⟩) ?_ ?_
   rotate_left
   ·simp only [Act.put, List.setIfInBounds_toArray, List.set_cons_zero, List.set_cons_succ, i64_w, i32_w]
    rfl
   refine pure_ (i := 16) (N := some 21) (v := undef) (a' := ?_) #[true, true, true, true, true, true, true, true, true, true, true, true, true, true, true, true, true, false, false, false, false] rfl rfl (any_of HT_.out (by kernel_rfl)) (fun _ _ _ h => h) (Or.inr ⟨by rfl, rfl⟩) ?_ ?_
   rotate_left
   ·simp only [Act.put, List.setIfInBounds_toArray, List.set_cons_zero, List.set_cons_succ, i64_w, i32_w]
    rfl
   refine pure_ (i := 17) (N := some 22) (v := undef) (a' := ?_) #[true, true, true, true, true, true, true, true, true, true, true, true, true, true, true, true, true, true, false, false, false] rfl rfl (any_of HT_.out (by kernel_rfl)) (fun _ _ _ h => h) (Or.inr ⟨by rfl, rfl⟩) ?_ ?_
   rotate_left
   ·simp only [Act.put, List.setIfInBounds_toArray, List.set_cons_zero, List.set_cons_succ, i64_w, i32_w]
    rfl
   refine pure_ (i := 18) (N := some 23) (v := undef) (a' := ?_) #[true, true, true, true, true, true, true, true, true, true, true, true, true, true, true, true, true, true, true, false, false] rfl rfl (any_of HT_.out (by kernel_rfl)) (fun _ _ _ h => h) (Or.inr ⟨by rfl, rfl⟩) ?_ ?_
   rotate_left
   ·simp only [Act.put, List.setIfInBounds_toArray, List.set_cons_zero, List.set_cons_succ, i64_w, i32_w]
    rfl
   refine pure_ (i := 19) (N := some 24) (v := undef) (a' := ?_) #[true, true, true, true, true, true, true, true, true, true, true, true, true, true, true, true, true, true, true, true, false] rfl rfl (any_of HT_.out (by kernel_rfl)) (fun _ _ _ h => h) (Or.inr ⟨by rfl, rfl⟩) ?_ ?_
   rotate_left
   ·simp only [Act.put, List.setIfInBounds_toArray, List.set_cons_zero, List.set_cons_succ, i64_w, i32_w]
    rfl
   refine pure_ (i := 20) (N := some 25) (v := ?_) (a' := ?_) #[true, true, true, true, true, true, true, true, true, true, true, true, true, true, true, true, true, true, true, true, true] rfl rfl (any_of HT_.out (by kernel_rfl)) (fun _ _ _ h => h) (Or.inl ⟨by rfl, ?_⟩) ?_ ?_
   rotate_left
   ·intro w'
    go_simp
    with_reducible rfl
   rotate_left
   ·simp only [Act.put, List.setIfInBounds_toArray, List.set_cons_zero, List.set_cons_succ, i64_w, i32_w]
    rfl
   refine done_ (done_of HT_.out (by kernel_rfl)) ?_
   try go_wp2
   go_meet
   case rel => exact ⟨_, (true), (by first | rfl | (simp; done) | (simp [Int.tdiv_eq_ediv_of_nonneg]; done) | (simp [*]; done)), H', ⟨by first | omega | exact Nat.le_refl _⟩, ⟨by (with_reducible repeat (first | refine blk_drewN ?_ _ | refine blk_drew ?_ | refine blk_alloc ?_ _)); exact BK414.out⟩, ⟨by repeat (first | (with_reducible first | exact HB.out | apply below_alloc | apply pw_below_drewN | apply below_drew1 | refine below_set ?_ GE414.out) | exact HB.out)⟩⟩
 case rest =>
  clear HC2
  try clear c2
  try clear p2
  try clear c4
  try clear c5
  try clear p6
  try clear c7
  obtain ⟨kq, x25_1, rfl, HA, HJ1, BK414, HB⟩ := hcut
  cases kq with
  | zero => exact absurd HA.out (by simp [impl_TableOk.j0])
  | succ kj1 =>
   have H := HA.out
   clear HA
   simp only [impl_TableOk.j0] at H
   by_cases c13 : x25_1 = true
   ·subst c13
    have H1 : (some false) = some r := by rw [if_pos rfl] at H; exact H
    clear H
    have H := H1
    clear H1
    obtain rfl := Option.some.inj H
    go_wp2_with (first | ((with_reducible refine Gv.gate_load (t := 75) rfl ?_); (try (refine gate_guard (by rfl) ?_; dsimp only)); refine wpList_load_row rfl 75 _ rfl gb419 rfl 75 _ _ _ (Gv.kbp BK419.out) Try.underlying75 rfl (by kernel_rfl) ?_))
    go_ret
    exact ⟨by first | rfl | (simp [errW_none, errW_some] <;> rfl) | (simp [*, errW_none, errW_some] <;> rfl), by repeat (first | (with_reducible first | exact HB.out | apply below_alloc | apply pw_below_drewN | apply below_drew1 | refine below_set ?_ GE414.out) | exact HB.out)⟩
   ·replace c13 := Bool.eq_false_iff.mpr c13
    subst c13
    have H1 : (impl_TableOk.l0 kj1 l0_1 (l0_1.length : Int) 0 a0_0 l0_1) = some r := by rw [if_neg (show ¬ (false = true) by decide)] at H; exact H
    clear H
    have H := H1
    clear H1
    have H' := Gv.a0 H
    clear H
    have hcz14_0 : wc.cell? ⟨gb414, 0, none⟩ = some (.int .i64 a0_0) := (blk_cell BK414.out 0).trans rfl
    have hcz14_1 : wc.cell? ⟨gb414, 1, none⟩ = some (.slice A0_1 l0_1.length c0_1) := (blk_cell BK414.out 1).trans rfl
    have hfz14_0 := blk_frozen BK414.out 0
    have hfz14_1 := blk_frozen BK414.out 1
    go_wp2_with (first | ((with_reducible refine Gv.gate_load (t := 75) rfl ?_); (try (refine gate_guard (by rfl) ?_; dsimp only)); refine wpList_load_row rfl 75 _ rfl gb419 rfl 75 _ _ _ (Gv.kbp BK419.out) Try.underlying75 rfl (by kernel_rfl) ?_))
    go_loopg [29] kj1 (fun kq v29 w' => ∃ (x29_2 : Int), v29 = .int .i64 x29_2 ∧ Aside0 (impl_TableOk.l0 kq l0_1 (l0_1.length : Int) x29_2 a0_0 l0_1 = some r) ∧ Aside0 (kq ≤ kj1) ∧ Aside0 (w'.heap[gb414]? = some (.cells #[.int .i64 a0_0, (.slice A0_1 l0_1.length c0_1)] 40 (0, 0))) ∧ Aside0 (Below w.heap.size w w'))
    case atStart => exact ⟨(0), (by first | rfl | (simp; done) | (simp [Int.tdiv_eq_ediv_of_nonneg]; done) | (simp [*]; done)), H', ⟨Nat.le_refl _⟩, ⟨by (with_reducible repeat (first | refine blk_drewN ?_ _ | refine blk_drew ?_ | refine blk_alloc ?_ _)); exact BK414.out⟩, ⟨by repeat (first | (with_reducible first | exact HB.out | apply below_alloc | apply pw_below_drewN | apply below_drew1 | refine below_set ?_ GE414.out) | exact HB.out)⟩⟩
    case round =>
     clear H'
     try clear c1
     try clear c2
     try clear p2
     try clear c4
     try clear c5
     try clear p6
     try clear c7
     try clear c13
     try clear hcz14_0 hcz14_1
     try clear hfz14_0 hfz14_1
     try clear p2
     try clear p6
     obtain ⟨x29_2, rfl, HA, HK2, BK414, HB⟩ := hrel
     cases gk with
     | zero => exact absurd HA.out (by simp [impl_TableOk.l0])
     | succ k2 =>
      have H := HA.out
      clear HA
      simp only [impl_TableOk.l0] at H
      by_cases c15 : x29_2 < (l0_1.length : Int)
      ·rw [if_pos c15] at H
       have c15b0 : decide (x29_2 < (l0_1.length : Int)) = true := decide_eq_true c15
       clear c15
       by_cases c16 : 0 ≤ x29_2
       ·rw [if_pos c16] at H
        have c16b0 : decide (0 ≤ x29_2) = true := decide_eq_true c16
        clear c16
        by_cases c17 : x29_2 < (l0_1.length : Int)
        ·rw [if_pos c17] at H
         have c17b0 : decide (x29_2 < (l0_1.length : Int)) = true := decide_eq_true c17
         clear c17
         obtain ⟨bq18, hbq18⟩ : ∃ b_ : Bool, b_ = ((rd_T75 l0_1 x29_2).f0) := ⟨_, rfl⟩
         replace H : (if (bq18 = true) then ((impl_FlowKeyOk.f k2 ((rd_T75 l0_1 x29_2).f1.f0) ((rd_T75 l0_1 x29_2).f1.f1.f0.f0) ((rd_T75 l0_1 x29_2).f1.f1.f0.f1) ((rd_T75 l0_1 x29_2).f1.f1.f0.f2) ((rd_T75 l0_1 x29_2).f1.f1.f0.f3) ((rd_T75 l0_1 x29_2).f1.f1.f0.f4) ((rd_T75 l0_1 x29_2).f1.f1.f1.f0) ((rd_T75 l0_1 x29_2).f1.f1.f1.f1) ((rd_T75 l0_1 x29_2).f1.f1.f1.f2) ((rd_T75 l0_1 x29_2).f1.f1.f1.f3) ((rd_T75 l0_1 x29_2).f1.f1.f1.f4) ((rd_T75 l0_1 x29_2).f1.f1.f2) ((rd_T75 l0_1 x29_2).f1.f1.f3) ((rd_T75 l0_1 x29_2).f1.f1.f4)).bind fun t420 => (if t420 = true then ((impl_within.f ((rd_T75 l0_1 x29_2).f2) 0 1000000000000).bind fun t421 => (if t421 = true then ((impl_Table_probe.f k2 a0_0 l0_1 ((rd_T75 l0_1 x29_2).f1.f0) ((rd_T75 l0_1 x29_2).f1.f1.f0.f0) ((rd_T75 l0_1 x29_2).f1.f1.f0.f1) ((rd_T75 l0_1 x29_2).f1.f1.f0.f2) ((rd_T75 l0_1 x29_2).f1.f1.f0.f3) ((rd_T75 l0_1 x29_2).f1.f1.f0.f4) ((rd_T75 l0_1 x29_2).f1.f1.f1.f0) ((rd_T75 l0_1 x29_2).f1.f1.f1.f1) ((rd_T75 l0_1 x29_2).f1.f1.f1.f2) ((rd_T75 l0_1 x29_2).f1.f1.f1.f3) ((rd_T75 l0_1 x29_2).f1.f1.f1.f4) ((rd_T75 l0_1 x29_2).f1.f1.f2) ((rd_T75 l0_1 x29_2).f1.f1.f3) ((rd_T75 l0_1 x29_2).f1.f1.f4)).bind fun t422 => (if t422 = x29_2 then (impl_TableOk.l0 k2 l0_1 (l0_1.length : Int) (wrap64 (x29_2 + 1)) a0_0 l0_1) else (some false))) else (some false))) else (some false))) else (if ((bq18) || ((!(((rd_T75 l0_1 x29_2).f1.f0) == 0) || (((!(((rd_T75 l0_1 x29_2).f1.f1.f0.f0) == 0) || (!(((rd_T75 l0_1 x29_2).f1.f1.f0.f1) == 0) || (!(((rd_T75 l0_1 x29_2).f1.f1.f0.f2) == 0) || (!(((rd_T75 l0_1 x29_2).f1.f1.f0.f3) == 0) || (!(((rd_T75 l0_1 x29_2).f1.f1.f0.f4) == 0)))))) || ((!(((rd_T75 l0_1 x29_2).f1.f1.f1.f0) == 0) || (!(((rd_T75 l0_1 x29_2).f1.f1.f1.f1) == 0) || (!(((rd_T75 l0_1 x29_2).f1.f1.f1.f2) == 0) || (!(((rd_T75 l0_1 x29_2).f1.f1.f1.f3) == 0) || (!(((rd_T75 l0_1 x29_2).f1.f1.f1.f4) == 0)))))) || (!(((rd_T75 l0_1 x29_2).f1.f1.f2) == 0) || (!(((rd_T75 l0_1 x29_2).f1.f1.f3) == 0) || (!(((rd_T75 l0_1 x29_2).f1.f1.f4) == 0)))))))) || (!(((rd_T75 l0_1 x29_2).f2) == 0)))) = true then (some false) else (impl_TableOk.l0 k2 l0_1 (l0_1.length : Int) (wrap64 (x29_2 + 1)) a0_0 l0_1))) = some r := by rw [← hbq18] at H; exact H
         have Nbq18 := Gv.a0 hbq18
         clear hbq18
         by_cases c19 : (bq18 = true)
         ·subst c19
          have H1 : ((impl_FlowKeyOk.f k2 ((rd_T75 l0_1 x29_2).f1.f0) ((rd_T75 l0_1 x29_2).f1.f1.f0.f0) ((rd_T75 l0_1 x29_2).f1.f1.f0.f1) ((rd_T75 l0_1 x29_2).f1.f1.f0.f2) ((rd_T75 l0_1 x29_2).f1.f1.f0.f3) ((rd_T75 l0_1 x29_2).f1.f1.f0.f4) ((rd_T75 l0_1 x29_2).f1.f1.f1.f0) ((rd_T75 l0_1 x29_2).f1.f1.f1.f1) ((rd_T75 l0_1 x29_2).f1.f1.f1.f2) ((rd_T75 l0_1 x29_2).f1.f1.f1.f3) ((rd_T75 l0_1 x29_2).f1.f1.f1.f4) ((rd_T75 l0_1 x29_2).f1.f1.f2) ((rd_T75 l0_1 x29_2).f1.f1.f3) ((rd_T75 l0_1 x29_2).f1.f1.f4)).bind fun t420 => (if t420 = true then ((impl_within.f ((rd_T75 l0_1 x29_2).f2) 0 1000000000000).bind fun t421 => (if t421 = true then ((impl_Table_probe.f k2 a0_0 l0_1 ((rd_T75 l0_1 x29_2).f1.f0) ((rd_T75 l0_1 x29_2).f1.f1.f0.f0) ((rd_T75 l0_1 x29_2).f1.f1.f0.f1) ((rd_T75 l0_1 x29_2).f1.f1.f0.f2) ((rd_T75 l0_1 x29_2).f1.f1.f0.f3) ((rd_T75 l0_1 x29_2).f1.f1.f0.f4) ((rd_T75 l0_1 x29_2).f1.f1.f1.f0) ((rd_T75 l0_1 x29_2).f1.f1.f1.f1) ((rd_T75 l0_1 x29_2).f1.f1.f1.f2) ((rd_T75 l0_1 x29_2).f1.f1.f1.f3) ((rd_T75 l0_1 x29_2).f1.f1.f1.f4) ((rd_T75 l0_1 x29_2).f1.f1.f2) ((rd_T75 l0_1 x29_2).f1.f1.f3) ((rd_T75 l0_1 x29_2).f1.f1.f4)).bind fun t422 => (if t422 = x29_2 then (impl_TableOk.l0 k2 l0_1 (l0_1.length : Int) (wrap64 (x29_2 + 1)) a0_0 l0_1) else (some false))) else (some false))) else (some false))) = some r := by rw [if_pos rfl] at H; exact H
          clear H
          have H := H1
          clear H1
          replace H := Option.bind_eq_some_iff.mp H
          obtain ⟨t420, A200, H⟩ := H
          replace H : (if t420 = true then ((impl_within.f ((rd_T75 l0_1 x29_2).f2) 0 1000000000000).bind fun t421 => (if t421 = true then ((impl_Table_probe.f k2 a0_0 l0_1 ((rd_T75 l0_1 x29_2).f1.f0) ((rd_T75 l0_1 x29_2).f1.f1.f0.f0) ((rd_T75 l0_1 x29_2).f1.f1.f0.f1) ((rd_T75 l0_1 x29_2).f1.f1.f0.f2) ((rd_T75 l0_1 x29_2).f1.f1.f0.f3) ((rd_T75 l0_1 x29_2).f1.f1.f0.f4) ((rd_T75 l0_1 x29_2).f1.f1.f1.f0) ((rd_T75 l0_1 x29_2).f1.f1.f1.f1) ((rd_T75 l0_1 x29_2).f1.f1.f1.f2) ((rd_T75 l0_1 x29_2).f1.f1.f1.f3) ((rd_T75 l0_1 x29_2).f1.f1.f1.f4) ((rd_T75 l0_1 x29_2).f1.f1.f2) ((rd_T75 l0_1 x29_2).f1.f1.f3) ((rd_T75 l0_1 x29_2).f1.f1.f4)).bind fun t422 => (if t422 = x29_2 then (impl_TableOk.l0 k2 l0_1 (l0_1.length : Int) (wrap64 (x29_2 + 1)) a0_0 l0_1) else (some false))) else (some false))) else (some false)) = some r := H
          have A20 := Gv.a0 A200
          clear A200
          by_cases c21 : t420 = true
          ·subst c21
           have H1 : ((impl_within.f ((rd_T75 l0_1 x29_2).f2) 0 1000000000000).bind fun t421 => (if t421 = true then ((impl_Table_probe.f k2 a0_0 l0_1 ((rd_T75 l0_1 x29_2).f1.f0) ((rd_T75 l0_1 x29_2).f1.f1.f0.f0) ((rd_T75 l0_1 x29_2).f1.f1.f0.f1) ((rd_T75 l0_1 x29_2).f1.f1.f0.f2) ((rd_T75 l0_1 x29_2).f1.f1.f0.f3) ((rd_T75 l0_1 x29_2).f1.f1.f0.f4) ((rd_T75 l0_1 x29_2).f1.f1.f1.f0) ((rd_T75 l0_1 x29_2).f1.f1.f1.f1) ((rd_T75 l0_1 x29_2).f1.f1.f1.f2) ((rd_T75 l0_1 x29_2).f1.f1.f1.f3) ((rd_T75 l0_1 x29_2).f1.f1.f1.f4) ((rd_T75 l0_1 x29_2).f1.f1.f2) ((rd_T75 l0_1 x29_2).f1.f1.f3) ((rd_T75 l0_1 x29_2).f1.f1.f4)).bind fun t422 => (if t422 = x29_2 then (impl_TableOk.l0 k2 l0_1 (l0_1.length : Int) (wrap64 (x29_2 + 1)) a0_0 l0_1) else (some false))) else (some false))) = some r := by rw [if_pos rfl] at H; exact H
           clear H
           have H := H1
           clear H1
           replace H := Option.bind_eq_some_iff.mp H
           obtain ⟨t421, A220, H⟩ := H
           replace H : (if t421 = true then ((impl_Table_probe.f k2 a0_0 l0_1 ((rd_T75 l0_1 x29_2).f1.f0) ((rd_T75 l0_1 x29_2).f1.f1.f0.f0) ((rd_T75 l0_1 x29_2).f1.f1.f0.f1) ((rd_T75 l0_1 x29_2).f1.f1.f0.f2) ((rd_T75 l0_1 x29_2).f1.f1.f0.f3) ((rd_T75 l0_1 x29_2).f1.f1.f0.f4) ((rd_T75 l0_1 x29_2).f1.f1.f1.f0) ((rd_T75 l0_1 x29_2).f1.f1.f1.f1) ((rd_T75 l0_1 x29_2).f1.f1.f1.f2) ((rd_T75 l0_1 x29_2).f1.f1.f1.f3) ((rd_T75 l0_1 x29_2).f1.f1.f1.f4) ((rd_T75 l0_1 x29_2).f1.f1.f2) ((rd_T75 l0_1 x29_2).f1.f1.f3) ((rd_T75 l0_1 x29_2).f1.f1.f4)).bind fun t422 => (if t422 = x29_2 then (impl_TableOk.l0 k2 l0_1 (l0_1.length : Int) (wrap64 (x29_2 + 1)) a0_0 l0_1) else (some false))) else (some false)) = some r := H
           have A22 := Gv.a0 A220
           clear A220
           by_cases c23 : t421 = true
           ·subst c23
            have H1 : ((impl_Table_probe.f k2 a0_0 l0_1 ((rd_T75 l0_1 x29_2).f1.f0) ((rd_T75 l0_1 x29_2).f1.f1.f0.f0) ((rd_T75 l0_1 x29_2).f1.f1.f0.f1) ((rd_T75 l0_1 x29_2).f1.f1.f0.f2) ((rd_T75 l0_1 x29_2).f1.f1.f0.f3) ((rd_T75 l0_1 x29_2).f1.f1.f0.f4) ((rd_T75 l0_1 x29_2).f1.f1.f1.f0) ((rd_T75 l0_1 x29_2).f1.f1.f1.f1) ((rd_T75 l0_1 x29_2).f1.f1.f1.f2) ((rd_T75 l0_1 x29_2).f1.f1.f1.f3) ((rd_T75 l0_1 x29_2).f1.f1.f1.f4) ((rd_T75 l0_1 x29_2).f1.f1.f2) ((rd_T75 l0_1 x29_2).f1.f1.f3) ((rd_T75 l0_1 x29_2).f1.f1.f4)).bind fun t422 => (if t422 = x29_2 then (impl_TableOk.l0 k2 l0_1 (l0_1.length : Int) (wrap64 (x29_2 + 1)) a0_0 l0_1) else (some false))) = some r := by rw [if_pos rfl] at H; exact H
            clear H
            have H := H1
            clear H1
            replace H := Option.bind_eq_some_iff.mp H
            obtain ⟨t422, A240, H⟩ := H
            replace H : (if t422 = x29_2 then (impl_TableOk.l0 k2 l0_1 (l0_1.length : Int) (wrap64 (x29_2 + 1)) a0_0 l0_1) else (some false)) = some r := H
            have A24 := Gv.a0 A240
            clear A240
            by_cases c25 : t422 = x29_2
            ·rw [if_pos c25] at H
             have c25b0 : (t422 == x29_2) = true := beq_iff_eq.mpr c25
             have c25b1 : (t422 != x29_2) = false := bne_eq_false_iff_eq.mpr c25
             clear c25
             have H' := Gv.a0 H
             clear H
             have p418 : 0 ≤ (x29_2 : Int) := of_decide_eq_true (by first | (with_reducible assumption) | assumption)
             have q418 : x29_2 < (l0_1.length : Int) := of_decide_eq_true (by first | (with_reducible assumption) | assumption)
             obtain ⟨ad418, e418, hx418_0, hx418_1, hx418_2, hx418_3, hx418_4, hx418_5, hx418_6, hx418_7, hx418_8, hx418_9, hx418_10, hx418_11, hx418_12, hx418_13, hx418_14, hx418_15⟩ := at_T75 HR0_1.out x29_2 p418 q418
             (try rw [← Nbq18.out] at hx418_0)
             cases e418
             replace hx418_0 := Gv.bx HB.out hx418_0
             replace hx418_1 := Gv.bx HB.out hx418_1
             replace hx418_2 := Gv.bx HB.out hx418_2
             replace hx418_3 := Gv.bx HB.out hx418_3
             replace hx418_4 := Gv.bx HB.out hx418_4
             replace hx418_5 := Gv.bx HB.out hx418_5
             replace hx418_6 := Gv.bx HB.out hx418_6
             replace hx418_7 := Gv.bx HB.out hx418_7
             replace hx418_8 := Gv.bx HB.out hx418_8
             replace hx418_9 := Gv.bx HB.out hx418_9
             replace hx418_10 := Gv.bx HB.out hx418_10
             replace hx418_11 := Gv.bx HB.out hx418_11
             replace hx418_12 := Gv.bx HB.out hx418_12
             replace hx418_13 := Gv.bx HB.out hx418_13
             replace hx418_14 := Gv.bx HB.out hx418_14
             replace hx418_15 := Gv.bx HB.out hx418_15
             replace p418 := eq_true p418
             replace q418 := eq_true q418
             go_wp2_with (first | ((with_reducible refine gate_dst (N := 4) rfl ?_); (try (refine gate_guard (by rfl) ?_; dsimp only)); refine box_event ?hg (N := 4) ?hd (cs := #[.bool false, .int .i64 0, .int .i64 0, .int .i64 0, .int .i64 0, .int .i64 0, .int .i64 0, .int .i64 0, .int .i64 0, .int .i64 0, .int .i64 0, .int .i64 0, .int .i64 0, .int .i64 0, .int .i64 0, .int .i64 0]) (t := 75) ?hr ?_; (case hd => rfl); (case hg => rfl); (case hr => first | (go_simp; done) | (go_simp; rfl)); intro gb419 hg w26 hbox hb; have n0_ := Gv.a0 (Gv.bb BK414.out hb); have n1_ := Gv.a0 (below_step Gv.bw hb); have n2_ := Gv.a0 (hbox); have n3_ := Gv.a0 ((Gv.ble hg Gv.bw : w.heap.size ≤ gb419)); have n4_ := Gv.a0 ((Gv.ble hg Gv.bw : w.heap.size ≤ gb419)); have n5_ := Gv.a0 ((Gv.nlt hg (Gv.kb BK414.out) : gb414 ≠ gb419)); have n6_ := Gv.a0 ((Gv.ngt hg (Gv.kb BK414.out) : gb419 ≠ gb414)); clear BK414; clear HB; have BK414 := n0_; have HB := n1_; have BK419 := n2_; have GW419 := n3_; have GE419 := n4_; have NB414_419 := n5_; have NB419_414 := n6_; clear n0_ n1_ n2_ n3_ n4_ n5_ n6_; clear hb hbox hg; have hnb27 := NB419_414.out; have hnc27 := NB414_419.out; obtain ⟨hcz28_0, hcz28_1, hcz28_2, hcz28_3, hcz28_4, hcz28_5, hcz28_6, hcz28_7, hcz28_8, hcz28_9, hcz28_10, hcz28_11, hcz28_12, hcz28_13, hcz28_14, hcz28_15⟩ := Gv.c16 BK419.out; obtain ⟨hfz28_0, hfz28_1, hfz28_2, hfz28_3, hfz28_4, hfz28_5, hfz28_6, hfz28_7, hfz28_8, hfz28_9, hfz28_10, hfz28_11, hfz28_12, hfz28_13, hfz28_14, hfz28_15⟩ := Gv.f16 BK419.out) | ((with_reducible refine gate_store (t := 75) (p := 4) rfl ?_); refine Gv.store_event rfl rfl rfl rfl rfl (Gv.kb BK419.out) (by kernel_rfl) rfl (by simp; and_intros <;> rfl) ?_; intro w26s hbox hoth hbel; have n0_ := Gv.a0 (hbox); have n1_ := Gv.a0 (hbel w Gv.bw GE419.out); have n2_ := Gv.a0 ((hoth gb414 NB414_419.out).trans (Gv.kb BK414.out)); clear BK419 HB BK414; have BK419 := n0_; have HB := n1_; have BK414 := n2_; clear n0_ n1_ n2_ hbox hoth hbel; (try clear hcz28_0 hcz28_1 hcz28_2 hcz28_3 hcz28_4 hcz28_5 hcz28_6 hcz28_7 hcz28_8 hcz28_9 hcz28_10 hcz28_11 hcz28_12 hcz28_13 hcz28_14 hcz28_15 hfz28_0 hfz28_1 hfz28_2 hfz28_3 hfz28_4 hfz28_5 hfz28_6 hfz28_7 hfz28_8 hfz28_9 hfz28_10 hfz28_11 hfz28_12 hfz28_13 hfz28_14 hfz28_15); obtain ⟨hcz28_0, hcz28_1, hcz28_2, hcz28_3, hcz28_4, hcz28_5, hcz28_6, hcz28_7, hcz28_8, hcz28_9, hcz28_10, hcz28_11, hcz28_12, hcz28_13, hcz28_14, hcz28_15⟩ := Gv.c16 BK419.out; obtain ⟨hfz28_0, hfz28_1, hfz28_2, hfz28_3, hfz28_4, hfz28_5, hfz28_6, hfz28_7, hfz28_8, hfz28_9, hfz28_10, hfz28_11, hfz28_12, hfz28_13, hfz28_14, hfz28_15⟩ := Gv.f16 BK419.out) | ((with_reducible refine gate_callee (f := 15) rfl ?_); refine goesL_ (some 44) rfl rfl Try.func15 (by kernel_rfl) rfl #[.agg #[.int .i64 ((rd_T75 l0_1 x29_2).f1.f0), .int .i64 ((rd_T75 l0_1 x29_2).f1.f1.f0.f0), .int .i64 ((rd_T75 l0_1 x29_2).f1.f1.f0.f1), .int .i64 ((rd_T75 l0_1 x29_2).f1.f1.f0.f2), .int .i64 ((rd_T75 l0_1 x29_2).f1.f1.f0.f3), .int .i64 ((rd_T75 l0_1 x29_2).f1.f1.f0.f4), .int .i64 ((rd_T75 l0_1 x29_2).f1.f1.f1.f0), .int .i64 ((rd_T75 l0_1 x29_2).f1.f1.f1.f1), .int .i64 ((rd_T75 l0_1 x29_2).f1.f1.f1.f2), .int .i64 ((rd_T75 l0_1 x29_2).f1.f1.f1.f3), .int .i64 ((rd_T75 l0_1 x29_2).f1.f1.f1.f4), .int .i64 ((rd_T75 l0_1 x29_2).f1.f1.f2), .int .i64 ((rd_T75 l0_1 x29_2).f1.f1.f3), .int .i64 ((rd_T75 l0_1 x29_2).f1.f1.f4)]] rfl Gv.lm ?_; (with_reducible refine (impl_FlowKeyOk.calls k2 _ _ _ _ _ _ _ _ _ _ _ _ _ _ true _ A20.out).mono ?_); rintro e w29 ⟨rfl, hb⟩; refine ⟨_, rfl, ?_⟩; have n0_ := Gv.a0 (blk_below (g := gb414) (o := .cells #[.int .i64 a0_0, .slice (some ad418) l0_1.length c0_1] 40 (0, 0)) Gv.bkf hb); have n1_ := Gv.a0 (blk_below (g := gb419) (o := .cells #[.bool true, .int .i64 ((rd_T75 l0_1 x29_2).f1.f0), .int .i64 ((rd_T75 l0_1 x29_2).f1.f1.f0.f0), .int .i64 ((rd_T75 l0_1 x29_2).f1.f1.f0.f1), .int .i64 ((rd_T75 l0_1 x29_2).f1.f1.f0.f2), .int .i64 ((rd_T75 l0_1 x29_2).f1.f1.f0.f3), .int .i64 ((rd_T75 l0_1 x29_2).f1.f1.f0.f4), .int .i64 ((rd_T75 l0_1 x29_2).f1.f1.f1.f0), .int .i64 ((rd_T75 l0_1 x29_2).f1.f1.f1.f1), .int .i64 ((rd_T75 l0_1 x29_2).f1.f1.f1.f2), .int .i64 ((rd_T75 l0_1 x29_2).f1.f1.f1.f3), .int .i64 ((rd_T75 l0_1 x29_2).f1.f1.f1.f4), .int .i64 ((rd_T75 l0_1 x29_2).f1.f1.f2), .int .i64 ((rd_T75 l0_1 x29_2).f1.f1.f3), .int .i64 ((rd_T75 l0_1 x29_2).f1.f1.f4), .int .i64 ((rd_T75 l0_1 x29_2).f2)] 75 (0, 0)) (by (with_reducible repeat (first | refine blk_drewN ?_ _ | refine blk_drew ?_ | refine blk_alloc ?_ _)); exact BK419.out) hb); have n2_ := Gv.a0 (below_step Gv.bw hb); clear BK414; clear BK419; clear HB; have BK414 := n0_; have BK419 := n1_; have HB := n2_; clear n0_ n1_ n2_; (try clear hb); (try clear hb2); (try clear hk); (try clear hi); obtain ⟨hcz30_0, hcz30_1, hcz30_2, hcz30_3, hcz30_4, hcz30_5, hcz30_6, hcz30_7, hcz30_8, hcz30_9, hcz30_10, hcz30_11, hcz30_12, hcz30_13, hcz30_14, hcz30_15⟩ := Gv.c16 BK419.out; obtain ⟨hfz30_0, hfz30_1, hfz30_2, hfz30_3, hfz30_4, hfz30_5, hfz30_6, hfz30_7, hfz30_8, hfz30_9, hfz30_10, hfz30_11, hfz30_12, hfz30_13, hfz30_14, hfz30_15⟩ := Gv.f16 BK419.out) | (go_at_call 44; (with_reducible refine (impl_within.calls _ 0 1000000000000 true _ A22.out).mono ?_); rintro e w' ⟨rfl, ⟨nd, rfl⟩⟩; have hcz31_0 : w29.cell? ⟨gb414, 0, none⟩ = some (.int .i64 a0_0) := (blk_cell BK414.out 0).trans rfl; have hcz31_1 : w29.cell? ⟨gb414, 1, none⟩ = some (.slice (some ad418) l0_1.length c0_1) := (blk_cell BK414.out 1).trans rfl; have hfz31_0 := blk_frozen BK414.out 0; have hfz31_1 := blk_frozen BK414.out 1) | (go_at_call 58; (with_reducible refine (impl_Table_probe.calls k2 a0_0 _ _ l0_1 _ _ _ _ _ _ _ _ _ _ _ _ _ _ t422 _ ?side1 ?side2 A24.out).mono ?_); (case side1 => repeat (first | exact (Kd.C_below HR0_1.out Gv.bw) | (with_reducible refine Kd.C_alloc ?_ _) | (with_reducible refine Kd.C_drewN ?_ _) | (with_reducible refine Kd.C_drew ?_))); (case side2 => exact HC0_1.out); rintro e w32 ⟨rfl, hb⟩; have n0_ := Gv.a0 (Gv.bb BK414.out hb); have n1_ := Gv.a0 (Gv.bb BK419.out hb); have n2_ := Gv.a0 (below_step Gv.bw hb); clear BK414; clear BK419; clear HB; have BK414 := n0_; have BK419 := n1_; have HB := n2_; clear n0_ n1_ n2_; (try clear hb); (try clear hb2); (try clear hk); (try clear hi)) | ((with_reducible refine Gv.gate_load (t := 75) rfl ?_); (try (refine gate_guard (by rfl) ?_; dsimp only)); refine wpList_load_row rfl 75 _ rfl gb419 rfl 75 _ _ _ (Gv.kbp BK419.out) Try.underlying75 rfl (by kernel_rfl) ?_) | ((with_reducible refine Gv.gate_load (t := 75) rfl ?_); refine Gv.load_event (cs := [_, _, _, _, _, _, _, _, _, _, _, _, _, _, _, _]) rfl rfl rfl ⟨hx418_0, hx418_1, hx418_2, hx418_3, hx418_4, hx418_5, hx418_6, hx418_7, hx418_8, hx418_9, hx418_10, hx418_11, hx418_12, hx418_13, hx418_14, hx418_15, trivial⟩ Try.underlying75 rfl (by kernel_rfl) ?_))
             go_roundg k2
             case measure => have := HJ1.out; have := HK2.out; omega
             case rel => exact ⟨(wrap64 (x29_2 + 1)), (by first | rfl | (simp; done) | (simp [Int.tdiv_eq_ediv_of_nonneg]; done) | (simp [*]; done)), H', ⟨by have := HJ1.out; have := HK2.out; omega⟩, ⟨by (with_reducible repeat (first | refine blk_drewN ?_ _ | refine blk_drew ?_ | refine blk_alloc ?_ _)); exact BK414.out⟩, ⟨by repeat (first | (with_reducible first | exact HB.out | apply below_alloc | apply pw_below_drewN | apply below_drew1 | refine below_set ?_ GE414.out | refine below_set ?_ GE419.out) | exact HB.out)⟩⟩
            ·rw [if_neg c25] at H
             have c25b0 : (t422 == x29_2) = false := beq_eq_false_iff_ne.mpr c25
             have c25b1 : (t422 != x29_2) = true := bne_iff_ne.mpr c25
             obtain rfl := Option.some.inj H
             have p418 : 0 ≤ (x29_2 : Int) := of_decide_eq_true (by first | (with_reducible assumption) | assumption)
             have q418 : x29_2 < (l0_1.length : Int) := of_decide_eq_true (by first | (with_reducible assumption) | assumption)
             obtain ⟨ad418, e418, hx418_0, hx418_1, hx418_2, hx418_3, hx418_4, hx418_5, hx418_6, hx418_7, hx418_8, hx418_9, hx418_10, hx418_11, hx418_12, hx418_13, hx418_14, hx418_15⟩ := at_T75 HR0_1.out x29_2 p418 q418
             (try rw [← Nbq18.out] at hx418_0)
             cases e418
             replace hx418_0 := Gv.bx HB.out hx418_0
             replace hx418_1 := Gv.bx HB.out hx418_1
             replace hx418_2 := Gv.bx HB.out hx418_2
             replace hx418_3 := Gv.bx HB.out hx418_3
             replace hx418_4 := Gv.bx HB.out hx418_4
             replace hx418_5 := Gv.bx HB.out hx418_5
             replace hx418_6 := Gv.bx HB.out hx418_6
             replace hx418_7 := Gv.bx HB.out hx418_7
             replace hx418_8 := Gv.bx HB.out hx418_8
             replace hx418_9 := Gv.bx HB.out hx418_9
             replace hx418_10 := Gv.bx HB.out hx418_10
             replace hx418_11 := Gv.bx HB.out hx418_11
             replace hx418_12 := Gv.bx HB.out hx418_12
             replace hx418_13 := Gv.bx HB.out hx418_13
             replace hx418_14 := Gv.bx HB.out hx418_14
             replace hx418_15 := Gv.bx HB.out hx418_15
             replace p418 := eq_true p418
             replace q418 := eq_true q418
             go_wp2_with (first | ((with_reducible refine gate_dst (N := 4) rfl ?_); (try (refine gate_guard (by rfl) ?_; dsimp only)); refine box_event ?hg (N := 4) ?hd (cs := #[.bool false, .int .i64 0, .int .i64 0, .int .i64 0, .int .i64 0, .int .i64 0, .int .i64 0, .int .i64 0, .int .i64 0, .int .i64 0, .int .i64 0, .int .i64 0, .int .i64 0, .int .i64 0, .int .i64 0, .int .i64 0]) (t := 75) ?hr ?_; (case hd => rfl); (case hg => rfl); (case hr => first | (go_simp; done) | (go_simp; rfl)); intro gb419 hg w33 hbox hb; have n0_ := Gv.a0 (Gv.bb BK414.out hb); have n1_ := Gv.a0 (below_step Gv.bw hb); have n2_ := Gv.a0 (hbox); have n3_ := Gv.a0 ((Gv.ble hg Gv.bw : w.heap.size ≤ gb419)); have n4_ := Gv.a0 ((Gv.ble hg Gv.bw : w.heap.size ≤ gb419)); have n5_ := Gv.a0 ((Gv.nlt hg (Gv.kb BK414.out) : gb414 ≠ gb419)); have n6_ := Gv.a0 ((Gv.ngt hg (Gv.kb BK414.out) : gb419 ≠ gb414)); clear BK414; clear HB; have BK414 := n0_; have HB := n1_; have BK419 := n2_; have GW419 := n3_; have GE419 := n4_; have NB414_419 := n5_; have NB419_414 := n6_; clear n0_ n1_ n2_ n3_ n4_ n5_ n6_; clear hb hbox hg; have hnb34 := NB419_414.out; have hnc34 := NB414_419.out; obtain ⟨hcz35_0, hcz35_1, hcz35_2, hcz35_3, hcz35_4, hcz35_5, hcz35_6, hcz35_7, hcz35_8, hcz35_9, hcz35_10, hcz35_11, hcz35_12, hcz35_13, hcz35_14, hcz35_15⟩ := Gv.c16 BK419.out; obtain ⟨hfz35_0, hfz35_1, hfz35_2, hfz35_3, hfz35_4, hfz35_5, hfz35_6, hfz35_7, hfz35_8, hfz35_9, hfz35_10, hfz35_11, hfz35_12, hfz35_13, hfz35_14, hfz35_15⟩ := Gv.f16 BK419.out) | ((with_reducible refine gate_store (t := 75) (p := 4) rfl ?_); refine Gv.store_event rfl rfl rfl rfl rfl (Gv.kb BK419.out) (by kernel_rfl) rfl (by simp; and_intros <;> rfl) ?_; intro w33s hbox hoth hbel; have n0_ := Gv.a0 (hbox); have n1_ := Gv.a0 (hbel w Gv.bw GE419.out); have n2_ := Gv.a0 ((hoth gb414 NB414_419.out).trans (Gv.kb BK414.out)); clear BK419 HB BK414; have BK419 := n0_; have HB := n1_; have BK414 := n2_; clear n0_ n1_ n2_ hbox hoth hbel; (try clear hcz35_0 hcz35_1 hcz35_2 hcz35_3 hcz35_4 hcz35_5 hcz35_6 hcz35_7 hcz35_8 hcz35_9 hcz35_10 hcz35_11 hcz35_12 hcz35_13 hcz35_14 hcz35_15 hfz35_0 hfz35_1 hfz35_2 hfz35_3 hfz35_4 hfz35_5 hfz35_6 hfz35_7 hfz35_8 hfz35_9 hfz35_10 hfz35_11 hfz35_12 hfz35_13 hfz35_14 hfz35_15); obtain ⟨hcz35_0, hcz35_1, hcz35_2, hcz35_3, hcz35_4, hcz35_5, hcz35_6, hcz35_7, hcz35_8, hcz35_9, hcz35_10, hcz35_11, hcz35_12, hcz35_13, hcz35_14, hcz35_15⟩ := Gv.c16 BK419.out; obtain ⟨hfz35_0, hfz35_1, hfz35_2, hfz35_3, hfz35_4, hfz35_5, hfz35_6, hfz35_7, hfz35_8, hfz35_9, hfz35_10, hfz35_11, hfz35_12, hfz35_13, hfz35_14, hfz35_15⟩ := Gv.f16 BK419.out) | ((with_reducible refine gate_callee (f := 15) rfl ?_); refine goesL_ (some 44) rfl rfl Try.func15 (by kernel_rfl) rfl #[.agg #[.int .i64 ((rd_T75 l0_1 x29_2).f1.f0), .int .i64 ((rd_T75 l0_1 x29_2).f1.f1.f0.f0), .int .i64 ((rd_T75 l0_1 x29_2).f1.f1.f0.f1), .int .i64 ((rd_T75 l0_1 x29_2).f1.f1.f0.f2), .int .i64 ((rd_T75 l0_1 x29_2).f1.f1.f0.f3), .int .i64 ((rd_T75 l0_1 x29_2).f1.f1.f0.f4), .int .i64 ((rd_T75 l0_1 x29_2).f1.f1.f1.f0), .int .i64 ((rd_T75 l0_1 x29_2).f1.f1.f1.f1), .int .i64 ((rd_T75 l0_1 x29_2).f1.f1.f1.f2), .int .i64 ((rd_T75 l0_1 x29_2).f1.f1.f1.f3), .int .i64 ((rd_T75 l0_1 x29_2).f1.f1.f1.f4), .int .i64 ((rd_T75 l0_1 x29_2).f1.f1.f2), .int .i64 ((rd_T75 l0_1 x29_2).f1.f1.f3), .int .i64 ((rd_T75 l0_1 x29_2).f1.f1.f4)]] rfl Gv.lm ?_; (with_reducible refine (impl_FlowKeyOk.calls k2 _ _ _ _ _ _ _ _ _ _ _ _ _ _ true _ A20.out).mono ?_); rintro e w36 ⟨rfl, hb⟩; refine ⟨_, rfl, ?_⟩; have n0_ := Gv.a0 (blk_below (g := gb414) (o := .cells #[.int .i64 a0_0, .slice (some ad418) l0_1.length c0_1] 40 (0, 0)) Gv.bkf hb); have n1_ := Gv.a0 (blk_below (g := gb419) (o := .cells #[.bool true, .int .i64 ((rd_T75 l0_1 x29_2).f1.f0), .int .i64 ((rd_T75 l0_1 x29_2).f1.f1.f0.f0), .int .i64 ((rd_T75 l0_1 x29_2).f1.f1.f0.f1), .int .i64 ((rd_T75 l0_1 x29_2).f1.f1.f0.f2), .int .i64 ((rd_T75 l0_1 x29_2).f1.f1.f0.f3), .int .i64 ((rd_T75 l0_1 x29_2).f1.f1.f0.f4), .int .i64 ((rd_T75 l0_1 x29_2).f1.f1.f1.f0), .int .i64 ((rd_T75 l0_1 x29_2).f1.f1.f1.f1), .int .i64 ((rd_T75 l0_1 x29_2).f1.f1.f1.f2), .int .i64 ((rd_T75 l0_1 x29_2).f1.f1.f1.f3), .int .i64 ((rd_T75 l0_1 x29_2).f1.f1.f1.f4), .int .i64 ((rd_T75 l0_1 x29_2).f1.f1.f2), .int .i64 ((rd_T75 l0_1 x29_2).f1.f1.f3), .int .i64 ((rd_T75 l0_1 x29_2).f1.f1.f4), .int .i64 ((rd_T75 l0_1 x29_2).f2)] 75 (0, 0)) (by (with_reducible repeat (first | refine blk_drewN ?_ _ | refine blk_drew ?_ | refine blk_alloc ?_ _)); exact BK419.out) hb); have n2_ := Gv.a0 (below_step Gv.bw hb); clear BK414; clear BK419; clear HB; have BK414 := n0_; have BK419 := n1_; have HB := n2_; clear n0_ n1_ n2_; (try clear hb); (try clear hb2); (try clear hk); (try clear hi); obtain ⟨hcz37_0, hcz37_1, hcz37_2, hcz37_3, hcz37_4, hcz37_5, hcz37_6, hcz37_7, hcz37_8, hcz37_9, hcz37_10, hcz37_11, hcz37_12, hcz37_13, hcz37_14, hcz37_15⟩ := Gv.c16 BK419.out; obtain ⟨hfz37_0, hfz37_1, hfz37_2, hfz37_3, hfz37_4, hfz37_5, hfz37_6, hfz37_7, hfz37_8, hfz37_9, hfz37_10, hfz37_11, hfz37_12, hfz37_13, hfz37_14, hfz37_15⟩ := Gv.f16 BK419.out) | (go_at_call 44; (with_reducible refine (impl_within.calls _ 0 1000000000000 true _ A22.out).mono ?_); rintro e w' ⟨rfl, ⟨nd, rfl⟩⟩; have hcz38_0 : w36.cell? ⟨gb414, 0, none⟩ = some (.int .i64 a0_0) := (blk_cell BK414.out 0).trans rfl; have hcz38_1 : w36.cell? ⟨gb414, 1, none⟩ = some (.slice (some ad418) l0_1.length c0_1) := (blk_cell BK414.out 1).trans rfl; have hfz38_0 := blk_frozen BK414.out 0; have hfz38_1 := blk_frozen BK414.out 1) | (go_at_call 58; (with_reducible refine (impl_Table_probe.calls k2 a0_0 _ _ l0_1 _ _ _ _ _ _ _ _ _ _ _ _ _ _ t422 _ ?side1 ?side2 A24.out).mono ?_); (case side1 => repeat (first | exact (Kd.C_below HR0_1.out Gv.bw) | (with_reducible refine Kd.C_alloc ?_ _) | (with_reducible refine Kd.C_drewN ?_ _) | (with_reducible refine Kd.C_drew ?_))); (case side2 => exact HC0_1.out); rintro e w39 ⟨rfl, hb⟩; have n0_ := Gv.a0 (Gv.bb BK414.out hb); have n1_ := Gv.a0 (Gv.bb BK419.out hb); have n2_ := Gv.a0 (below_step Gv.bw hb); clear BK414; clear BK419; clear HB; have BK414 := n0_; have BK419 := n1_; have HB := n2_; clear n0_ n1_ n2_; (try clear hb); (try clear hb2); (try clear hk); (try clear hi)) | ((with_reducible refine Gv.gate_load (t := 75) rfl ?_); (try (refine gate_guard (by rfl) ?_; dsimp only)); refine wpList_load_row rfl 75 _ rfl gb419 rfl 75 _ _ _ (Gv.kbp BK419.out) Try.underlying75 rfl (by kernel_rfl) ?_) | ((with_reducible refine Gv.gate_load (t := 75) rfl ?_); refine Gv.load_event (cs := [_, _, _, _, _, _, _, _, _, _, _, _, _, _, _, _]) rfl rfl rfl ⟨hx418_0, hx418_1, hx418_2, hx418_3, hx418_4, hx418_5, hx418_6, hx418_7, hx418_8, hx418_9, hx418_10, hx418_11, hx418_12, hx418_13, hx418_14, hx418_15, trivial⟩ Try.underlying75 rfl (by kernel_rfl) ?_))
             go_ret
             exact ⟨by first | rfl | (simp [errW_none, errW_some] <;> rfl) | (simp [*, errW_none, errW_some] <;> rfl), by repeat (first | (with_reducible first | exact HB.out | apply below_alloc | apply pw_below_drewN | apply below_drew1 | refine below_set ?_ GE414.out | refine below_set ?_ GE419.out) | exact HB.out)⟩
           ·replace c23 := Bool.eq_false_iff.mpr c23
            subst c23
            have H1 : (some false) = some r := by rw [if_neg (show ¬ (false = true) by decide)] at H; exact H
            clear H
            have H := H1
            clear H1
            obtain rfl := Option.some.inj H
            have p418 : 0 ≤ (x29_2 : Int) := of_decide_eq_true (by first | (with_reducible assumption) | assumption)
            have q418 : x29_2 < (l0_1.length : Int) := of_decide_eq_true (by first | (with_reducible assumption) | assumption)
            obtain ⟨ad418, e418, hx418_0, hx418_1, hx418_2, hx418_3, hx418_4, hx418_5, hx418_6, hx418_7, hx418_8, hx418_9, hx418_10, hx418_11, hx418_12, hx418_13, hx418_14, hx418_15⟩ := at_T75 HR0_1.out x29_2 p418 q418
            (try rw [← Nbq18.out] at hx418_0)
            cases e418
            replace hx418_0 := Gv.bx HB.out hx418_0
            replace hx418_1 := Gv.bx HB.out hx418_1
            replace hx418_2 := Gv.bx HB.out hx418_2
            replace hx418_3 := Gv.bx HB.out hx418_3
            replace hx418_4 := Gv.bx HB.out hx418_4
            replace hx418_5 := Gv.bx HB.out hx418_5
            replace hx418_6 := Gv.bx HB.out hx418_6
            replace hx418_7 := Gv.bx HB.out hx418_7
            replace hx418_8 := Gv.bx HB.out hx418_8
            replace hx418_9 := Gv.bx HB.out hx418_9
            replace hx418_10 := Gv.bx HB.out hx418_10
            replace hx418_11 := Gv.bx HB.out hx418_11
            replace hx418_12 := Gv.bx HB.out hx418_12
            replace hx418_13 := Gv.bx HB.out hx418_13
            replace hx418_14 := Gv.bx HB.out hx418_14
            replace hx418_15 := Gv.bx HB.out hx418_15
            replace p418 := eq_true p418
            replace q418 := eq_true q418
            go_wp2_with (first | ((with_reducible refine gate_dst (N := 4) rfl ?_); (try (refine gate_guard (by rfl) ?_; dsimp only)); refine box_event ?hg (N := 4) ?hd (cs := #[.bool false, .int .i64 0, .int .i64 0, .int .i64 0, .int .i64 0, .int .i64 0, .int .i64 0, .int .i64 0, .int .i64 0, .int .i64 0, .int .i64 0, .int .i64 0, .int .i64 0, .int .i64 0, .int .i64 0, .int .i64 0]) (t := 75) ?hr ?_; (case hd => rfl); (case hg => rfl); (case hr => first | (go_simp; done) | (go_simp; rfl)); intro gb419 hg w40 hbox hb; have n0_ := Gv.a0 (Gv.bb BK414.out hb); have n1_ := Gv.a0 (below_step Gv.bw hb); have n2_ := Gv.a0 (hbox); have n3_ := Gv.a0 ((Gv.ble hg Gv.bw : w.heap.size ≤ gb419)); have n4_ := Gv.a0 ((Gv.ble hg Gv.bw : w.heap.size ≤ gb419)); have n5_ := Gv.a0 ((Gv.nlt hg (Gv.kb BK414.out) : gb414 ≠ gb419)); have n6_ := Gv.a0 ((Gv.ngt hg (Gv.kb BK414.out) : gb419 ≠ gb414)); clear BK414; clear HB; have BK414 := n0_; have HB := n1_; have BK419 := n2_; have GW419 := n3_; have GE419 := n4_; have NB414_419 := n5_; have NB419_414 := n6_; clear n0_ n1_ n2_ n3_ n4_ n5_ n6_; clear hb hbox hg; have hnb41 := NB419_414.out; have hnc41 := NB414_419.out; obtain ⟨hcz42_0, hcz42_1, hcz42_2, hcz42_3, hcz42_4, hcz42_5, hcz42_6, hcz42_7, hcz42_8, hcz42_9, hcz42_10, hcz42_11, hcz42_12, hcz42_13, hcz42_14, hcz42_15⟩ := Gv.c16 BK419.out; obtain ⟨hfz42_0, hfz42_1, hfz42_2, hfz42_3, hfz42_4, hfz42_5, hfz42_6, hfz42_7, hfz42_8, hfz42_9, hfz42_10, hfz42_11, hfz42_12, hfz42_13, hfz42_14, hfz42_15⟩ := Gv.f16 BK419.out) | ((with_reducible refine gate_store (t := 75) (p := 4) rfl ?_); refine Gv.store_event rfl rfl rfl rfl rfl (Gv.kb BK419.out) (by kernel_rfl) rfl (by simp; and_intros <;> rfl) ?_; intro w40s hbox hoth hbel; have n0_ := Gv.a0 (hbox); have n1_ := Gv.a0 (hbel w Gv.bw GE419.out); have n2_ := Gv.a0 ((hoth gb414 NB414_419.out).trans (Gv.kb BK414.out)); clear BK419 HB BK414; have BK419 := n0_; have HB := n1_; have BK414 := n2_; clear n0_ n1_ n2_ hbox hoth hbel; (try clear hcz42_0 hcz42_1 hcz42_2 hcz42_3 hcz42_4 hcz42_5 hcz42_6 hcz42_7 hcz42_8 hcz42_9 hcz42_10 hcz42_11 hcz42_12 hcz42_13 hcz42_14 hcz42_15 hfz42_0 hfz42_1 hfz42_2 hfz42_3 hfz42_4 hfz42_5 hfz42_6 hfz42_7 hfz42_8 hfz42_9 hfz42_10 hfz42_11 hfz42_12 hfz42_13 hfz42_14 hfz42_15); obtain ⟨hcz42_0, hcz42_1, hcz42_2, hcz42_3, hcz42_4, hcz42_5, hcz42_6, hcz42_7, hcz42_8, hcz42_9, hcz42_10, hcz42_11, hcz42_12, hcz42_13, hcz42_14, hcz42_15⟩ := Gv.c16 BK419.out; obtain ⟨hfz42_0, hfz42_1, hfz42_2, hfz42_3, hfz42_4, hfz42_5, hfz42_6, hfz42_7, hfz42_8, hfz42_9, hfz42_10, hfz42_11, hfz42_12, hfz42_13, hfz42_14, hfz42_15⟩ := Gv.f16 BK419.out) | ((with_reducible refine gate_callee (f := 15) rfl ?_); refine goesL_ (some 44) rfl rfl Try.func15 (by kernel_rfl) rfl #[.agg #[.int .i64 ((rd_T75 l0_1 x29_2).f1.f0), .int .i64 ((rd_T75 l0_1 x29_2).f1.f1.f0.f0), .int .i64 ((rd_T75 l0_1 x29_2).f1.f1.f0.f1), .int .i64 ((rd_T75 l0_1 x29_2).f1.f1.f0.f2), .int .i64 ((rd_T75 l0_1 x29_2).f1.f1.f0.f3), .int .i64 ((rd_T75 l0_1 x29_2).f1.f1.f0.f4), .int .i64 ((rd_T75 l0_1 x29_2).f1.f1.f1.f0), .int .i64 ((rd_T75 l0_1 x29_2).f1.f1.f1.f1), .int .i64 ((rd_T75 l0_1 x29_2).f1.f1.f1.f2), .int .i64 ((rd_T75 l0_1 x29_2).f1.f1.f1.f3), .int .i64 ((rd_T75 l0_1 x29_2).f1.f1.f1.f4), .int .i64 ((rd_T75 l0_1 x29_2).f1.f1.f2), .int .i64 ((rd_T75 l0_1 x29_2).f1.f1.f3), .int .i64 ((rd_T75 l0_1 x29_2).f1.f1.f4)]] rfl Gv.lm ?_; (with_reducible refine (impl_FlowKeyOk.calls k2 _ _ _ _ _ _ _ _ _ _ _ _ _ _ true _ A20.out).mono ?_); rintro e w43 ⟨rfl, hb⟩; refine ⟨_, rfl, ?_⟩; have n0_ := Gv.a0 (blk_below (g := gb414) (o := .cells #[.int .i64 a0_0, .slice (some ad418) l0_1.length c0_1] 40 (0, 0)) Gv.bkf hb); have n1_ := Gv.a0 (blk_below (g := gb419) (o := .cells #[.bool true, .int .i64 ((rd_T75 l0_1 x29_2).f1.f0), .int .i64 ((rd_T75 l0_1 x29_2).f1.f1.f0.f0), .int .i64 ((rd_T75 l0_1 x29_2).f1.f1.f0.f1), .int .i64 ((rd_T75 l0_1 x29_2).f1.f1.f0.f2), .int .i64 ((rd_T75 l0_1 x29_2).f1.f1.f0.f3), .int .i64 ((rd_T75 l0_1 x29_2).f1.f1.f0.f4), .int .i64 ((rd_T75 l0_1 x29_2).f1.f1.f1.f0), .int .i64 ((rd_T75 l0_1 x29_2).f1.f1.f1.f1), .int .i64 ((rd_T75 l0_1 x29_2).f1.f1.f1.f2), .int .i64 ((rd_T75 l0_1 x29_2).f1.f1.f1.f3), .int .i64 ((rd_T75 l0_1 x29_2).f1.f1.f1.f4), .int .i64 ((rd_T75 l0_1 x29_2).f1.f1.f2), .int .i64 ((rd_T75 l0_1 x29_2).f1.f1.f3), .int .i64 ((rd_T75 l0_1 x29_2).f1.f1.f4), .int .i64 ((rd_T75 l0_1 x29_2).f2)] 75 (0, 0)) (by (with_reducible repeat (first | refine blk_drewN ?_ _ | refine blk_drew ?_ | refine blk_alloc ?_ _)); exact BK419.out) hb); have n2_ := Gv.a0 (below_step Gv.bw hb); clear BK414; clear BK419; clear HB; have BK414 := n0_; have BK419 := n1_; have HB := n2_; clear n0_ n1_ n2_; (try clear hb); (try clear hb2); (try clear hk); (try clear hi); obtain ⟨hcz44_0, hcz44_1, hcz44_2, hcz44_3, hcz44_4, hcz44_5, hcz44_6, hcz44_7, hcz44_8, hcz44_9, hcz44_10, hcz44_11, hcz44_12, hcz44_13, hcz44_14, hcz44_15⟩ := Gv.c16 BK419.out; obtain ⟨hfz44_0, hfz44_1, hfz44_2, hfz44_3, hfz44_4, hfz44_5, hfz44_6, hfz44_7, hfz44_8, hfz44_9, hfz44_10, hfz44_11, hfz44_12, hfz44_13, hfz44_14, hfz44_15⟩ := Gv.f16 BK419.out) | (go_at_call 44; (with_reducible refine (impl_within.calls _ 0 1000000000000 false _ A22.out).mono ?_); rintro e w' ⟨rfl, ⟨nd, rfl⟩⟩) | ((with_reducible refine Gv.gate_load (t := 75) rfl ?_); (try (refine gate_guard (by rfl) ?_; dsimp only)); refine wpList_load_row rfl 75 _ rfl gb419 rfl 75 _ _ _ (Gv.kbp BK419.out) Try.underlying75 rfl (by kernel_rfl) ?_) | ((with_reducible refine Gv.gate_load (t := 75) rfl ?_); refine Gv.load_event (cs := [_, _, _, _, _, _, _, _, _, _, _, _, _, _, _, _]) rfl rfl rfl ⟨hx418_0, hx418_1, hx418_2, hx418_3, hx418_4, hx418_5, hx418_6, hx418_7, hx418_8, hx418_9, hx418_10, hx418_11, hx418_12, hx418_13, hx418_14, hx418_15, trivial⟩ Try.underlying75 rfl (by kernel_rfl) ?_))
            go_ret
            exact ⟨by first | rfl | (simp [errW_none, errW_some] <;> rfl) | (simp [*, errW_none, errW_some] <;> rfl), by repeat (first | (with_reducible first | exact HB.out | apply below_alloc | apply pw_below_drewN | apply below_drew1 | refine below_set ?_ GE414.out | refine below_set ?_ GE419.out) | exact HB.out)⟩
          ·replace c21 := Bool.eq_false_iff.mpr c21
           subst c21
           have H1 : (some false) = some r := by rw [if_neg (show ¬ (false = true) by decide)] at H; exact H
           clear H
           have H := H1
           clear H1
           obtain rfl := Option.some.inj H
           have p418 : 0 ≤ (x29_2 : Int) := of_decide_eq_true (by first | (with_reducible assumption) | assumption)
           have q418 : x29_2 < (l0_1.length : Int) := of_decide_eq_true (by first | (with_reducible assumption) | assumption)
           obtain ⟨ad418, e418, hx418_0, hx418_1, hx418_2, hx418_3, hx418_4, hx418_5, hx418_6, hx418_7, hx418_8, hx418_9, hx418_10, hx418_11, hx418_12, hx418_13, hx418_14, hx418_15⟩ := at_T75 HR0_1.out x29_2 p418 q418
           (try rw [← Nbq18.out] at hx418_0)
           cases e418
           replace hx418_0 := Gv.bx HB.out hx418_0
           replace hx418_1 := Gv.bx HB.out hx418_1
           replace hx418_2 := Gv.bx HB.out hx418_2
           replace hx418_3 := Gv.bx HB.out hx418_3
           replace hx418_4 := Gv.bx HB.out hx418_4
           replace hx418_5 := Gv.bx HB.out hx418_5
           replace hx418_6 := Gv.bx HB.out hx418_6
           replace hx418_7 := Gv.bx HB.out hx418_7
           replace hx418_8 := Gv.bx HB.out hx418_8
           replace hx418_9 := Gv.bx HB.out hx418_9
           replace hx418_10 := Gv.bx HB.out hx418_10
           replace hx418_11 := Gv.bx HB.out hx418_11
           replace hx418_12 := Gv.bx HB.out hx418_12
           replace hx418_13 := Gv.bx HB.out hx418_13
           replace hx418_14 := Gv.bx HB.out hx418_14
           replace hx418_15 := Gv.bx HB.out hx418_15
           replace p418 := eq_true p418
           replace q418 := eq_true q418
           go_wp2_with (first | ((with_reducible refine gate_dst (N := 4) rfl ?_); (try (refine gate_guard (by rfl) ?_; dsimp only)); refine box_event ?hg (N := 4) ?hd (cs := #[.bool false, .int .i64 0, .int .i64 0, .int .i64 0, .int .i64 0, .int .i64 0, .int .i64 0, .int .i64 0, .int .i64 0, .int .i64 0, .int .i64 0, .int .i64 0, .int .i64 0, .int .i64 0, .int .i64 0, .int .i64 0]) (t := 75) ?hr ?_; (case hd => rfl); (case hg => rfl); (case hr => first | (go_simp; done) | (go_simp; rfl)); intro gb419 hg w45 hbox hb; have n0_ := Gv.a0 (Gv.bb BK414.out hb); have n1_ := Gv.a0 (below_step Gv.bw hb); have n2_ := Gv.a0 (hbox); have n3_ := Gv.a0 ((Gv.ble hg Gv.bw : w.heap.size ≤ gb419)); have n4_ := Gv.a0 ((Gv.ble hg Gv.bw : w.heap.size ≤ gb419)); have n5_ := Gv.a0 ((Gv.nlt hg (Gv.kb BK414.out) : gb414 ≠ gb419)); have n6_ := Gv.a0 ((Gv.ngt hg (Gv.kb BK414.out) : gb419 ≠ gb414)); clear BK414; clear HB; have BK414 := n0_; have HB := n1_; have BK419 := n2_; have GW419 := n3_; have GE419 := n4_; have NB414_419 := n5_; have NB419_414 := n6_; clear n0_ n1_ n2_ n3_ n4_ n5_ n6_; clear hb hbox hg; have hnb46 := NB419_414.out; have hnc46 := NB414_419.out; obtain ⟨hcz47_0, hcz47_1, hcz47_2, hcz47_3, hcz47_4, hcz47_5, hcz47_6, hcz47_7, hcz47_8, hcz47_9, hcz47_10, hcz47_11, hcz47_12, hcz47_13, hcz47_14, hcz47_15⟩ := Gv.c16 BK419.out; obtain ⟨hfz47_0, hfz47_1, hfz47_2, hfz47_3, hfz47_4, hfz47_5, hfz47_6, hfz47_7, hfz47_8, hfz47_9, hfz47_10, hfz47_11, hfz47_12, hfz47_13, hfz47_14, hfz47_15⟩ := Gv.f16 BK419.out) | ((with_reducible refine gate_store (t := 75) (p := 4) rfl ?_); refine Gv.store_event rfl rfl rfl rfl rfl (Gv.kb BK419.out) (by kernel_rfl) rfl (by simp; and_intros <;> rfl) ?_; intro w45s hbox hoth hbel; have n0_ := Gv.a0 (hbox); have n1_ := Gv.a0 (hbel w Gv.bw GE419.out); have n2_ := Gv.a0 ((hoth gb414 NB414_419.out).trans (Gv.kb BK414.out)); clear BK419 HB BK414; have BK419 := n0_; have HB := n1_; have BK414 := n2_; clear n0_ n1_ n2_ hbox hoth hbel; (try clear hcz47_0 hcz47_1 hcz47_2 hcz47_3 hcz47_4 hcz47_5 hcz47_6 hcz47_7 hcz47_8 hcz47_9 hcz47_10 hcz47_11 hcz47_12 hcz47_13 hcz47_14 hcz47_15 hfz47_0 hfz47_1 hfz47_2 hfz47_3 hfz47_4 hfz47_5 hfz47_6 hfz47_7 hfz47_8 hfz47_9 hfz47_10 hfz47_11 hfz47_12 hfz47_13 hfz47_14 hfz47_15); obtain ⟨hcz47_0, hcz47_1, hcz47_2, hcz47_3, hcz47_4, hcz47_5, hcz47_6, hcz47_7, hcz47_8, hcz47_9, hcz47_10, hcz47_11, hcz47_12, hcz47_13, hcz47_14, hcz47_15⟩ := Gv.c16 BK419.out; obtain ⟨hfz47_0, hfz47_1, hfz47_2, hfz47_3, hfz47_4, hfz47_5, hfz47_6, hfz47_7, hfz47_8, hfz47_9, hfz47_10, hfz47_11, hfz47_12, hfz47_13, hfz47_14, hfz47_15⟩ := Gv.f16 BK419.out) | ((with_reducible refine gate_callee (f := 15) rfl ?_); refine goesL_ (some 44) rfl rfl Try.func15 (by kernel_rfl) rfl #[.agg #[.int .i64 ((rd_T75 l0_1 x29_2).f1.f0), .int .i64 ((rd_T75 l0_1 x29_2).f1.f1.f0.f0), .int .i64 ((rd_T75 l0_1 x29_2).f1.f1.f0.f1), .int .i64 ((rd_T75 l0_1 x29_2).f1.f1.f0.f2), .int .i64 ((rd_T75 l0_1 x29_2).f1.f1.f0.f3), .int .i64 ((rd_T75 l0_1 x29_2).f1.f1.f0.f4), .int .i64 ((rd_T75 l0_1 x29_2).f1.f1.f1.f0), .int .i64 ((rd_T75 l0_1 x29_2).f1.f1.f1.f1), .int .i64 ((rd_T75 l0_1 x29_2).f1.f1.f1.f2), .int .i64 ((rd_T75 l0_1 x29_2).f1.f1.f1.f3), .int .i64 ((rd_T75 l0_1 x29_2).f1.f1.f1.f4), .int .i64 ((rd_T75 l0_1 x29_2).f1.f1.f2), .int .i64 ((rd_T75 l0_1 x29_2).f1.f1.f3), .int .i64 ((rd_T75 l0_1 x29_2).f1.f1.f4)]] rfl Gv.lm ?_; (with_reducible refine (impl_FlowKeyOk.calls k2 _ _ _ _ _ _ _ _ _ _ _ _ _ _ false _ A20.out).mono ?_); rintro e w48 ⟨rfl, hb⟩; refine ⟨_, rfl, ?_⟩; have n0_ := Gv.a0 (blk_below (g := gb414) (o := .cells #[.int .i64 a0_0, .slice (some ad418) l0_1.length c0_1] 40 (0, 0)) Gv.bkf hb); have n1_ := Gv.a0 (blk_below (g := gb419) (o := .cells #[.bool true, .int .i64 ((rd_T75 l0_1 x29_2).f1.f0), .int .i64 ((rd_T75 l0_1 x29_2).f1.f1.f0.f0), .int .i64 ((rd_T75 l0_1 x29_2).f1.f1.f0.f1), .int .i64 ((rd_T75 l0_1 x29_2).f1.f1.f0.f2), .int .i64 ((rd_T75 l0_1 x29_2).f1.f1.f0.f3), .int .i64 ((rd_T75 l0_1 x29_2).f1.f1.f0.f4), .int .i64 ((rd_T75 l0_1 x29_2).f1.f1.f1.f0), .int .i64 ((rd_T75 l0_1 x29_2).f1.f1.f1.f1), .int .i64 ((rd_T75 l0_1 x29_2).f1.f1.f1.f2), .int .i64 ((rd_T75 l0_1 x29_2).f1.f1.f1.f3), .int .i64 ((rd_T75 l0_1 x29_2).f1.f1.f1.f4), .int .i64 ((rd_T75 l0_1 x29_2).f1.f1.f2), .int .i64 ((rd_T75 l0_1 x29_2).f1.f1.f3), .int .i64 ((rd_T75 l0_1 x29_2).f1.f1.f4), .int .i64 ((rd_T75 l0_1 x29_2).f2)] 75 (0, 0)) (by (with_reducible repeat (first | refine blk_drewN ?_ _ | refine blk_drew ?_ | refine blk_alloc ?_ _)); exact BK419.out) hb); have n2_ := Gv.a0 (below_step Gv.bw hb); clear BK414; clear BK419; clear HB; have BK414 := n0_; have BK419 := n1_; have HB := n2_; clear n0_ n1_ n2_; (try clear hb); (try clear hb2); (try clear hk); (try clear hi)) | ((with_reducible refine Gv.gate_load (t := 75) rfl ?_); (try (refine gate_guard (by rfl) ?_; dsimp only)); refine wpList_load_row rfl 75 _ rfl gb419 rfl 75 _ _ _ (Gv.kbp BK419.out) Try.underlying75 rfl (by kernel_rfl) ?_) | ((with_reducible refine Gv.gate_load (t := 75) rfl ?_); refine Gv.load_event (cs := [_, _, _, _, _, _, _, _, _, _, _, _, _, _, _, _]) rfl rfl rfl ⟨hx418_0, hx418_1, hx418_2, hx418_3, hx418_4, hx418_5, hx418_6, hx418_7, hx418_8, hx418_9, hx418_10, hx418_11, hx418_12, hx418_13, hx418_14, hx418_15, trivial⟩ Try.underlying75 rfl (by kernel_rfl) ?_))
           go_ret
           exact ⟨by first | rfl | (simp [errW_none, errW_some] <;> rfl) | (simp [*, errW_none, errW_some] <;> rfl), by repeat (first | (with_reducible first | exact HB.out | apply below_alloc | apply pw_below_drewN | apply below_drew1 | refine below_set ?_ GE414.out | refine below_set ?_ GE419.out) | exact HB.out)⟩
         ·replace c19 := Bool.eq_false_iff.mpr c19
          subst c19
          have H1 : (if (((!(((rd_T75 l0_1 x29_2).f1.f0) == 0) || (((!(((rd_T75 l0_1 x29_2).f1.f1.f0.f0) == 0) || (!(((rd_T75 l0_1 x29_2).f1.f1.f0.f1) == 0) || (!(((rd_T75 l0_1 x29_2).f1.f1.f0.f2) == 0) || (!(((rd_T75 l0_1 x29_2).f1.f1.f0.f3) == 0) || (!(((rd_T75 l0_1 x29_2).f1.f1.f0.f4) == 0)))))) || ((!(((rd_T75 l0_1 x29_2).f1.f1.f1.f0) == 0) || (!(((rd_T75 l0_1 x29_2).f1.f1.f1.f1) == 0) || (!(((rd_T75 l0_1 x29_2).f1.f1.f1.f2) == 0) || (!(((rd_T75 l0_1 x29_2).f1.f1.f1.f3) == 0) || (!(((rd_T75 l0_1 x29_2).f1.f1.f1.f4) == 0)))))) || (!(((rd_T75 l0_1 x29_2).f1.f1.f2) == 0) || (!(((rd_T75 l0_1 x29_2).f1.f1.f3) == 0) || (!(((rd_T75 l0_1 x29_2).f1.f1.f4) == 0)))))))) || (!(((rd_T75 l0_1 x29_2).f2) == 0)))) = true then (some false) else (impl_TableOk.l0 k2 l0_1 (l0_1.length : Int) (wrap64 (x29_2 + 1)) a0_0 l0_1)) = some r := by rw [if_neg (show ¬ (false = true) by decide)] at H; exact H
          clear H
          have H := H1
          clear H1
          by_cases c49 : (((!(((rd_T75 l0_1 x29_2).f1.f0) == 0) || (((!(((rd_T75 l0_1 x29_2).f1.f1.f0.f0) == 0) || (!(((rd_T75 l0_1 x29_2).f1.f1.f0.f1) == 0) || (!(((rd_T75 l0_1 x29_2).f1.f1.f0.f2) == 0) || (!(((rd_T75 l0_1 x29_2).f1.f1.f0.f3) == 0) || (!(((rd_T75 l0_1 x29_2).f1.f1.f0.f4) == 0)))))) || ((!(((rd_T75 l0_1 x29_2).f1.f1.f1.f0) == 0) || (!(((rd_T75 l0_1 x29_2).f1.f1.f1.f1) == 0) || (!(((rd_T75 l0_1 x29_2).f1.f1.f1.f2) == 0) || (!(((rd_T75 l0_1 x29_2).f1.f1.f1.f3) == 0) || (!(((rd_T75 l0_1 x29_2).f1.f1.f1.f4) == 0)))))) || (!(((rd_T75 l0_1 x29_2).f1.f1.f2) == 0) || (!(((rd_T75 l0_1 x29_2).f1.f1.f3) == 0) || (!(((rd_T75 l0_1 x29_2).f1.f1.f4) == 0)))))))) || (!(((rd_T75 l0_1 x29_2).f2) == 0)))) = true
          ·rw [if_pos c49] at H
           have c49b0 : (((!(((rd_T75 l0_1 x29_2).f1.f0) == 0) || (((!(((rd_T75 l0_1 x29_2).f1.f1.f0.f0) == 0) || (!(((rd_T75 l0_1 x29_2).f1.f1.f0.f1) == 0) || (!(((rd_T75 l0_1 x29_2).f1.f1.f0.f2) == 0) || (!(((rd_T75 l0_1 x29_2).f1.f1.f0.f3) == 0) || (!(((rd_T75 l0_1 x29_2).f1.f1.f0.f4) == 0)))))) || ((!(((rd_T75 l0_1 x29_2).f1.f1.f1.f0) == 0) || (!(((rd_T75 l0_1 x29_2).f1.f1.f1.f1) == 0) || (!(((rd_T75 l0_1 x29_2).f1.f1.f1.f2) == 0) || (!(((rd_T75 l0_1 x29_2).f1.f1.f1.f3) == 0) || (!(((rd_T75 l0_1 x29_2).f1.f1.f1.f4) == 0)))))) || (!(((rd_T75 l0_1 x29_2).f1.f1.f2) == 0) || (!(((rd_T75 l0_1 x29_2).f1.f1.f3) == 0) || (!(((rd_T75 l0_1 x29_2).f1.f1.f4) == 0)))))))) || (!(((rd_T75 l0_1 x29_2).f2) == 0)))) = true := c49
           clear c49
           obtain rfl := Option.some.inj H
           have p418 : 0 ≤ (x29_2 : Int) := of_decide_eq_true (by first | (with_reducible assumption) | assumption)
           have q418 : x29_2 < (l0_1.length : Int) := of_decide_eq_true (by first | (with_reducible assumption) | assumption)
           obtain ⟨ad418, e418, hx418_0, hx418_1, hx418_2, hx418_3, hx418_4, hx418_5, hx418_6, hx418_7, hx418_8, hx418_9, hx418_10, hx418_11, hx418_12, hx418_13, hx418_14, hx418_15⟩ := at_T75 HR0_1.out x29_2 p418 q418
           (try rw [← Nbq18.out] at hx418_0)
           cases e418
           replace hx418_0 := Gv.bx HB.out hx418_0
           replace hx418_1 := Gv.bx HB.out hx418_1
           replace hx418_2 := Gv.bx HB.out hx418_2
           replace hx418_3 := Gv.bx HB.out hx418_3
           replace hx418_4 := Gv.bx HB.out hx418_4
           replace hx418_5 := Gv.bx HB.out hx418_5
           replace hx418_6 := Gv.bx HB.out hx418_6
           replace hx418_7 := Gv.bx HB.out hx418_7
           replace hx418_8 := Gv.bx HB.out hx418_8
           replace hx418_9 := Gv.bx HB.out hx418_9
           replace hx418_10 := Gv.bx HB.out hx418_10
           replace hx418_11 := Gv.bx HB.out hx418_11
           replace hx418_12 := Gv.bx HB.out hx418_12
           replace hx418_13 := Gv.bx HB.out hx418_13
           replace hx418_14 := Gv.bx HB.out hx418_14
           replace hx418_15 := Gv.bx HB.out hx418_15
           replace p418 := eq_true p418
           replace q418 := eq_true q418
           go_wp2_with (first | ((with_reducible refine gate_dst (N := 4) rfl ?_); (try (refine gate_guard (by rfl) ?_; dsimp only)); refine box_event ?hg (N := 4) ?hd (cs := #[.bool false, .int .i64 0, .int .i64 0, .int .i64 0, .int .i64 0, .int .i64 0, .int .i64 0, .int .i64 0, .int .i64 0, .int .i64 0, .int .i64 0, .int .i64 0, .int .i64 0, .int .i64 0, .int .i64 0, .int .i64 0]) (t := 75) ?hr ?_; (case hd => rfl); (case hg => rfl); (case hr => first | (go_simp; done) | (go_simp; rfl)); intro gb419 hg w50 hbox hb; have n0_ := Gv.a0 (Gv.bb BK414.out hb); have n1_ := Gv.a0 (below_step Gv.bw hb); have n2_ := Gv.a0 (hbox); have n3_ := Gv.a0 ((Gv.ble hg Gv.bw : w.heap.size ≤ gb419)); have n4_ := Gv.a0 ((Gv.ble hg Gv.bw : w.heap.size ≤ gb419)); have n5_ := Gv.a0 ((Gv.nlt hg (Gv.kb BK414.out) : gb414 ≠ gb419)); have n6_ := Gv.a0 ((Gv.ngt hg (Gv.kb BK414.out) : gb419 ≠ gb414)); clear BK414; clear HB; have BK414 := n0_; have HB := n1_; have BK419 := n2_; have GW419 := n3_; have GE419 := n4_; have NB414_419 := n5_; have NB419_414 := n6_; clear n0_ n1_ n2_ n3_ n4_ n5_ n6_; clear hb hbox hg; have hnb51 := NB419_414.out; have hnc51 := NB414_419.out; obtain ⟨hcz52_0, hcz52_1, hcz52_2, hcz52_3, hcz52_4, hcz52_5, hcz52_6, hcz52_7, hcz52_8, hcz52_9, hcz52_10, hcz52_11, hcz52_12, hcz52_13, hcz52_14, hcz52_15⟩ := Gv.c16 BK419.out; obtain ⟨hfz52_0, hfz52_1, hfz52_2, hfz52_3, hfz52_4, hfz52_5, hfz52_6, hfz52_7, hfz52_8, hfz52_9, hfz52_10, hfz52_11, hfz52_12, hfz52_13, hfz52_14, hfz52_15⟩ := Gv.f16 BK419.out) | ((with_reducible refine gate_store (t := 75) (p := 4) rfl ?_); refine Gv.store_event rfl rfl rfl rfl rfl (Gv.kb BK419.out) (by kernel_rfl) rfl (by simp; and_intros <;> rfl) ?_; intro w50s hbox hoth hbel; have n0_ := Gv.a0 (hbox); have n1_ := Gv.a0 (hbel w Gv.bw GE419.out); have n2_ := Gv.a0 ((hoth gb414 NB414_419.out).trans (Gv.kb BK414.out)); clear BK419 HB BK414; have BK419 := n0_; have HB := n1_; have BK414 := n2_; clear n0_ n1_ n2_ hbox hoth hbel; (try clear hcz52_0 hcz52_1 hcz52_2 hcz52_3 hcz52_4 hcz52_5 hcz52_6 hcz52_7 hcz52_8 hcz52_9 hcz52_10 hcz52_11 hcz52_12 hcz52_13 hcz52_14 hcz52_15 hfz52_0 hfz52_1 hfz52_2 hfz52_3 hfz52_4 hfz52_5 hfz52_6 hfz52_7 hfz52_8 hfz52_9 hfz52_10 hfz52_11 hfz52_12 hfz52_13 hfz52_14 hfz52_15); obtain ⟨hcz52_0, hcz52_1, hcz52_2, hcz52_3, hcz52_4, hcz52_5, hcz52_6, hcz52_7, hcz52_8, hcz52_9, hcz52_10, hcz52_11, hcz52_12, hcz52_13, hcz52_14, hcz52_15⟩ := Gv.c16 BK419.out; obtain ⟨hfz52_0, hfz52_1, hfz52_2, hfz52_3, hfz52_4, hfz52_5, hfz52_6, hfz52_7, hfz52_8, hfz52_9, hfz52_10, hfz52_11, hfz52_12, hfz52_13, hfz52_14, hfz52_15⟩ := Gv.f16 BK419.out) | ((with_reducible refine Gv.gate_load (t := 75) rfl ?_); (try (refine gate_guard (by rfl) ?_; dsimp only)); refine wpList_load_row rfl 75 _ rfl gb419 rfl 75 _ _ _ (Gv.kbp BK419.out) Try.underlying75 rfl (by kernel_rfl) ?_) | ((with_reducible refine Gv.gate_load (t := 75) rfl ?_); refine Gv.load_event (cs := [_, _, _, _, _, _, _, _, _, _, _, _, _, _, _, _]) rfl rfl rfl ⟨hx418_0, hx418_1, hx418_2, hx418_3, hx418_4, hx418_5, hx418_6, hx418_7, hx418_8, hx418_9, hx418_10, hx418_11, hx418_12, hx418_13, hx418_14, hx418_15, trivial⟩ Try.underlying75 rfl (by kernel_rfl) ?_))
           go_ret
           exact ⟨by first | rfl | (simp [errW_none, errW_some] <;> rfl) | (simp [*, errW_none, errW_some] <;> rfl), by repeat (first | (with_reducible first | exact HB.out | apply below_alloc | apply pw_below_drewN | apply below_drew1 | refine below_set ?_ GE414.out | refine below_set ?_ GE419.out) | exact HB.out)⟩
          ·rw [if_neg c49] at H
           have c49b0 : (((!(((rd_T75 l0_1 x29_2).f1.f0) == 0) || (((!(((rd_T75 l0_1 x29_2).f1.f1.f0.f0) == 0) || (!(((rd_T75 l0_1 x29_2).f1.f1.f0.f1) == 0) || (!(((rd_T75 l0_1 x29_2).f1.f1.f0.f2) == 0) || (!(((rd_T75 l0_1 x29_2).f1.f1.f0.f3) == 0) || (!(((rd_T75 l0_1 x29_2).f1.f1.f0.f4) == 0)))))) || ((!(((rd_T75 l0_1 x29_2).f1.f1.f1.f0) == 0) || (!(((rd_T75 l0_1 x29_2).f1.f1.f1.f1) == 0) || (!(((rd_T75 l0_1 x29_2).f1.f1.f1.f2) == 0) || (!(((rd_T75 l0_1 x29_2).f1.f1.f1.f3) == 0) || (!(((rd_T75 l0_1 x29_2).f1.f1.f1.f4) == 0)))))) || (!(((rd_T75 l0_1 x29_2).f1.f1.f2) == 0) || (!(((rd_T75 l0_1 x29_2).f1.f1.f3) == 0) || (!(((rd_T75 l0_1 x29_2).f1.f1.f4) == 0)))))))) || (!(((rd_T75 l0_1 x29_2).f2) == 0)))) = false := by simpa using c49
           clear c49
           have H' := Gv.a0 H
           clear H
           have p418 : 0 ≤ (x29_2 : Int) := of_decide_eq_true (by first | (with_reducible assumption) | assumption)
           have q418 : x29_2 < (l0_1.length : Int) := of_decide_eq_true (by first | (with_reducible assumption) | assumption)
           obtain ⟨ad418, e418, hx418_0, hx418_1, hx418_2, hx418_3, hx418_4, hx418_5, hx418_6, hx418_7, hx418_8, hx418_9, hx418_10, hx418_11, hx418_12, hx418_13, hx418_14, hx418_15⟩ := at_T75 HR0_1.out x29_2 p418 q418
           (try rw [← Nbq18.out] at hx418_0)
           cases e418
           replace hx418_0 := Gv.bx HB.out hx418_0
           replace hx418_1 := Gv.bx HB.out hx418_1
           replace hx418_2 := Gv.bx HB.out hx418_2
           replace hx418_3 := Gv.bx HB.out hx418_3
           replace hx418_4 := Gv.bx HB.out hx418_4
           replace hx418_5 := Gv.bx HB.out hx418_5
           replace hx418_6 := Gv.bx HB.out hx418_6
           replace hx418_7 := Gv.bx HB.out hx418_7
           replace hx418_8 := Gv.bx HB.out hx418_8
           replace hx418_9 := Gv.bx HB.out hx418_9
           replace hx418_10 := Gv.bx HB.out hx418_10
           replace hx418_11 := Gv.bx HB.out hx418_11
           replace hx418_12 := Gv.bx HB.out hx418_12
           replace hx418_13 := Gv.bx HB.out hx418_13
           replace hx418_14 := Gv.bx HB.out hx418_14
           replace hx418_15 := Gv.bx HB.out hx418_15
           replace p418 := eq_true p418
           replace q418 := eq_true q418
           go_wp2_with (first | ((with_reducible refine gate_dst (N := 4) rfl ?_); (try (refine gate_guard (by rfl) ?_; dsimp only)); refine box_event ?hg (N := 4) ?hd (cs := #[.bool false, .int .i64 0, .int .i64 0, .int .i64 0, .int .i64 0, .int .i64 0, .int .i64 0, .int .i64 0, .int .i64 0, .int .i64 0, .int .i64 0, .int .i64 0, .int .i64 0, .int .i64 0, .int .i64 0, .int .i64 0]) (t := 75) ?hr ?_; (case hd => rfl); (case hg => rfl); (case hr => first | (go_simp; done) | (go_simp; rfl)); intro gb419 hg w53 hbox hb; have n0_ := Gv.a0 (Gv.bb BK414.out hb); have n1_ := Gv.a0 (below_step Gv.bw hb); have n2_ := Gv.a0 (hbox); have n3_ := Gv.a0 ((Gv.ble hg Gv.bw : w.heap.size ≤ gb419)); have n4_ := Gv.a0 ((Gv.ble hg Gv.bw : w.heap.size ≤ gb419)); have n5_ := Gv.a0 ((Gv.nlt hg (Gv.kb BK414.out) : gb414 ≠ gb419)); have n6_ := Gv.a0 ((Gv.ngt hg (Gv.kb BK414.out) : gb419 ≠ gb414)); clear BK414; clear HB; have BK414 := n0_; have HB := n1_; have BK419 := n2_; have GW419 := n3_; have GE419 := n4_; have NB414_419 := n5_; have NB419_414 := n6_; clear n0_ n1_ n2_ n3_ n4_ n5_ n6_; clear hb hbox hg; have hnb54 := NB419_414.out; have hnc54 := NB414_419.out; obtain ⟨hcz55_0, hcz55_1, hcz55_2, hcz55_3, hcz55_4, hcz55_5, hcz55_6, hcz55_7, hcz55_8, hcz55_9, hcz55_10, hcz55_11, hcz55_12, hcz55_13, hcz55_14, hcz55_15⟩ := Gv.c16 BK419.out; obtain ⟨hfz55_0, hfz55_1, hfz55_2, hfz55_3, hfz55_4, hfz55_5, hfz55_6, hfz55_7, hfz55_8, hfz55_9, hfz55_10, hfz55_11, hfz55_12, hfz55_13, hfz55_14, hfz55_15⟩ := Gv.f16 BK419.out) | ((with_reducible refine gate_store (t := 75) (p := 4) rfl ?_); refine Gv.store_event rfl rfl rfl rfl rfl (Gv.kb BK419.out) (by kernel_rfl) rfl (by simp; and_intros <;> rfl) ?_; intro w53s hbox hoth hbel; have n0_ := Gv.a0 (hbox); have n1_ := Gv.a0 (hbel w Gv.bw GE419.out); have n2_ := Gv.a0 ((hoth gb414 NB414_419.out).trans (Gv.kb BK414.out)); clear BK419 HB BK414; have BK419 := n0_; have HB := n1_; have BK414 := n2_; clear n0_ n1_ n2_ hbox hoth hbel; (try clear hcz55_0 hcz55_1 hcz55_2 hcz55_3 hcz55_4 hcz55_5 hcz55_6 hcz55_7 hcz55_8 hcz55_9 hcz55_10 hcz55_11 hcz55_12 hcz55_13 hcz55_14 hcz55_15 hfz55_0 hfz55_1 hfz55_2 hfz55_3 hfz55_4 hfz55_5 hfz55_6 hfz55_7 hfz55_8 hfz55_9 hfz55_10 hfz55_11 hfz55_12 hfz55_13 hfz55_14 hfz55_15); obtain ⟨hcz55_0, hcz55_1, hcz55_2, hcz55_3, hcz55_4, hcz55_5, hcz55_6, hcz55_7, hcz55_8, hcz55_9, hcz55_10, hcz55_11, hcz55_12, hcz55_13, hcz55_14, hcz55_15⟩ := Gv.c16 BK419.out; obtain ⟨hfz55_0, hfz55_1, hfz55_2, hfz55_3, hfz55_4, hfz55_5, hfz55_6, hfz55_7, hfz55_8, hfz55_9, hfz55_10, hfz55_11, hfz55_12, hfz55_13, hfz55_14, hfz55_15⟩ := Gv.f16 BK419.out) | ((with_reducible refine Gv.gate_load (t := 75) rfl ?_); (try (refine gate_guard (by rfl) ?_; dsimp only)); refine wpList_load_row rfl 75 _ rfl gb419 rfl 75 _ _ _ (Gv.kbp BK419.out) Try.underlying75 rfl (by kernel_rfl) ?_) | ((with_reducible refine Gv.gate_load (t := 75) rfl ?_); refine Gv.load_event (cs := [_, _, _, _, _, _, _, _, _, _, _, _, _, _, _, _]) rfl rfl rfl ⟨hx418_0, hx418_1, hx418_2, hx418_3, hx418_4, hx418_5, hx418_6, hx418_7, hx418_8, hx418_9, hx418_10, hx418_11, hx418_12, hx418_13, hx418_14, hx418_15, trivial⟩ Try.underlying75 rfl (by kernel_rfl) ?_))
           go_roundg k2
           case measure => have := HJ1.out; have := HK2.out; omega
           case rel => exact ⟨(wrap64 (x29_2 + 1)), (by first | rfl | (simp; done) | (simp [Int.tdiv_eq_ediv_of_nonneg]; done) | (simp [*]; done)), H', ⟨by have := HJ1.out; have := HK2.out; omega⟩, ⟨by (with_reducible repeat (first | refine blk_drewN ?_ _ | refine blk_drew ?_ | refine blk_alloc ?_ _)); (repeat (refine blk_far ?_ NB414_419.out _; (with_reducible repeat (first | refine blk_drewN ?_ _ | refine blk_drew ?_ | refine blk_alloc ?_ _)))); (with_reducible repeat (first | refine blk_drewN ?_ _ | refine blk_drew ?_ | refine blk_alloc ?_ _)); exact BK414.out⟩, ⟨by repeat (first | (with_reducible first | exact HB.out | apply below_alloc | apply pw_below_drewN | apply below_drew1 | refine below_set ?_ GE414.out | refine below_set ?_ GE419.out) | exact HB.out)⟩⟩
        ·rw [if_neg c17] at H
         exact absurd H (by simp)
       ·rw [if_neg c16] at H
        exact absurd H (by simp)
      ·rw [if_neg c15] at H
       have c15b0 : decide (x29_2 < (l0_1.length : Int)) = false := decide_eq_false c15
       clear c15
       obtain rfl := Option.some.inj H
       go_wp2_with (first | ((with_reducible refine Gv.gate_load (t := 75) rfl ?_); (try (refine gate_guard (by rfl) ?_; dsimp only)); refine wpList_load_row rfl 75 _ rfl gb419 rfl 75 _ _ _ (Gv.kbp BK419.out) Try.underlying75 rfl (by kernel_rfl) ?_))
       go_ret
       exact ⟨by first | rfl | (simp [errW_none, errW_some] <;> rfl) | (simp [*, errW_none, errW_some] <;> rfl), by repeat (first | (with_reducible first | exact HB.out | apply below_alloc | apply pw_below_drewN | apply below_drew1 | refine below_set ?_ GE414.out) | exact HB.out)⟩

/-! ### impl_TableUsed: function 28 -/
def impl_TableUsed.f (k : Nat) (a0_0 : Int) (l0_1 : List (S75)) : Option (Int) := (impl_TableOk.f k a0_0 l0_1).bind fun t424 => (if t424 = true then ((impl_Table_used.f k a0_0 l0_1).bind fun t425 => (some t425)) else (some (-1)))
theorem impl_TableUsed.mono : ∀ a0 a1 k, LeO (impl_TableUsed.f k a0 a1) (impl_TableUsed.f (k + 1) a0 a1) := by
 intro a0 a1 k
 unfold impl_TableUsed.f
 repeat' first
   | (with_reducible exact impl_TableOk.mono _ _ _)
   | (with_reducible exact impl_Table_used.mono _ _ _)
   | (with_reducible exact LeO.refl _)
   | (with_reducible exact LeO.none _)
   | (with_reducible refine LeO.ite ?_ ?_)
   | (with_reducible refine LeO.bind ?_ (fun _ => ?_))
   | exact impl_TableOk.mono _ _ _
   | exact impl_Table_used.mono _ _ _
   | exact LeO.none _
   | refine LeO.ite ?_ ?_
   | refine LeO.bind ?_ (fun _ => ?_)
set_option maxHeartbeats 8000000 in
set_option maxRecDepth 100000 in
theorem impl_TableUsed.calls (k : Nat) (a0_0 : Int) (A0_1 : Option Addr) (c0_1 : Nat) (l0_1 : List (S75)) (r : Int) (w : World) (hr0_1 : Kd.C k75 w A0_1 l0_1.length l0_1) (hc0_1 : l0_1.length ≤ c0_1) (h : impl_TableUsed.f k a0_0 l0_1 = some r) :
  Calls Try.prog 28 #[.agg #[.int .i64 a0_0, .slice A0_1 l0_1.length c0_1]] w fun e w' => e = .returned (.int .i64 r) ∧ Below w.heap.size w w' := by
 have hu40 := Try.underlying40
 have HR0_1 := Gv.a0 hr0_1
 have HC0_1 := Gv.a0 hc0_1
 clear hr0_1 hc0_1
 have HB := Gv.a0 (Below.refl w.heap.size w)
 have H : ((impl_TableOk.f k a0_0 l0_1).bind fun t424 => (if t424 = true then ((impl_Table_used.f k a0_0 l0_1).bind fun t425 => (some t425)) else (some (-1)))) = some r := h
 clear h
 replace H := Option.bind_eq_some_iff.mp H
 obtain ⟨t424, A20, H⟩ := H
 replace H : (if t424 = true then ((impl_Table_used.f k a0_0 l0_1).bind fun t425 => (some t425)) else (some (-1))) = some r := H
 have A2 := Gv.a0 A20
 clear A20
 by_cases c3 : t424 = true
 ·subst c3
  have H1 : ((impl_Table_used.f k a0_0 l0_1).bind fun t425 => (some t425)) = some r := by rw [if_pos rfl] at H; exact H
  clear H
  have H := H1
  clear H1
  replace H := Option.bind_eq_some_iff.mp H
  obtain ⟨t425, A40, H⟩ := H
  replace H : (some t425) = some r := H
  have A4 := Gv.a0 A40
  clear A40
  obtain rfl := Option.some.inj H
  go_enter Try.func28, Try.ntmps28
  go_wp2_with (first | ((with_reducible refine gate_dst (N := 1) rfl ?_); refine box_event ?hg (N := 1) ?hd (cs := #[.int .i64 a0_0, .slice A0_1 l0_1.length c0_1]) (t := 40) ?hr ?_; (case hd => rfl); (case hg => rfl); (case hr => first | (go_simp; done) | (go_simp; rfl)); intro gb423 hg w5 hbox hb; have n0_ := Gv.a0 (below_step Gv.bw hb); have n1_ := Gv.a0 (hbox); have n2_ := Gv.a0 ((Gv.ble hg Gv.bw : w.heap.size ≤ gb423)); have n3_ := Gv.a0 ((Gv.ble hg Gv.bw : w.heap.size ≤ gb423)); clear HB; have HB := n0_; have BK423 := n1_; have GW423 := n2_; have GE423 := n3_; clear n0_ n1_ n2_ n3_; clear hb hbox hg; have hcz6_0 : w5.cell? ⟨gb423, 0, none⟩ = some (.int .i64 a0_0) := (blk_cell BK423.out 0).trans rfl; have hcz6_1 : w5.cell? ⟨gb423, 1, none⟩ = some (.slice A0_1 l0_1.length c0_1) := (blk_cell BK423.out 1).trans rfl; have hfz6_0 := blk_frozen BK423.out 0; have hfz6_1 := blk_frozen BK423.out 1) | ((with_reducible refine gate_callee (f := 26) rfl ?_); refine goesL_ (some 4) rfl rfl Try.func26 (by kernel_rfl) rfl #[.agg #[.int .i64 a0_0, .slice A0_1 l0_1.length c0_1]] rfl Gv.lm ?_; (with_reducible refine (impl_TableOk.calls k a0_0 _ _ l0_1 true _ ?side1 ?side2 A2.out).mono ?_); (case side1 => repeat (first | exact (Kd.C_below HR0_1.out HB.out) | (with_reducible refine Kd.C_alloc ?_ _) | (with_reducible refine Kd.C_drewN ?_ _) | (with_reducible refine Kd.C_drew ?_))); (case side2 => exact HC0_1.out); rintro e w7 ⟨rfl, hb⟩; refine ⟨_, rfl, ?_⟩; have n0_ := Gv.a0 (Gv.bb BK423.out hb); have n1_ := Gv.a0 (below_step Gv.bw hb); clear BK423; clear HB; have BK423 := n0_; have HB := n1_; clear n0_ n1_; (try clear hb); (try clear hb2); (try clear hk); (try clear hi); have hcz8_0 : w7.cell? ⟨gb423, 0, none⟩ = some (.int .i64 a0_0) := (blk_cell BK423.out 0).trans rfl; have hcz8_1 : w7.cell? ⟨gb423, 1, none⟩ = some (.slice A0_1 l0_1.length c0_1) := (blk_cell BK423.out 1).trans rfl; have hfz8_0 := blk_frozen BK423.out 0; have hfz8_1 := blk_frozen BK423.out 1) | ((with_reducible refine gate_callee (f := 57) rfl ?_); refine goesL_ (some 7) rfl rfl Try.func57 (by kernel_rfl) rfl #[.agg #[.int .i64 a0_0, .slice A0_1 l0_1.length c0_1]] rfl Gv.lm ?_; (with_reducible refine (impl_Table_used.calls k a0_0 _ _ l0_1 t425 _ ?side1 ?side2 A4.out).mono ?_); (case side1 => repeat (first | exact (Kd.C_below HR0_1.out HB.out) | (with_reducible refine Kd.C_alloc ?_ _) | (with_reducible refine Kd.C_drewN ?_ _) | (with_reducible refine Kd.C_drew ?_))); (case side2 => exact HC0_1.out); rintro e w9 ⟨rfl, hb⟩; refine ⟨_, rfl, ?_⟩; have n0_ := Gv.a0 (Gv.bb BK423.out hb); have n1_ := Gv.a0 (below_step Gv.bw hb); clear BK423; clear HB; have BK423 := n0_; have HB := n1_; clear n0_ n1_; (try clear hb); (try clear hb2); (try clear hk); (try clear hi)))
  go_ret
  exact ⟨by first | rfl | (simp [errW_none, errW_some] <;> rfl) | (simp [*, errW_none, errW_some] <;> rfl), by repeat (first | (with_reducible first | exact HB.out | apply below_alloc | apply pw_below_drewN | apply below_drew1 | refine below_set ?_ GE423.out) | exact HB.out)⟩
 ·replace c3 := Bool.eq_false_iff.mpr c3
  subst c3
  have H1 : (some (-1)) = some r := by rw [if_neg (show ¬ (false = true) by decide)] at H; exact H
  clear H
  have H := H1
  clear H1
  obtain rfl := Option.some.inj H
  go_enter Try.func28, Try.ntmps28
  go_wp2_with (first | ((with_reducible refine gate_dst (N := 1) rfl ?_); refine box_event ?hg (N := 1) ?hd (cs := #[.int .i64 a0_0, .slice A0_1 l0_1.length c0_1]) (t := 40) ?hr ?_; (case hd => rfl); (case hg => rfl); (case hr => first | (go_simp; done) | (go_simp; rfl)); intro gb423 hg w10 hbox hb; have n0_ := Gv.a0 (below_step Gv.bw hb); have n1_ := Gv.a0 (hbox); have n2_ := Gv.a0 ((Gv.ble hg Gv.bw : w.heap.size ≤ gb423)); have n3_ := Gv.a0 ((Gv.ble hg Gv.bw : w.heap.size ≤ gb423)); clear HB; have HB := n0_; have BK423 := n1_; have GW423 := n2_; have GE423 := n3_; clear n0_ n1_ n2_ n3_; clear hb hbox hg; have hcz11_0 : w10.cell? ⟨gb423, 0, none⟩ = some (.int .i64 a0_0) := (blk_cell BK423.out 0).trans rfl; have hcz11_1 : w10.cell? ⟨gb423, 1, none⟩ = some (.slice A0_1 l0_1.length c0_1) := (blk_cell BK423.out 1).trans rfl; have hfz11_0 := blk_frozen BK423.out 0; have hfz11_1 := blk_frozen BK423.out 1) | ((with_reducible refine gate_callee (f := 26) rfl ?_); refine goesL_ (some 4) rfl rfl Try.func26 (by kernel_rfl) rfl #[.agg #[.int .i64 a0_0, .slice A0_1 l0_1.length c0_1]] rfl Gv.lm ?_; (with_reducible refine (impl_TableOk.calls k a0_0 _ _ l0_1 false _ ?side1 ?side2 A2.out).mono ?_); (case side1 => repeat (first | exact (Kd.C_below HR0_1.out HB.out) | (with_reducible refine Kd.C_alloc ?_ _) | (with_reducible refine Kd.C_drewN ?_ _) | (with_reducible refine Kd.C_drew ?_))); (case side2 => exact HC0_1.out); rintro e w12 ⟨rfl, hb⟩; refine ⟨_, rfl, ?_⟩; have n0_ := Gv.a0 (Gv.bb BK423.out hb); have n1_ := Gv.a0 (below_step Gv.bw hb); clear BK423; clear HB; have BK423 := n0_; have HB := n1_; clear n0_ n1_; (try clear hb); (try clear hb2); (try clear hk); (try clear hi)))
  go_ret
  exact ⟨by first | rfl | (simp [errW_none, errW_some] <;> rfl) | (simp [*, errW_none, errW_some] <;> rfl), by repeat (first | (with_reducible first | exact HB.out | apply below_alloc | apply pw_below_drewN | apply below_drew1 | refine below_set ?_ GE423.out) | exact HB.out)⟩

/-! ### laws_FnExactTableUsed: function 7 -/
def laws_FnExactTableUsed.f (k : Nat) (a0_0 : Int) (l0_1 : List (S94)) : Option (Bool) := (laws_szTable.f a0_0 l0_1 1048576).bind fun t427 => (if t427 < 0 then (some true) else ((laws_toTable.f k a0_0 l0_1).bind fun bt428 => ((spec_TableUsed.f k bt428.1 bt428.2).bind fun t432 => ((laws_toTable.f k a0_0 l0_1).bind fun bt433 => ((impl_TableUsed.f k bt433.1 bt433.2).bind fun t438 => (if t438 = t432 then ((laws_toTable.f k a0_0 l0_1).bind fun bt439 => ((laws_eqTable.f k bt433.1 bt433.2 bt439.1 bt439.2).bind fun t443 => (if t443 = true then (some true) else (none)))) else (none)))))))
theorem laws_FnExactTableUsed.mono : ∀ a0 a1 k, LeO (laws_FnExactTableUsed.f k a0 a1) (laws_FnExactTableUsed.f (k + 1) a0 a1) := by
 intro a0 a1 k
 unfold laws_FnExactTableUsed.f
 repeat' first
   | (with_reducible exact impl_TableUsed.mono _ _ _)
   | (with_reducible exact laws_eqTable.mono _ _ _ _ _)
   | (with_reducible exact laws_toTable.mono _ _ _)
   | (with_reducible exact spec_TableUsed.mono _ _ _)
   | (with_reducible exact LeO.refl _)
   | (with_reducible exact LeO.none _)
   | (with_reducible refine LeO.ite ?_ ?_)
   | (with_reducible refine LeO.bind ?_ (fun _ => ?_))
   | exact impl_TableUsed.mono _ _ _
   | exact laws_eqTable.mono _ _ _ _ _
   | exact laws_toTable.mono _ _ _
   | exact spec_TableUsed.mono _ _ _
   | exact LeO.none _
   | refine LeO.ite ?_ ?_
   | refine LeO.bind ?_ (fun _ => ?_)
set_option maxHeartbeats 8000000 in
set_option maxRecDepth 100000 in
theorem laws_FnExactTableUsed.calls (k : Nat) (a0_0 : Int) (A0_1 : Option Addr) (c0_1 : Nat) (l0_1 : List (S94)) (r : Bool) (w : World) (hr0_1 : Kd.C k94 w A0_1 l0_1.length l0_1) (hc0_1 : l0_1.length ≤ c0_1) (h : laws_FnExactTableUsed.f k a0_0 l0_1 = some r) :
  Calls Try.prog 7 #[.agg #[.int .i64 a0_0, .slice A0_1 l0_1.length c0_1]] w fun e w' => e = .returned (.bool r) ∧ Below w.heap.size w w' := by
 have hu47 := Try.underlying47
 have hu40 := Try.underlying40
 have HR0_1 := Gv.a0 hr0_1
 have HC0_1 := Gv.a0 hc0_1
 clear hr0_1 hc0_1
 have HB := Gv.a0 (Below.refl w.heap.size w)
 have H : ((laws_szTable.f a0_0 l0_1 1048576).bind fun t427 => (if t427 < 0 then (some true) else ((laws_toTable.f k a0_0 l0_1).bind fun bt428 => ((spec_TableUsed.f k bt428.1 bt428.2).bind fun t432 => ((laws_toTable.f k a0_0 l0_1).bind fun bt433 => ((impl_TableUsed.f k bt433.1 bt433.2).bind fun t438 => (if t438 = t432 then ((laws_toTable.f k a0_0 l0_1).bind fun bt439 => ((laws_eqTable.f k bt433.1 bt433.2 bt439.1 bt439.2).bind fun t443 => (if t443 = true then (some true) else (none)))) else (none)))))))) = some r := h
 clear h
 replace H := Option.bind_eq_some_iff.mp H
 obtain ⟨t427, A20, H⟩ := H
 replace H : (if t427 < 0 then (some true) else ((laws_toTable.f k a0_0 l0_1).bind fun bt428 => ((spec_TableUsed.f k bt428.1 bt428.2).bind fun t432 => ((laws_toTable.f k a0_0 l0_1).bind fun bt433 => ((impl_TableUsed.f k bt433.1 bt433.2).bind fun t438 => (if t438 = t432 then ((laws_toTable.f k a0_0 l0_1).bind fun bt439 => ((laws_eqTable.f k bt433.1 bt433.2 bt439.1 bt439.2).bind fun t443 => (if t443 = true then (some true) else (none)))) else (none))))))) = some r := H
 have A2 := Gv.a0 A20
 clear A20
 by_cases c3 : t427 < 0
 ·rw [if_pos c3] at H
  have c3b0 : decide (t427 < 0) = true := decide_eq_true c3
  clear c3
  obtain rfl := Option.some.inj H
  go_enter Try.func7, Try.ntmps7
  go_wp2_with (first | ((with_reducible refine gate_dst (N := 1) rfl ?_); refine box_event ?hg (N := 1) ?hd (cs := #[.int .i64 a0_0, .slice A0_1 l0_1.length c0_1]) (t := 47) ?hr ?_; (case hd => rfl); (case hg => rfl); (case hr => first | (go_simp; done) | (go_simp; rfl)); intro gb426 hg w4 hbox hb; have n0_ := Gv.a0 (below_step Gv.bw hb); have n1_ := Gv.a0 (hbox); have n2_ := Gv.a0 ((Gv.ble hg Gv.bw : w.heap.size ≤ gb426)); have n3_ := Gv.a0 ((Gv.ble hg Gv.bw : w.heap.size ≤ gb426)); clear HB; have HB := n0_; have BK426 := n1_; have GW426 := n2_; have GE426 := n3_; clear n0_ n1_ n2_ n3_; clear hb hbox hg; have hcz5_0 : w4.cell? ⟨gb426, 0, none⟩ = some (.int .i64 a0_0) := (blk_cell BK426.out 0).trans rfl; have hcz5_1 : w4.cell? ⟨gb426, 1, none⟩ = some (.slice A0_1 l0_1.length c0_1) := (blk_cell BK426.out 1).trans rfl; have hfz5_0 := blk_frozen BK426.out 0; have hfz5_1 := blk_frozen BK426.out 1) | ((with_reducible refine gate_callee (f := 23) rfl ?_); refine goesL_ (some 9) rfl rfl Try.func23 (by kernel_rfl) rfl #[.agg #[.int .i64 a0_0, .slice A0_1 l0_1.length c0_1], .int .i64 1048576] rfl Gv.lm ?_; (with_reducible refine (laws_szTable.calls a0_0 _ _ l0_1 1048576 t427 _ ?side1 ?side2 A2.out).mono ?_); (case side1 => repeat (first | exact (Kd.C_below HR0_1.out HB.out) | (with_reducible refine Kd.C_alloc ?_ _) | (with_reducible refine Kd.C_drewN ?_ _) | (with_reducible refine Kd.C_drew ?_))); (case side2 => exact HC0_1.out); rintro e w6 ⟨rfl, hb⟩; refine ⟨_, rfl, ?_⟩; have n0_ := Gv.a0 (Gv.bb BK426.out hb); have n1_ := Gv.a0 (below_step Gv.bw hb); clear BK426; clear HB; have BK426 := n0_; have HB := n1_; clear n0_ n1_; (try clear hb); (try clear hb2); (try clear hk); (try clear hi)))
  go_ret
  exact ⟨by first | rfl | (simp [errW_none, errW_some] <;> rfl) | (simp [*, errW_none, errW_some] <;> rfl), by repeat (first | (with_reducible first | exact HB.out | apply below_alloc | apply pw_below_drewN | apply below_drew1 | refine below_set ?_ GE426.out) | exact HB.out)⟩
 ·rw [if_neg c3] at H
  have c3b0 : decide (t427 < 0) = false := decide_eq_false c3
  clear c3
  replace H := Option.bind_eq_some_iff.mp H
  obtain ⟨⟨t428, t429⟩, A70, H⟩ := H
  replace H : ((spec_TableUsed.f k t428 t429).bind fun t432 => ((laws_toTable.f k a0_0 l0_1).bind fun bt433 => ((impl_TableUsed.f k bt433.1 bt433.2).bind fun t438 => (if t438 = t432 then ((laws_toTable.f k a0_0 l0_1).bind fun bt439 => ((laws_eqTable.f k bt433.1 bt433.2 bt439.1 bt439.2).bind fun t443 => (if t443 = true then (some true) else (none)))) else (none))))) = some r := H
  have A7 := Gv.a0 A70
  clear A70
  replace H := Option.bind_eq_some_iff.mp H
  obtain ⟨t432, A80, H⟩ := H
  replace H : ((laws_toTable.f k a0_0 l0_1).bind fun bt433 => ((impl_TableUsed.f k bt433.1 bt433.2).bind fun t438 => (if t438 = t432 then ((laws_toTable.f k a0_0 l0_1).bind fun bt439 => ((laws_eqTable.f k bt433.1 bt433.2 bt439.1 bt439.2).bind fun t443 => (if t443 = true then (some true) else (none)))) else (none)))) = some r := H
  have A8 := Gv.a0 A80
  clear A80
  replace H := Option.bind_eq_some_iff.mp H
  obtain ⟨⟨t433, t434⟩, A90, H⟩ := H
  replace H : ((impl_TableUsed.f k t433 t434).bind fun t438 => (if t438 = t432 then ((laws_toTable.f k a0_0 l0_1).bind fun bt439 => ((laws_eqTable.f k t433 t434 bt439.1 bt439.2).bind fun t443 => (if t443 = true then (some true) else (none)))) else (none))) = some r := H
  have A9 := Gv.a0 A90
  clear A90
  replace H := Option.bind_eq_some_iff.mp H
  obtain ⟨t438, A100, H⟩ := H
  replace H : (if t438 = t432 then ((laws_toTable.f k a0_0 l0_1).bind fun bt439 => ((laws_eqTable.f k t433 t434 bt439.1 bt439.2).bind fun t443 => (if t443 = true then (some true) else (none)))) else (none)) = some r := H
  have A10 := Gv.a0 A100
  clear A100
  by_cases c11 : t438 = t432
  ·rw [if_pos c11] at H
   have c11b0 : (t438 == t432) = true := beq_iff_eq.mpr c11
   have c11b1 : (t438 != t432) = false := bne_eq_false_iff_eq.mpr c11
   clear c11
   replace H := Option.bind_eq_some_iff.mp H
   obtain ⟨⟨t439, t440⟩, A120, H⟩ := H
   replace H : ((laws_eqTable.f k t433 t434 t439 t440).bind fun t443 => (if t443 = true then (some true) else (none))) = some r := H
   have A12 := Gv.a0 A120
   clear A120
   replace H := Option.bind_eq_some_iff.mp H
   obtain ⟨t443, A130, H⟩ := H
   replace H : (if t443 = true then (some true) else (none)) = some r := H
   have A13 := Gv.a0 A130
   clear A130
   by_cases c14 : t443 = true
   ·subst c14
    have H1 : (some true) = some r := by rw [if_pos rfl] at H; exact H
    clear H
    have H := H1
    clear H1
    obtain rfl := Option.some.inj H
    go_enter Try.func7, Try.ntmps7
    try go_wp2_with (first | ((with_reducible refine gate_dst (N := 1) rfl ?_); refine box_event ?hg (N := 1) ?hd (cs := #[.int .i64 a0_0, .slice A0_1 l0_1.length c0_1]) (t := 47) ?hr ?_; (case hd => rfl); (case hg => rfl); (case hr => first | (go_simp; done) | (go_simp; rfl)); intro gb426 hg w15 hbox hb; have n0_ := Gv.a0 (below_step Gv.bw hb); have n1_ := Gv.a0 (hbox); have n2_ := Gv.a0 ((Gv.ble hg Gv.bw : w.heap.size ≤ gb426)); have n3_ := Gv.a0 ((Gv.ble hg Gv.bw : w.heap.size ≤ gb426)); clear HB; have HB := n0_; have BK426 := n1_; have GW426 := n2_; have GE426 := n3_; clear n0_ n1_ n2_ n3_; clear hb hbox hg; have hcz16_0 : w15.cell? ⟨gb426, 0, none⟩ = some (.int .i64 a0_0) := (blk_cell BK426.out 0).trans rfl; have hcz16_1 : w15.cell? ⟨gb426, 1, none⟩ = some (.slice A0_1 l0_1.length c0_1) := (blk_cell BK426.out 1).trans rfl; have hfz16_0 := blk_frozen BK426.out 0; have hfz16_1 := blk_frozen BK426.out 1) | ((with_reducible refine gate_callee (f := 23) rfl ?_); refine goesL_ (some 9) rfl rfl Try.func23 (by kernel_rfl) rfl #[.agg #[.int .i64 a0_0, .slice A0_1 l0_1.length c0_1], .int .i64 1048576] rfl Gv.lm ?_; (with_reducible refine (laws_szTable.calls a0_0 _ _ l0_1 1048576 t427 _ ?side1 ?side2 A2.out).mono ?_); (case side1 => repeat (first | exact (Kd.C_below HR0_1.out HB.out) | (with_reducible refine Kd.C_alloc ?_ _) | (with_reducible refine Kd.C_drewN ?_ _) | (with_reducible refine Kd.C_drew ?_))); (case side2 => exact HC0_1.out); rintro e w17 ⟨rfl, hb⟩; refine ⟨_, rfl, ?_⟩; have n0_ := Gv.a0 (Gv.bb BK426.out hb); have n1_ := Gv.a0 (below_step Gv.bw hb); clear BK426; clear HB; have BK426 := n0_; have HB := n1_; clear n0_ n1_; (try clear hb); (try clear hb2); (try clear hk); (try clear hi); have hcz18_0 : w17.cell? ⟨gb426, 0, none⟩ = some (.int .i64 a0_0) := (blk_cell BK426.out 0).trans rfl; have hcz18_1 : w17.cell? ⟨gb426, 1, none⟩ = some (.slice A0_1 l0_1.length c0_1) := (blk_cell BK426.out 1).trans rfl; have hfz18_0 := blk_frozen BK426.out 0; have hfz18_1 := blk_frozen BK426.out 1) | ((with_reducible refine gate_callee (f := 25) rfl ?_); refine goesL_ (some 13) rfl rfl Try.func25 (by kernel_rfl) rfl #[.agg #[.int .i64 a0_0, .slice A0_1 l0_1.length c0_1]] rfl Gv.lm ?_; (with_reducible refine (laws_toTable.calls k a0_0 _ _ l0_1 t428 t429 _ ?side1 ?side2 A7.out).mono ?_); (case side1 => repeat (first | exact (Kd.C_below HR0_1.out HB.out) | (with_reducible refine Kd.C_alloc ?_ _) | (with_reducible refine Kd.C_drewN ?_ _) | (with_reducible refine Kd.C_drew ?_))); (case side2 => exact HC0_1.out); rintro e w19 ⟨v430, rfl, ho0, hb⟩; refine ⟨_, rfl, ?_⟩; have n0_ := Gv.a0 (Kd.R_lower ho0 (below_size Gv.bw)); have n1_ := Gv.a0 (Gv.bb BK426.out hb); have n2_ := Gv.a0 (below_step Gv.bw hb); clear BK426; clear HB; have HO431 := n0_; have BK426 := n1_; have HB := n2_; clear n0_ n1_ n2_; (try clear hb); (try clear hb2); (try clear hk); (try clear hi); (try clear ho0); obtain ⟨Ao20, co20, eo20⟩ := Kd.R_slice HO431.out; subst eo20) | ((with_reducible refine gate_callee (f := 27) rfl ?_); refine goesL_ (some 14) rfl rfl Try.func27 (by kernel_rfl) rfl #[.agg #[.int .i64 t428, .slice Ao20 t429.length co20]] rfl Gv.lm ?_; (with_reducible refine (spec_TableUsed.calls k t428 _ _ t429 t432 _ ?side1 ?side2 A8.out).mono ?_); (case side1 => repeat (first | exact (Kd.R_reads' HO431.out).2.2 | (with_reducible refine Kd.C_alloc ?_ _) | (with_reducible refine Kd.C_drewN ?_ _) | (with_reducible refine Kd.C_drew ?_))); (case side2 => exact (Kd.R_reads' HO431.out).2.1); rintro e w21 ⟨rfl, hb⟩; refine ⟨_, rfl, ?_⟩; have n0_ := Gv.a0 (Kd.R_below (Gv.kr HO431.out) hb); have n1_ := Gv.a0 (Gv.bb BK426.out hb); have n2_ := Gv.a0 (below_step Gv.bw hb); clear HO431; clear BK426; clear HB; have HO431 := n0_; have BK426 := n1_; have HB := n2_; clear n0_ n1_ n2_; (try clear hb); (try clear hb2); (try clear hk); (try clear hi); have hcz22_0 : w21.cell? ⟨gb426, 0, none⟩ = some (.int .i64 a0_0) := (blk_cell BK426.out 0).trans rfl; have hcz22_1 : w21.cell? ⟨gb426, 1, none⟩ = some (.slice A0_1 l0_1.length c0_1) := (blk_cell BK426.out 1).trans rfl; have hfz22_0 := blk_frozen BK426.out 0; have hfz22_1 := blk_frozen BK426.out 1) | ((with_reducible refine gate_callee (f := 25) rfl ?_); refine goesL_ (some 16) rfl rfl Try.func25 (by kernel_rfl) rfl #[.agg #[.int .i64 a0_0, .slice A0_1 l0_1.length c0_1]] rfl Gv.lm ?_; (with_reducible refine (laws_toTable.calls k a0_0 _ _ l0_1 t433 t434 _ ?side1 ?side2 A9.out).mono ?_); (case side1 => repeat (first | exact (Kd.C_below HR0_1.out HB.out) | (with_reducible refine Kd.C_alloc ?_ _) | (with_reducible refine Kd.C_drewN ?_ _) | (with_reducible refine Kd.C_drew ?_))); (case side2 => exact HC0_1.out); rintro e w23 ⟨v435, rfl, ho0, hb⟩; refine ⟨_, rfl, ?_⟩; have n0_ := Gv.a0 (Kd.R_elder' (Gv.kr HO431.out) (Kd.R_base ho0) hb); have n1_ := Gv.a0 (Kd.R_lower (Kd.R_new' ho0 (Kd.R_lt (Gv.kr HO431.out))) (below_size Gv.bw)); have n2_ := Gv.a0 (Gv.bb BK426.out hb); have n3_ := Gv.a0 (below_step Gv.bw hb); clear HO431; clear BK426; clear HB; have HO431 := n0_; have HO436 := n1_; have BK426 := n2_; have HB := n3_; clear n0_ n1_ n2_ n3_; (try clear hb); (try clear hb2); (try clear hk); (try clear hi); (try clear ho0)) | ((with_reducible refine gate_dst (N := 5) rfl ?_); refine box_event ?hg (N := 5) ?hd (cs := #[.int .i64 0, .slice none 0 0]) (t := 40) ?hr ?_; (case hd => rfl); (case hg => rfl); (case hr => first | (go_simp; done) | (go_simp; rfl)); intro gb437 hg w24 hbox hb; have n0_ := Gv.a0 (Kd.R_below (Gv.kr HO431.out) hb); have n1_ := Gv.a0 (Kd.R_below (Gv.kr HO436.out) hb); have n2_ := Gv.a0 (Gv.bb BK426.out hb); have n3_ := Gv.a0 (below_step Gv.bw hb); have n4_ := Gv.a0 (hbox); have n5_ := Gv.a0 ((Gv.ble hg Gv.bw : w.heap.size ≤ gb437)); have n6_ := Gv.a0 ((Gv.ble hg Gv.bw : w.heap.size ≤ gb437)); have n7_ := Gv.a0 ((Gv.nlt hg (Gv.kb BK426.out) : gb426 ≠ gb437)); have n8_ := Gv.a0 ((Gv.ngt hg (Gv.kb BK426.out) : gb437 ≠ gb426)); clear HO431; clear HO436; clear BK426; clear HB; have HO431 := n0_; have HO436 := n1_; have BK426 := n2_; have HB := n3_; have BK437 := n4_; have GW437 := n5_; have GE437 := n6_; have NB426_437 := n7_; have NB437_426 := n8_; clear n0_ n1_ n2_ n3_ n4_ n5_ n6_ n7_ n8_; clear hb hbox hg; have hnb25 := NB437_426.out; have hnc25 := NB426_437.out; have hcz26_0 : w24.cell? ⟨gb437, 0, none⟩ = some (.int .i64 0) := (blk_cell BK437.out 0).trans rfl; have hcz26_1 : w24.cell? ⟨gb437, 1, none⟩ = some (.slice none 0 0) := (blk_cell BK437.out 1).trans rfl; have hfz26_0 := blk_frozen BK437.out 0; have hfz26_1 := blk_frozen BK437.out 1; obtain ⟨Ao27, co27, eo27⟩ := Kd.R_slice HO436.out; subst eo27) | ((with_reducible refine gate_callee (f := 28) rfl ?_); refine goesL_ (some 18) rfl rfl Try.func28 (by kernel_rfl) rfl #[.agg #[.int .i64 t433, .slice Ao27 t434.length co27]] rfl Gv.lm ?_; (with_reducible refine (impl_TableUsed.calls k t433 _ _ t434 t438 _ ?side1 ?side2 A10.out).mono ?_); (case side1 => refine (Kd.R_reads' (e := 75) (base := w.heap.size) (ok := fun k_ => (True ∧ some k_ ≠ (.slice Ao20 t429.length co20 : Value).ownBlock)) (n := t434.length) (c := co27) ?_).2.2; exact (by (with_reducible repeat (first | apply Kd.R_alloc | apply Kd.R_drewN | apply Kd.R_drew)); exact (Kd.R_mono (Kd.R_far (p := ⟨gb437, 1, none⟩) (Kd.R_far (p := ⟨gb437, 0, none⟩) (Kd.R_types HO436.out BK437.out (by decide)) (fun _ hk => hk.2) (.int .i64 t433)) (fun _ hk => hk.2) (.slice Ao27 t434.length co27)) (fun _ h_ => h_.1)))); (case side2 => exact (Kd.R_reads' HO436.out).2.1); rintro e w28 ⟨rfl, hb⟩; refine ⟨_, rfl, ?_⟩; have n0_ := Gv.a0 (Kd.R_below (by (with_reducible repeat (first | apply Kd.R_alloc | apply Kd.R_drewN | apply Kd.R_drew)); exact (Kd.R_mono (Kd.R_far (p := ⟨gb437, 1, none⟩) (Kd.R_far (p := ⟨gb437, 0, none⟩) (Kd.R_types HO431.out BK437.out (by decide)) (fun _ hk => hk.2) (.int .i64 t433)) (fun _ hk => hk.2) (.slice Ao27 t434.length co27)) (fun _ h_ => h_.1))) hb); have n1_ := Gv.a0 (Kd.R_below (by (with_reducible repeat (first | apply Kd.R_alloc | apply Kd.R_drewN | apply Kd.R_drew)); exact (Kd.R_mono (Kd.R_far (p := ⟨gb437, 1, none⟩) (Kd.R_far (p := ⟨gb437, 0, none⟩) (Kd.R_types HO436.out BK437.out (by decide)) (fun _ hk => hk.2) (.int .i64 t433)) (fun _ hk => hk.2) (.slice Ao27 t434.length co27)) (fun _ h_ => h_.1))) hb); have n2_ := Gv.a0 (blk_below (g := gb426) (o := .cells #[.int .i64 a0_0, .slice A0_1 l0_1.length c0_1] 47 (0, 0)) Gv.bkf hb); have n3_ := Gv.a0 (blk_below (g := gb437) (o := .cells #[.int .i64 t433, .slice Ao27 t434.length co27] 40 (0, 0)) (by (with_reducible repeat (first | refine blk_drewN ?_ _ | refine blk_drew ?_ | refine blk_alloc ?_ _)); refine blk_put (cs := #[.int .i64 t433, .slice none 0 0]) ?_ 1 _ rfl; (with_reducible repeat (first | refine blk_drewN ?_ _ | refine blk_drew ?_ | refine blk_alloc ?_ _)); refine blk_put (cs := #[.int .i64 0, .slice none 0 0]) ?_ 0 _ rfl; (with_reducible repeat (first | refine blk_drewN ?_ _ | refine blk_drew ?_ | refine blk_alloc ?_ _)); exact BK437.out) hb); have n4_ := Gv.a0 (below_step Gv.bw hb); clear HO431; clear HO436; clear BK426; clear BK437; clear HB; have HO431 := n0_; have HO436 := n1_; have BK426 := n2_; have BK437 := n3_; have HB := n4_; clear n0_ n1_ n2_ n3_ n4_; (try clear hb); (try clear hb2); (try clear hk); (try clear hi)))
    have n0_ := Gv.a0 (Kd.R_drew HO431.out)
    have n1_ := Gv.a0 (Kd.R_drew HO436.out)
    have n2_ := Gv.a0 (blk_drew BK426.out)
    have n3_ := Gv.a0 (blk_drew BK437.out)
    have n4_ := Gv.a0 (below_drew1 HB.out)
    clear HO431
    clear HO436
    clear BK426
    clear BK437
    clear HB
    have HO431 := n0_
    have HO436 := n1_
    have BK426 := n2_
    have BK437 := n3_
    have HB := n4_
    clear n0_ n1_ n2_ n3_ n4_
    refine start_ (n := 5) (S := fun w' => w'.cell? ⟨gb437, 0, none⟩ = some (.int .i64 t433) ∧ w'.cell? ⟨gb437, 1, none⟩ = some (.slice Ao27 t434.length co27) ∧ w'.cell? ⟨gb426, 0, none⟩ = some (.int .i64 a0_0) ∧ w'.cell? ⟨gb426, 1, none⟩ = some (.slice A0_1 l0_1.length c0_1)) (ds := []) #[false, false, false, false, false] (by kernel_rfl) rfl rfl ⟨(blk_cell BK437.out 0).trans rfl, (blk_cell BK437.out 1).trans rfl, (blk_cell BK426.out 0).trans rfl, (blk_cell BK426.out 1).trans rfl⟩ (fun hHeld => ?_)
    generalize w28.drew = w29 at HO431 HO436 BK426 BK437 HB hHeld ⊢
    refine take_ (i := 0) (N := some 22) (v := ?_) (a' := ?_) #[true, false, false, false, false] rfl rfl (by kernel_rfl) (fun _ _ _ h => h) (Or.inl ⟨by rfl, ?_⟩) hHeld ?_ ?_
    rotate_left
    ·rintro w' ⟨s0, s1, s2, s3⟩
     go_simp
     with_reducible rfl
    rotate_left
    ·simp only [Act.put, List.setIfInBounds_toArray, List.set_cons_zero, List.set_cons_succ, i64_w, i32_w]
     rfl
    refine take_ (i := 1) (N := some 23) (v := ?_) (a' := ?_) #[true, true, false, false, false] rfl rfl (by kernel_rfl) (fun _ _ _ h => h) (Or.inl ⟨by rfl, ?_⟩) hHeld ?_ ?_
    rotate_left
    ·rintro w' ⟨s0, s1, s2, s3⟩
     go_simp
     with_reducible rfl
    rotate_left
    ·simp only [Act.put, List.setIfInBounds_toArray, List.set_cons_zero, List.set_cons_succ, i64_w, i32_w]
     rfl
    refine one_ (i := 2) (N := some 24) #[true, true, true, false, false] rfl rfl (by kernel_rfl) (by decide) (fun K hK => ?_)
    refine goes_ Try.func25 (by kernel_rfl) rfl #[.agg #[.int .i64 a0_0, .slice A0_1 l0_1.length c0_1]] (by rfl) rfl rfl Gv.lm ?_
    with_reducible refine (laws_toTable.calls k a0_0 _ _ l0_1 t439 t440 _ ?side1 ?side2 A12.out).mono ?_
    (case side1 => repeat (first | exact (Kd.C_below HR0_1.out HB.out) | (with_reducible refine Kd.C_alloc ?_ _) | (with_reducible refine Kd.C_drewN ?_ _) | (with_reducible refine Kd.C_drew ?_)))
    (case side2 => exact HC0_1.out)
    rintro e w30 ⟨v441, rfl, ho0, hb⟩
    refine ⟨_, rfl, ?_⟩
    have n0_ := Gv.a0 (Kd.R_elder' (Gv.kr HO431.out) (Kd.R_base ho0) hb)
    have n1_ := Gv.a0 (Kd.R_elder' (Gv.kr HO436.out) (Kd.R_base ho0) hb)
    have n2_ := Gv.a0 (Kd.R_lower (Kd.R_new' (Kd.R_new' ho0 (Kd.R_lt (Gv.kr HO431.out))) (Kd.R_lt (Gv.kr HO436.out))) (below_size Gv.bw))
    have n3_ := Gv.a0 (Gv.bb BK426.out hb)
    have n4_ := Gv.a0 (Gv.bb BK437.out hb)
    have n5_ := Gv.a0 (below_step Gv.bw hb)
    clear HO431
    clear HO436
    clear BK426
    clear BK437
    clear HB
    have HO431 := n0_
    have HO436 := n1_
    have HO442 := n2_
    have BK426 := n3_
    have BK437 := n4_
    have HB := n5_
    clear n0_ n1_ n2_ n3_ n4_ n5_
    (try clear hb)
    (try clear hb2)
    (try clear hk)
    (try clear hi)
    (try clear ho0)
    obtain ⟨Ao31, co31, eo31⟩ := Kd.R_slice HO442.out
    (first | subst eo31 | (injection eo31 with f1_ f2_ f3_; have f4_ := f1_.symm; have f5_ := f3_.symm; clear f1_ f2_ f3_; subst f4_; subst f5_))
    refine hK.out _ _ ⟨(blk_cell BK437.out 0).trans rfl, (blk_cell BK437.out 1).trans rfl, (blk_cell BK426.out 0).trans rfl, (blk_cell BK426.out 1).trans rfl⟩ (fun hHeld => ?_)
    clear hK K
    refine norm_ (a' := ?_) ?_ ?_
    rotate_left
    ·show Act.put _ (some 24) _ = _
     simp only [Act.put, List.setIfInBounds_toArray, List.set_cons_zero, List.set_cons_succ, i64_w, i32_w]
     rfl
    refine one_ (i := 3) (N := some 25) #[true, true, true, true, false] rfl rfl (by kernel_rfl) (by decide) (fun K hK => ?_)
    refine goes_ Try.func20 (by kernel_rfl) rfl #[.agg #[.int .i64 t433, .slice Ao27 t434.length co27], .agg #[.int .i64 t439, .slice Ao31 t440.length co31]] (by rfl) rfl rfl Gv.lm ?_
    with_reducible refine (laws_eqTable.calls k t433 _ _ t434 t439 _ _ t440 true _ ?side1 ?side2 ?side3 ?side4 A13.out).mono ?_
    (case side1 => repeat (first | exact (Kd.R_reads' HO436.out).2.2 | (with_reducible refine Kd.C_alloc ?_ _) | (with_reducible refine Kd.C_drewN ?_ _) | (with_reducible refine Kd.C_drew ?_)))
    (case side2 => exact (Kd.R_reads' HO436.out).2.1)
    (case side3 => repeat (first | exact (Kd.R_reads' HO442.out).2.2 | (with_reducible refine Kd.C_alloc ?_ _) | (with_reducible refine Kd.C_drewN ?_ _) | (with_reducible refine Kd.C_drew ?_)))
    (case side4 => exact (Kd.R_reads' HO442.out).2.1)
    rintro e w32 ⟨rfl, hb⟩
    refine ⟨_, rfl, ?_⟩
    have n0_ := Gv.a0 (Kd.R_below (Gv.kr HO431.out) hb)
    have n1_ := Gv.a0 (Kd.R_below (Gv.kr HO436.out) hb)
    have n2_ := Gv.a0 (Kd.R_below (Gv.kr HO442.out) hb)
    have n3_ := Gv.a0 (Gv.bb BK426.out hb)
    have n4_ := Gv.a0 (Gv.bb BK437.out hb)
    have n5_ := Gv.a0 (below_step Gv.bw hb)
    clear HO431
    clear HO436
    clear HO442
    clear BK426
    clear BK437
    clear HB
    have HO431 := n0_
    have HO436 := n1_
    have HO442 := n2_
    have BK426 := n3_
    have BK437 := n4_
    have HB := n5_
    clear n0_ n1_ n2_ n3_ n4_ n5_
    (try clear hb)
    (try clear hb2)
    (try clear hk)
    (try clear hi)
    refine hK.out _ _ ⟨(blk_cell BK437.out 0).trans rfl, (blk_cell BK437.out 1).trans rfl, (blk_cell BK426.out 0).trans rfl, (blk_cell BK426.out 1).trans rfl⟩ (fun hHeld => ?_)
    clear hK K
    refine norm_ (a' := ?_) ?_ ?_
    rotate_left
    ·show Act.put _ (some 25) _ = _
     simp only [Act.put, List.setIfInBounds_toArray, List.set_cons_zero, List.set_cons_succ, i64_w, i32_w]
     rfl
    refine pure_ (i := 4) (N := some 26) (v := ?_) (a' := ?_) #[true, true, true, true, true] rfl rfl (by kernel_rfl) (fun _ _ _ h => h) (Or.inl ⟨by rfl, ?_⟩) ?_ ?_
    rotate_left
    ·intro w'
     go_simp
     with_reducible rfl
    rotate_left
    ·simp only [Act.put, List.setIfInBounds_toArray, List.set_cons_zero, List.set_cons_succ, i64_w, i32_w]
     rfl
    refine done_ (by kernel_rfl) ?_
    try go_wp2
    go_ret
    exact ⟨by first | rfl | (simp [errW_none, errW_some] <;> rfl) | (simp [*, errW_none, errW_some] <;> rfl), by repeat (first | (with_reducible first | exact HB.out | apply below_alloc | apply pw_below_drewN | apply below_drew1 | refine below_set ?_ GE426.out | refine below_set ?_ GE437.out) | exact HB.out)⟩
   ·replace c14 := Bool.eq_false_iff.mpr c14
    subst c14
    have H1 : (none) = some r := by rw [if_neg (show ¬ (false = true) by decide)] at H; exact H
    clear H
    have H := H1
    clear H1
    exact absurd H (by simp)
  ·rw [if_neg c11] at H
   exact absurd H (by simp)

end Go.Proofs.Ytfnpodebjejhpaa.PTu
