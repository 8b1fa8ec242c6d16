/- Plain Lean functions of a law's Go functions, their contracts, by a program of this session (wip/pr.py over the kit's print). -/
import Derived.Test.YtbihbbkdciebhaaPRox0
import Derived.Test.YtbihbbkdciebhaaPRox3
import Derived.Test.YtbihbbkdciebhaaPRox5
import Derived.Test.YtbihbbkdciebhaaPRox6
namespace Go.Proofs.Ytbihbbkdciebhaa.PRo
open Go.RowKit Go.Proofs.YtbihbbkdciebhaaW.PrintWords Go.Proofs.YtbihbbkdciebhaaW.PrintLast Go.Proofs.YtbihbbkdciebhaaW.PrintMore
attribute [local go_sem] max2_int min2_int max_two min_two max_three min_three max_four min_four   -- for this text's walks alone
set_option linter.unusedVariables false
set_option linter.unusedSimpArgs false

/-! ### impl_RulesOk: function 11 -/
def impl_RulesOk.l0 : Nat → List (S55) → List (S55) → Int → Int → Option (Bool)
 | 0, _, _, _, _ => none
 | k + 1, x0, x5, x6, x7 => if x7 < x6 then (if 0 ≤ x7 then (if x7 < (x5.length : Int) then ((impl_RuleOk.f k ((rd_T55 x5 x7).f0) ((rd_T55 x5 x7).f1.f0.f0) ((rd_T55 x5 x7).f1.f0.f1) ((rd_T55 x5 x7).f1.f0.f2) ((rd_T55 x5 x7).f1.f0.f3) ((rd_T55 x5 x7).f1.f0.f4) ((rd_T55 x5 x7).f1.f1) ((rd_T55 x5 x7).f2.f0.f0) ((rd_T55 x5 x7).f2.f0.f1) ((rd_T55 x5 x7).f2.f0.f2) ((rd_T55 x5 x7).f2.f0.f3) ((rd_T55 x5 x7).f2.f0.f4) ((rd_T55 x5 x7).f2.f1) ((rd_T55 x5 x7).f3) ((rd_T55 x5 x7).f4) ((rd_T55 x5 x7).f5) ((rd_T55 x5 x7).f6) ((rd_T55 x5 x7).f7) ((rd_T55 x5 x7).f8) ((rd_T55 x5 x7).f9) ((rd_T55 x5 x7).f10)).bind fun t350 => (if t350 = true then (if x7 > 0 then (if 0 ≤ (wrap64 (x7 - 1)) then (if (wrap64 (x7 - 1)) < (x0.length : Int) then (if ((rd_T55 x0 (wrap64 (x7 - 1))).f0) ≥ ((rd_T55 x5 x7).f0) then (some false) else (impl_RulesOk.l0 k x0 x5 x6 (wrap64 (x7 + 1)))) else (none)) else (none)) else (impl_RulesOk.l0 k x0 x5 x6 (wrap64 (x7 + 1)))) else (some false))) else (none)) else (none)) else (some (decide ((x0.length : Int) ≤ 32)))
def impl_RulesOk.f (k : Nat) (l0 : List (S55)) : Option (Bool) := impl_RulesOk.l0 k l0 l0 (l0.length : Int) 0
theorem impl_RulesOk.mono_l : ∀ k, (∀ y0 y1 y2 y3, LeO (impl_RulesOk.l0 k y0 y1 y2 y3) (impl_RulesOk.l0 (k + 1) y0 y1 y2 y3))
 | 0 => fun _ _ _ _ r h => by simp [impl_RulesOk.l0] at h
 | k + 1 => by
  have ih0 := impl_RulesOk.mono_l k
  ·intro y0 y1 y2 y3
   unfold impl_RulesOk.l0
   repeat' first
   | (with_reducible exact ih0 _ _ _ _)
   | (with_reducible exact impl_RuleOk.mono _ _ _ _ _ _ _ _ _ _ _ _ _ _ _ _ _ _ _ _ _ _)
   | (with_reducible exact LeO.refl _)
   | (with_reducible exact LeO.none _)
   | (with_reducible refine LeO.ite ?_ ?_)
   | (with_reducible refine LeO.bind ?_ (fun _ => ?_))
   | exact ih0 _ _ _ _
   | exact impl_RuleOk.mono _ _ _ _ _ _ _ _ _ _ _ _ _ _ _ _ _ _ _ _ _ _
   | exact LeO.none _
   | refine LeO.ite ?_ ?_
   | refine LeO.bind ?_ (fun _ => ?_)
theorem impl_RulesOk.mono : ∀ a0 k, LeO (impl_RulesOk.f k a0) (impl_RulesOk.f (k + 1) a0) := by
 intro a0 k
 have ih0 := impl_RulesOk.mono_l k
 unfold impl_RulesOk.f
 repeat' first
   | (with_reducible exact ih0 _ _ _ _)
   | (with_reducible exact impl_RuleOk.mono _ _ _ _ _ _ _ _ _ _ _ _ _ _ _ _ _ _ _ _ _ _)
   | (with_reducible exact LeO.refl _)
   | (with_reducible exact LeO.none _)
   | (with_reducible refine LeO.ite ?_ ?_)
   | (with_reducible refine LeO.bind ?_ (fun _ => ?_))
   | exact ih0 _ _ _ _
   | exact impl_RuleOk.mono _ _ _ _ _ _ _ _ _ _ _ _ _ _ _ _ _ _ _ _ _ _
   | exact LeO.none _
   | refine LeO.ite ?_ ?_
   | refine LeO.bind ?_ (fun _ => ?_)
def impl_RulesOk.T4 : Bool × List (List Nat × List Nat) := (true, [([], []), ([0], [0]), ([1], [1]), ([2, 1], [2]), ([3], [3]), ([4, 3], [3, 4]), ([5, 3, 3], [3, 5]), ([6], [6]), ([6], [6]), ([8, 6], [6, 8]), ([7, 9, 6], [6, 7, 9]), ([10, 6], [6, 10]), ([11, 6], [6, 11]), ([6], [6]), ([13, 6], [6, 13]), ([12, 14, 6], [6, 12, 14]), ([6, 15, 3], [3, 6, 15]), ([3, 16], [3, 16])])
def impl_RulesOk.B4 : List Nat := [0, 1, 3, 7, 15, 31, 63, 127, 127, 383, 1023, 2047, 4095, 127, 8319, 32767, 65535, 131071]
theorem impl_RulesOk.tab4 : rtab .any (opsOf Try.f11 4) = impl_RulesOk.T4 := by kernel_rfl
theorem impl_RulesOk.bits4 : waitsOk impl_RulesOk.T4.2 impl_RulesOk.B4 = true := by kernel_rfl
set_option maxHeartbeats 8000000 in
set_option maxRecDepth 100000 in
theorem impl_RulesOk.calls (k : Nat) (A0 : Option Addr) (c0 : Nat) (l0 : List (S55)) (r : Bool) (w : World) (hr0 : Kd.C k55 w A0 l0.length l0) (hc0 : l0.length ≤ c0) (h : impl_RulesOk.f k l0 = some r) :
  Calls Try.prog 11 #[.slice A0 l0.length c0] w fun e w' => e = .returned (.bool r) ∧ Below w.heap.size w w' := by
 have hu55 := Try.underlying55
 have HR0 := Gv.a0 hr0
 have HC0 := Gv.a0 hc0
 clear hr0 hc0
 have HB := Gv.a0 (Below.refl w.heap.size w)
 have H : (impl_RulesOk.l0 k l0 l0 (l0.length : Int) 0) = some r := h
 clear h
 have H' := Gv.a0 H
 clear H
 go_enter Try.func11, Try.ntmps11
 go_wp2_with (first | ((with_reducible refine Gv.gate_load (t := 55) rfl ?_); (try (refine gate_guard (by rfl) ?_; dsimp only)); refine wpList_load_row rfl 55 _ rfl gb349 rfl 55 _ _ _ (Gv.kb0 BK349.out) Try.underlying55 rfl (by kernel_rfl) ?_) | ((with_reducible refine Gv.gate_load (t := 55) rfl ?_); (try (refine gate_guard (by rfl) ?_; dsimp only)); refine wpList_load_row rfl 55 _ rfl gb349 rfl 55 _ _ _ (Gv.kb1 (Gv.kb0 BK349.out)) Try.underlying55 rfl (by kernel_rfl) ?_))
 go_loopg [7] k (fun kq v7 w' => ∃ (x7_1 : Int), v7 = .int .i64 x7_1 ∧ Aside0 (impl_RulesOk.l0 kq l0 l0 (l0.length : Int) x7_1 = some r) ∧ Aside0 (kq ≤ k) ∧ Aside0 (Below w.heap.size w w'))
 case atStart => exact ⟨(0), (by first | rfl | (simp; done) | (simp [Int.tdiv_eq_ediv_of_nonneg]; done) | (simp [*]; done)), H', ⟨Nat.le_refl _⟩, ⟨by repeat (first | (with_reducible first | exact HB.out | apply below_alloc | apply pw_below_drewN | apply below_drew1) | exact HB.out)⟩⟩
 case round =>
  clear H'
  try clear c1
  obtain ⟨x7_1, rfl, HA, HK1, HB⟩ := hrel
  cases gk with
  | zero => exact absurd HA.out (by simp [impl_RulesOk.l0])
  | succ k1 =>
   have H := HA.out
   clear HA
   simp only [impl_RulesOk.l0] at H
   by_cases c2 : x7_1 < (l0.length : Int)
   ·rw [if_pos c2] at H
    have c2b0 : decide (x7_1 < (l0.length : Int)) = true := decide_eq_true c2
    clear c2
    by_cases c3 : 0 ≤ x7_1
    ·rw [if_pos c3] at H
     have c3b0 : decide (0 ≤ x7_1) = true := decide_eq_true c3
     clear c3
     by_cases c4 : x7_1 < (l0.length : Int)
     ·rw [if_pos c4] at H
      have c4b0 : decide (x7_1 < (l0.length : Int)) = true := decide_eq_true c4
      clear c4
      replace H := Option.bind_eq_some_iff.mp H
      obtain ⟨t350, A50, H⟩ := H
      replace H : (if t350 = true then (if x7_1 > 0 then (if 0 ≤ (wrap64 (x7_1 - 1)) then (if (wrap64 (x7_1 - 1)) < (l0.length : Int) then (if ((rd_T55 l0 (wrap64 (x7_1 - 1))).f0) ≥ ((rd_T55 l0 x7_1).f0) then (some false) else (impl_RulesOk.l0 k1 l0 l0 (l0.length : Int) (wrap64 (x7_1 + 1)))) else (none)) else (none)) else (impl_RulesOk.l0 k1 l0 l0 (l0.length : Int) (wrap64 (x7_1 + 1)))) else (some false)) = some r := H
      have A5 := Gv.a0 A50
      clear A50
      by_cases c6 : t350 = true
      ·subst c6
       have H1 : (if x7_1 > 0 then (if 0 ≤ (wrap64 (x7_1 - 1)) then (if (wrap64 (x7_1 - 1)) < (l0.length : Int) then (if ((rd_T55 l0 (wrap64 (x7_1 - 1))).f0) ≥ ((rd_T55 l0 x7_1).f0) then (some false) else (impl_RulesOk.l0 k1 l0 l0 (l0.length : Int) (wrap64 (x7_1 + 1)))) else (none)) else (none)) else (impl_RulesOk.l0 k1 l0 l0 (l0.length : Int) (wrap64 (x7_1 + 1)))) = some r := by rw [if_pos rfl] at H; exact H
       clear H
       have H := H1
       clear H1
       by_cases c7 : x7_1 > 0
       ·rw [if_pos c7] at H
        have c7b0 : decide (0 < x7_1) = true := decide_eq_true c7
        clear c7
        obtain ⟨ji8, hji8⟩ : ∃ j_ : Int, (wrap64 (x7_1 - 1)) = j_ := ⟨_, rfl⟩
        replace H : (if 0 ≤ (ji8) then (if (ji8) < (l0.length : Int) then (if ((rd_T55 l0 (ji8)).f0) ≥ ((rd_T55 l0 x7_1).f0) then (some false) else (impl_RulesOk.l0 k1 l0 l0 (l0.length : Int) (wrap64 (x7_1 + 1)))) else (none)) else (none)) = some r := by first | (rw [hji8] at H; exact H) | (simp only [hji8] at H ⊢; exact H)
        (try rw [hji8] at A5)
        have hji8w : (IntKind.i64.wrap (x7_1 - 1)) = ji8 := (i64_w _).trans hji8
        by_cases c9 : 0 ≤ (ji8)
        ·rw [if_pos c9] at H
         have c9b0 : decide (0 ≤ (ji8)) = true := decide_eq_true c9
         clear c9
         by_cases c10 : (ji8) < (l0.length : Int)
         ·rw [if_pos c10] at H
          have c10b0 : decide ((ji8) < (l0.length : Int)) = true := decide_eq_true c10
          clear c10
          by_cases c11 : ((rd_T55 l0 (ji8)).f0) ≥ ((rd_T55 l0 x7_1).f0)
          ·rw [if_pos c11] at H
           have c11b0 : decide (((rd_T55 l0 x7_1).f0) ≤ ((rd_T55 l0 (ji8)).f0)) = true := decide_eq_true c11
           clear c11
           obtain rfl := Option.some.inj H
           have p348 : 0 ≤ (x7_1 : Int) := of_decide_eq_true (by first | (with_reducible assumption) | assumption)
           have q348 : x7_1 < (l0.length : Int) := of_decide_eq_true (by first | (with_reducible assumption) | assumption)
           obtain ⟨ad348, e348, hx348_0, hx348_1, hx348_2, hx348_3, hx348_4, hx348_5, hx348_6, hx348_7, hx348_8, hx348_9, hx348_10, hx348_11, hx348_12, hx348_13, hx348_14, hx348_15, hx348_16, hx348_17, hx348_18, hx348_19, hx348_20⟩ := at_T55 HR0.out x7_1 p348 q348
           cases e348
           replace hx348_0 := Gv.bx HB.out hx348_0
           replace hx348_1 := Gv.bx HB.out hx348_1
           replace hx348_2 := Gv.bx HB.out hx348_2
           replace hx348_3 := Gv.bx HB.out hx348_3
           replace hx348_4 := Gv.bx HB.out hx348_4
           replace hx348_5 := Gv.bx HB.out hx348_5
           replace hx348_6 := Gv.bx HB.out hx348_6
           replace hx348_7 := Gv.bx HB.out hx348_7
           replace hx348_8 := Gv.bx HB.out hx348_8
           replace hx348_9 := Gv.bx HB.out hx348_9
           replace hx348_10 := Gv.bx HB.out hx348_10
           replace hx348_11 := Gv.bx HB.out hx348_11
           replace hx348_12 := Gv.bx HB.out hx348_12
           replace hx348_13 := Gv.bx HB.out hx348_13
           replace hx348_14 := Gv.bx HB.out hx348_14
           replace hx348_15 := Gv.bx HB.out hx348_15
           replace hx348_16 := Gv.bx HB.out hx348_16
           replace hx348_17 := Gv.bx HB.out hx348_17
           replace hx348_18 := Gv.bx HB.out hx348_18
           replace hx348_19 := Gv.bx HB.out hx348_19
           replace hx348_20 := Gv.bx HB.out hx348_20
           replace p348 := eq_true p348
           replace q348 := eq_true q348
           try go_wp2_with (first | ((with_reducible refine gate_dst (N := 4) rfl ?_); refine box_event ?hg (N := 4) ?hd (cs := #[.int .i64 0, .int .i64 0, .int .i64 0, .int .i64 0, .int .i64 0, .int .i64 0, .int .i64 0, .int .i64 0, .int .i64 0, .int .i64 0, .int .i64 0, .int .i64 0, .int .i64 0, .int .i64 0, .int .i64 0, .int .i64 0, .int .i64 0, .int .i64 0, .int .i64 0, .int .i64 0, .int .i64 0]) (t := 55) ?hr ?_; (case hd => rfl); (case hg => rfl); (case hr => first | (go_simp; done) | (go_simp; rfl)); intro gb349 hg w12 hbox hb; have n0_ := Gv.a0 (below_step Gv.bw hb); have n1_ := Gv.a0 (hbox); have n2_ := Gv.a0 ((Gv.ble hg Gv.bw : w.heap.size ≤ gb349)); have n3_ := Gv.a0 ((Gv.ble hg Gv.bw : w.heap.size ≤ gb349)); clear HB; have HB := n0_; have BK349 := n1_; have GW349 := n2_; have GE349 := n3_; clear n0_ n1_ n2_ n3_; clear hb hbox hg; obtain ⟨hcz13_0, hcz13_1, hcz13_2, hcz13_3, hcz13_4, hcz13_5, hcz13_6, hcz13_7, hcz13_8, hcz13_9, hcz13_10, hcz13_11, hcz13_12, hcz13_13, hcz13_14, hcz13_15, hcz13_16, hcz13_17, hcz13_18, hcz13_19, hcz13_20⟩ := Gv.c21 BK349.out; obtain ⟨hfz13_0, hfz13_1, hfz13_2, hfz13_3, hfz13_4, hfz13_5, hfz13_6, hfz13_7, hfz13_8, hfz13_9, hfz13_10, hfz13_11, hfz13_12, hfz13_13, hfz13_14, hfz13_15, hfz13_16, hfz13_17, hfz13_18, hfz13_19, hfz13_20⟩ := Gv.f21 BK349.out) | ((with_reducible refine gate_store (t := 55) (p := 4) rfl ?_); refine Gv.store_event rfl rfl rfl rfl rfl (Gv.kb BK349.out) (by kernel_rfl) rfl (by simp; and_intros <;> rfl) ?_; intro w12s hbox hoth hbel; have n0_ := Gv.a0 (hbox); have n1_ := Gv.a0 (hbel w Gv.bw GE349.out); clear BK349 HB; have BK349 := n0_; have HB := n1_; clear n0_ n1_ hbox hoth hbel; (try clear hcz13_0 hcz13_1 hcz13_2 hcz13_3 hcz13_4 hcz13_5 hcz13_6 hcz13_7 hcz13_8 hcz13_9 hcz13_10 hcz13_11 hcz13_12 hcz13_13 hcz13_14 hcz13_15 hcz13_16 hcz13_17 hcz13_18 hcz13_19 hcz13_20 hfz13_0 hfz13_1 hfz13_2 hfz13_3 hfz13_4 hfz13_5 hfz13_6 hfz13_7 hfz13_8 hfz13_9 hfz13_10 hfz13_11 hfz13_12 hfz13_13 hfz13_14 hfz13_15 hfz13_16 hfz13_17 hfz13_18 hfz13_19 hfz13_20); obtain ⟨hcz13_0, hcz13_1, hcz13_2, hcz13_3, hcz13_4, hcz13_5, hcz13_6, hcz13_7, hcz13_8, hcz13_9, hcz13_10, hcz13_11, hcz13_12, hcz13_13, hcz13_14, hcz13_15, hcz13_16, hcz13_17, hcz13_18, hcz13_19, hcz13_20⟩ := Gv.c21 BK349.out; obtain ⟨hfz13_0, hfz13_1, hfz13_2, hfz13_3, hfz13_4, hfz13_5, hfz13_6, hfz13_7, hfz13_8, hfz13_9, hfz13_10, hfz13_11, hfz13_12, hfz13_13, hfz13_14, hfz13_15, hfz13_16, hfz13_17, hfz13_18, hfz13_19, hfz13_20⟩ := Gv.f21 BK349.out) | ((with_reducible refine Gv.gate_load (t := 55) rfl ?_); (try (refine gate_guard (by rfl) ?_; dsimp only)); refine wpList_load_row rfl 55 _ rfl gb349 rfl 55 _ _ _ (Gv.kb0 BK349.out) Try.underlying55 rfl (by kernel_rfl) ?_) | ((with_reducible refine Gv.gate_load (t := 55) rfl ?_); (try (refine gate_guard (by rfl) ?_; dsimp only)); refine wpList_load_row rfl 55 _ rfl gb349 rfl 55 _ _ _ (Gv.kb1 (Gv.kb0 BK349.out)) Try.underlying55 rfl (by kernel_rfl) ?_) | ((with_reducible refine Gv.gate_load (t := 55) rfl ?_); refine Gv.load_event (cs := [_, _, _, _, _, _, _, _, _, _, _, _, _, _, _, _, _, _, _, _, _]) rfl rfl rfl ⟨hx348_0, hx348_1, hx348_2, hx348_3, hx348_4, hx348_5, hx348_6, hx348_7, hx348_8, hx348_9, hx348_10, hx348_11, hx348_12, hx348_13, hx348_14, hx348_15, hx348_16, hx348_17, hx348_18, hx348_19, hx348_20, trivial⟩ Try.underlying55 rfl (by kernel_rfl) ?_))
           have n0_ := Gv.a0 (blk_drew BK349.out)
           have n1_ := Gv.a0 (below_drew1 HB.out)
           clear BK349
           clear HB
           have BK349 := n0_
           have HB := n1_
           clear n0_ n1_
           have p351 : 0 ≤ ((ji8) : Int) := of_decide_eq_true (by first | (with_reducible assumption) | assumption)
           have q351 : (ji8) < (l0.length : Int) := of_decide_eq_true (by first | (with_reducible assumption) | assumption)
           obtain ⟨ad351, e351, hx351_0, _, _, _, _, _, _, _, _, _, _, _, _, _, _, _, _, _, _, _, _⟩ := at_T55 HR0.out (ji8) p351 q351
           have hw351_0 := hx351_0
           obtain rfl : ad348 = ad351 := (by injection e351)
           replace hx351_0 := Gv.bx HB.out hx351_0
           replace p351 := eq_true p351
           replace q351 := eq_true q351
           refine start_ (n := 18) (S := fun w' => w'.cell? ⟨gb349, 0, none⟩ = some (.int .i64 ((rd_T55 l0 x7_1).f0)) ∧ w'.cell? ⟨gb349, 1, none⟩ = some (.int .i64 ((rd_T55 l0 x7_1).f1.f0.f0)) ∧ w'.cell? ⟨gb349, 2, none⟩ = some (.int .i64 ((rd_T55 l0 x7_1).f1.f0.f1)) ∧ w'.cell? ⟨gb349, 3, none⟩ = some (.int .i64 ((rd_T55 l0 x7_1).f1.f0.f2)) ∧ w'.cell? ⟨gb349, 4, none⟩ = some (.int .i64 ((rd_T55 l0 x7_1).f1.f0.f3)) ∧ w'.cell? ⟨gb349, 5, none⟩ = some (.int .i64 ((rd_T55 l0 x7_1).f1.f0.f4)) ∧ w'.cell? ⟨gb349, 6, none⟩ = some (.int .i64 ((rd_T55 l0 x7_1).f1.f1)) ∧ w'.cell? ⟨gb349, 7, none⟩ = some (.int .i64 ((rd_T55 l0 x7_1).f2.f0.f0)) ∧ w'.cell? ⟨gb349, 8, none⟩ = some (.int .i64 ((rd_T55 l0 x7_1).f2.f0.f1)) ∧ w'.cell? ⟨gb349, 9, none⟩ = some (.int .i64 ((rd_T55 l0 x7_1).f2.f0.f2)) ∧ w'.cell? ⟨gb349, 10, none⟩ = some (.int .i64 ((rd_T55 l0 x7_1).f2.f0.f3)) ∧ w'.cell? ⟨gb349, 11, none⟩ = some (.int .i64 ((rd_T55 l0 x7_1).f2.f0.f4)) ∧ w'.cell? ⟨gb349, 12, none⟩ = some (.int .i64 ((rd_T55 l0 x7_1).f2.f1)) ∧ w'.cell? ⟨gb349, 13, none⟩ = some (.int .i64 ((rd_T55 l0 x7_1).f3)) ∧ w'.cell? ⟨gb349, 14, none⟩ = some (.int .i64 ((rd_T55 l0 x7_1).f4)) ∧ w'.cell? ⟨gb349, 15, none⟩ = some (.int .i64 ((rd_T55 l0 x7_1).f5)) ∧ w'.cell? ⟨gb349, 16, none⟩ = some (.int .i64 ((rd_T55 l0 x7_1).f6)) ∧ w'.cell? ⟨gb349, 17, none⟩ = some (.int .i64 ((rd_T55 l0 x7_1).f7)) ∧ w'.cell? ⟨gb349, 18, none⟩ = some (.int .i64 ((rd_T55 l0 x7_1).f8)) ∧ w'.cell? ⟨gb349, 19, none⟩ = some (.int .i64 ((rd_T55 l0 x7_1).f9)) ∧ w'.cell? ⟨gb349, 20, none⟩ = some (.int .i64 ((rd_T55 l0 x7_1).f10)) ∧ w'.cell? (ad348.add (((ji8)).toNat * 21)) = some (.int .i64 ((rd_T55 l0 (ji8)).f0))) (ds := []) #[false, false, false, false, false, false, false, false, false, false, false, false, false, false, false, false, false, false] (by kernel_rfl) rfl rfl ⟨(blk_cell BK349.out 0).trans rfl, (blk_cell BK349.out 1).trans rfl, (blk_cell BK349.out 2).trans rfl, (blk_cell BK349.out 3).trans rfl, (blk_cell BK349.out 4).trans rfl, (blk_cell BK349.out 5).trans rfl, (blk_cell BK349.out 6).trans rfl, (blk_cell BK349.out 7).trans rfl, (blk_cell BK349.out 8).trans rfl, (blk_cell BK349.out 9).trans rfl, (blk_cell BK349.out 10).trans rfl, (blk_cell BK349.out 11).trans rfl, (blk_cell BK349.out 12).trans rfl, (blk_cell BK349.out 13).trans rfl, (blk_cell BK349.out 14).trans rfl, (blk_cell BK349.out 15).trans rfl, (blk_cell BK349.out 16).trans rfl, (blk_cell BK349.out 17).trans rfl, (blk_cell BK349.out 18).trans rfl, (blk_cell BK349.out 19).trans rfl, (blk_cell BK349.out 20).trans rfl, (Gv.bx HB.out hw351_0)⟩ (fun hHeld => ?_); refine with_tabW impl_RulesOk.tab4 impl_RulesOk.bits4 (fun HT_ HW_ => ?_)
           generalize w12s.drew = w15 at BK349 HB hx351_0 hHeld ⊢
           refine take_ (i := 0) (N := some 12) (v := ?_) (a' := ?_) #[true, false, false, false, false, false, false, false, false, false, false, false, false, false, false, false, false, false] rfl rfl (take_ofW HT_.out HW_.out (by kernel_rfl)) (fun _ _ _ h => h) (Or.inl ⟨by rfl, ?_⟩) hHeld ?_ ?_
           rotate_left
           ·rintro w' ⟨s0, s1, s2, s3, s4, s5, s6, s7, s8, s9, s10, s11, s12, s13, s14, s15, s16, s17, s18, s19, s20, s21⟩
            first | ((refine Gv.load_run (t := 55) (A := ⟨gb349, 0, none⟩) (cs := [_, _, _, _, _, _, _, _, _, _, _, _, _, _, _, _, _, _, _, _, _]) (x := ?xx17_) ?ho17_ ?hx17_ ⟨s0, s1, s2, s3, s4, s5, s6, s7, s8, s9, s10, s11, s12, s13, s14, s15, s16, s17, s18, s19, s20, trivial⟩ Try.underlying55 rfl (by kernel_rfl)); (case ho17_ => rfl); (case hx17_ => rfl)) | (go_simp; with_reducible rfl)
           rotate_left
           ·simp only [Act.put, List.setIfInBounds_toArray, List.set_cons_zero, List.set_cons_succ, i64_w, i32_w]
            rfl
           refine one_ (i := 1) (N := some 13) #[true, true, false, false, false, false, false, false, false, false, false, false, false, false, false, false, false, false] rfl rfl (one_of HT_.out (by kernel_rfl)) (by decide) (fun K hK => ?_)
           refine goes_ Try.func29 (by kernel_rfl) rfl #[.agg #[.int .i64 ((rd_T55 l0 x7_1).f0), .int .i64 ((rd_T55 l0 x7_1).f1.f0.f0), .int .i64 ((rd_T55 l0 x7_1).f1.f0.f1), .int .i64 ((rd_T55 l0 x7_1).f1.f0.f2), .int .i64 ((rd_T55 l0 x7_1).f1.f0.f3), .int .i64 ((rd_T55 l0 x7_1).f1.f0.f4), .int .i64 ((rd_T55 l0 x7_1).f1.f1), .int .i64 ((rd_T55 l0 x7_1).f2.f0.f0), .int .i64 ((rd_T55 l0 x7_1).f2.f0.f1), .int .i64 ((rd_T55 l0 x7_1).f2.f0.f2), .int .i64 ((rd_T55 l0 x7_1).f2.f0.f3), .int .i64 ((rd_T55 l0 x7_1).f2.f0.f4), .int .i64 ((rd_T55 l0 x7_1).f2.f1), .int .i64 ((rd_T55 l0 x7_1).f3), .int .i64 ((rd_T55 l0 x7_1).f4), .int .i64 ((rd_T55 l0 x7_1).f5), .int .i64 ((rd_T55 l0 x7_1).f6), .int .i64 ((rd_T55 l0 x7_1).f7), .int .i64 ((rd_T55 l0 x7_1).f8), .int .i64 ((rd_T55 l0 x7_1).f9), .int .i64 ((rd_T55 l0 x7_1).f10)]] (by rfl) rfl rfl Gv.lm ?_
           with_reducible refine (impl_RuleOk.calls k1 ((rd_T55 l0 x7_1).f0) ((rd_T55 l0 x7_1).f1.f0.f0) ((rd_T55 l0 x7_1).f1.f0.f1) ((rd_T55 l0 x7_1).f1.f0.f2) ((rd_T55 l0 x7_1).f1.f0.f3) ((rd_T55 l0 x7_1).f1.f0.f4) ((rd_T55 l0 x7_1).f1.f1) ((rd_T55 l0 x7_1).f2.f0.f0) ((rd_T55 l0 x7_1).f2.f0.f1) ((rd_T55 l0 x7_1).f2.f0.f2) ((rd_T55 l0 x7_1).f2.f0.f3) ((rd_T55 l0 x7_1).f2.f0.f4) ((rd_T55 l0 x7_1).f2.f1) ((rd_T55 l0 x7_1).f3) ((rd_T55 l0 x7_1).f4) ((rd_T55 l0 x7_1).f5) ((rd_T55 l0 x7_1).f6) ((rd_T55 l0 x7_1).f7) ((rd_T55 l0 x7_1).f8) ((rd_T55 l0 x7_1).f9) ((rd_T55 l0 x7_1).f10) true _ A5.out).mono ?_
           rintro e w16 ⟨rfl, hb⟩
           refine ⟨_, rfl, ?_⟩
           have n0_ := Gv.a0 (Gv.bb BK349.out hb)
           have n1_ := Gv.a0 (below_step Gv.bw hb)
           clear BK349
           clear HB
           have BK349 := n0_
           have HB := n1_
           clear n0_ n1_
           (try clear hb)
           (try clear hb2)
           (try clear hk)
           (try clear hi)
           refine hK.out _ _ ⟨(blk_cell BK349.out 0).trans rfl, (blk_cell BK349.out 1).trans rfl, (blk_cell BK349.out 2).trans rfl, (blk_cell BK349.out 3).trans rfl, (blk_cell BK349.out 4).trans rfl, (blk_cell BK349.out 5).trans rfl, (blk_cell BK349.out 6).trans rfl, (blk_cell BK349.out 7).trans rfl, (blk_cell BK349.out 8).trans rfl, (blk_cell BK349.out 9).trans rfl, (blk_cell BK349.out 10).trans rfl, (blk_cell BK349.out 11).trans rfl, (blk_cell BK349.out 12).trans rfl, (blk_cell BK349.out 13).trans rfl, (blk_cell BK349.out 14).trans rfl, (blk_cell BK349.out 15).trans rfl, (blk_cell BK349.out 16).trans rfl, (blk_cell BK349.out 17).trans rfl, (blk_cell BK349.out 18).trans rfl, (blk_cell BK349.out 19).trans rfl, (blk_cell BK349.out 20).trans rfl, (Gv.bx HB.out hw351_0)⟩ (fun hHeld => ?_)
           clear hK K
           refine norm_ (a' := ?_) ?_ ?_
           rotate_left
           ·show Act.put _ (some 13) _ = _
            simp only [Act.put, List.setIfInBounds_toArray, List.set_cons_zero, List.set_cons_succ, i64_w, i32_w]
            rfl
           refine Gv.pu 2 (some 14) HT_ ?_
           refine Gv.pu 3 (some 15) HT_ ?_
           refine Gv.pu 4 (some 16) HT_ ?_
           refine Gv.pu 5 (some 17) HT_ ?_
           refine Gv.pu 6 (some 18) HT_ ?_
           refine Gv.pu 7 (some 19) HT_ ?_
           refine Gv.pu 8 (some 20) HT_ ?_
           refine Gv.pu 9 (some 21) HT_ ?_
           refine Gv.pu 10 (some 22) HT_ ?_
           refine Gv.pu 11 (some 23) HT_ ?_
           refine Gv.pu 13 (some 25) HT_ ?_
           refine take_ (i := 12) (N := some 24) (v := ?_) (a' := ?_) #[true, true, true, true, true, true, true, true, true, true, true, true, true, true, false, false, false, false] rfl rfl (take_ofW HT_.out HW_.out (by kernel_rfl)) (fun _ _ _ h => h) (Or.inl ⟨by rfl, ?_⟩) hHeld ?_ ?_
           rotate_left
           ·rintro w' ⟨s0, s1, s2, s3, s4, s5, s6, s7, s8, s9, s10, s11, s12, s13, s14, s15, s16, s17, s18, s19, s20, s21⟩
            first | ((refine Gv.load_run (t := 55) (A := ⟨gb349, 0, none⟩) (cs := [_, _, _, _, _, _, _, _, _, _, _, _, _, _, _, _, _, _, _, _, _]) (x := ?xx19_) ?ho19_ ?hx19_ ⟨s0, s1, s2, s3, s4, s5, s6, s7, s8, s9, s10, s11, s12, s13, s14, s15, s16, s17, s18, s19, s20, trivial⟩ Try.underlying55 rfl (by kernel_rfl)); (case ho19_ => rfl); (case hx19_ => rfl)) | (go_simp; with_reducible rfl)
           rotate_left
           ·simp only [Act.put, List.setIfInBounds_toArray, List.set_cons_zero, List.set_cons_succ, i64_w, i32_w]
            rfl
           refine take_ (i := 14) (N := some 26) (v := ?_) (a' := ?_) #[true, true, true, true, true, true, true, true, true, true, true, true, true, true, true, false, false, false] rfl rfl (take_ofW HT_.out HW_.out (by kernel_rfl)) (fun _ _ _ h => h) (Or.inl ⟨by rfl, ?_⟩) hHeld ?_ ?_
           rotate_left
           ·rintro w' ⟨s0, s1, s2, s3, s4, s5, s6, s7, s8, s9, s10, s11, s12, s13, s14, s15, s16, s17, s18, s19, s20, s21⟩
            first | ((refine Gv.load_run (t := 55) (A := ⟨gb349, 0, none⟩) (cs := [_, _, _, _, _, _, _, _, _, _, _, _, _, _, _, _, _, _, _, _, _]) (x := ?xx21_) ?ho21_ ?hx21_ ⟨s0, s1, s2, s3, s4, s5, s6, s7, s8, s9, s10, s11, s12, s13, s14, s15, s16, s17, s18, s19, s20, trivial⟩ Try.underlying55 rfl (by kernel_rfl)); (case ho21_ => rfl); (case hx21_ => rfl)) | (go_simp; with_reducible rfl)
           rotate_left
           ·simp only [Act.put, List.setIfInBounds_toArray, List.set_cons_zero, List.set_cons_succ, i64_w, i32_w]
            rfl
           refine Gv.pu 15 (some 27) HT_ ?_
           refine Gv.pu 16 (some 28) HT_ ?_
           refine Gv.pu 17 (some 29) HT_ ?_
           refine done_ (done_of HT_.out (by kernel_rfl)) ?_
           try go_wp2
           go_ret
           exact ⟨by first | rfl | (simp [errW_none, errW_some] <;> rfl) | (simp only [← hji8]; first | rfl | (simp [errW_none, errW_some] <;> rfl)) | (simp [*, errW_none, errW_some] <;> rfl), by repeat (first | (with_reducible first | exact HB.out | apply below_alloc | apply pw_below_drewN | apply below_drew1 | refine below_set ?_ GE349.out) | exact HB.out)⟩
          ·rw [if_neg c11] at H
           have c11b0 : decide (((rd_T55 l0 x7_1).f0) ≤ ((rd_T55 l0 (ji8)).f0)) = false := decide_eq_false c11
           clear c11
           have H' := Gv.a0 H
           clear H
           have p348 : 0 ≤ (x7_1 : Int) := of_decide_eq_true (by first | (with_reducible assumption) | assumption)
           have q348 : x7_1 < (l0.length : Int) := of_decide_eq_true (by first | (with_reducible assumption) | assumption)
           obtain ⟨ad348, e348, hx348_0, hx348_1, hx348_2, hx348_3, hx348_4, hx348_5, hx348_6, hx348_7, hx348_8, hx348_9, hx348_10, hx348_11, hx348_12, hx348_13, hx348_14, hx348_15, hx348_16, hx348_17, hx348_18, hx348_19, hx348_20⟩ := at_T55 HR0.out x7_1 p348 q348
           cases e348
           replace hx348_0 := Gv.bx HB.out hx348_0
           replace hx348_1 := Gv.bx HB.out hx348_1
           replace hx348_2 := Gv.bx HB.out hx348_2
           replace hx348_3 := Gv.bx HB.out hx348_3
           replace hx348_4 := Gv.bx HB.out hx348_4
           replace hx348_5 := Gv.bx HB.out hx348_5
           replace hx348_6 := Gv.bx HB.out hx348_6
           replace hx348_7 := Gv.bx HB.out hx348_7
           replace hx348_8 := Gv.bx HB.out hx348_8
           replace hx348_9 := Gv.bx HB.out hx348_9
           replace hx348_10 := Gv.bx HB.out hx348_10
           replace hx348_11 := Gv.bx HB.out hx348_11
           replace hx348_12 := Gv.bx HB.out hx348_12
           replace hx348_13 := Gv.bx HB.out hx348_13
           replace hx348_14 := Gv.bx HB.out hx348_14
           replace hx348_15 := Gv.bx HB.out hx348_15
           replace hx348_16 := Gv.bx HB.out hx348_16
           replace hx348_17 := Gv.bx HB.out hx348_17
           replace hx348_18 := Gv.bx HB.out hx348_18
           replace hx348_19 := Gv.bx HB.out hx348_19
           replace hx348_20 := Gv.bx HB.out hx348_20
           replace p348 := eq_true p348
           replace q348 := eq_true q348
           try go_wp2_with (first | ((with_reducible refine gate_dst (N := 4) rfl ?_); refine box_event ?hg (N := 4) ?hd (cs := #[.int .i64 0, .int .i64 0, .int .i64 0, .int .i64 0, .int .i64 0, .int .i64 0, .int .i64 0, .int .i64 0, .int .i64 0, .int .i64 0, .int .i64 0, .int .i64 0, .int .i64 0, .int .i64 0, .int .i64 0, .int .i64 0, .int .i64 0, .int .i64 0, .int .i64 0, .int .i64 0, .int .i64 0]) (t := 55) ?hr ?_; (case hd => rfl); (case hg => rfl); (case hr => first | (go_simp; done) | (go_simp; rfl)); intro gb349 hg w17 hbox hb; have n0_ := Gv.a0 (below_step Gv.bw hb); have n1_ := Gv.a0 (hbox); have n2_ := Gv.a0 ((Gv.ble hg Gv.bw : w.heap.size ≤ gb349)); have n3_ := Gv.a0 ((Gv.ble hg Gv.bw : w.heap.size ≤ gb349)); clear HB; have HB := n0_; have BK349 := n1_; have GW349 := n2_; have GE349 := n3_; clear n0_ n1_ n2_ n3_; clear hb hbox hg; obtain ⟨hcz18_0, hcz18_1, hcz18_2, hcz18_3, hcz18_4, hcz18_5, hcz18_6, hcz18_7, hcz18_8, hcz18_9, hcz18_10, hcz18_11, hcz18_12, hcz18_13, hcz18_14, hcz18_15, hcz18_16, hcz18_17, hcz18_18, hcz18_19, hcz18_20⟩ := Gv.c21 BK349.out; obtain ⟨hfz18_0, hfz18_1, hfz18_2, hfz18_3, hfz18_4, hfz18_5, hfz18_6, hfz18_7, hfz18_8, hfz18_9, hfz18_10, hfz18_11, hfz18_12, hfz18_13, hfz18_14, hfz18_15, hfz18_16, hfz18_17, hfz18_18, hfz18_19, hfz18_20⟩ := Gv.f21 BK349.out) | ((with_reducible refine gate_store (t := 55) (p := 4) rfl ?_); refine Gv.store_event rfl rfl rfl rfl rfl (Gv.kb BK349.out) (by kernel_rfl) rfl (by simp; and_intros <;> rfl) ?_; intro w17s hbox hoth hbel; have n0_ := Gv.a0 (hbox); have n1_ := Gv.a0 (hbel w Gv.bw GE349.out); clear BK349 HB; have BK349 := n0_; have HB := n1_; clear n0_ n1_ hbox hoth hbel; (try clear hcz18_0 hcz18_1 hcz18_2 hcz18_3 hcz18_4 hcz18_5 hcz18_6 hcz18_7 hcz18_8 hcz18_9 hcz18_10 hcz18_11 hcz18_12 hcz18_13 hcz18_14 hcz18_15 hcz18_16 hcz18_17 hcz18_18 hcz18_19 hcz18_20 hfz18_0 hfz18_1 hfz18_2 hfz18_3 hfz18_4 hfz18_5 hfz18_6 hfz18_7 hfz18_8 hfz18_9 hfz18_10 hfz18_11 hfz18_12 hfz18_13 hfz18_14 hfz18_15 hfz18_16 hfz18_17 hfz18_18 hfz18_19 hfz18_20); obtain ⟨hcz18_0, hcz18_1, hcz18_2, hcz18_3, hcz18_4, hcz18_5, hcz18_6, hcz18_7, hcz18_8, hcz18_9, hcz18_10, hcz18_11, hcz18_12, hcz18_13, hcz18_14, hcz18_15, hcz18_16, hcz18_17, hcz18_18, hcz18_19, hcz18_20⟩ := Gv.c21 BK349.out; obtain ⟨hfz18_0, hfz18_1, hfz18_2, hfz18_3, hfz18_4, hfz18_5, hfz18_6, hfz18_7, hfz18_8, hfz18_9, hfz18_10, hfz18_11, hfz18_12, hfz18_13, hfz18_14, hfz18_15, hfz18_16, hfz18_17, hfz18_18, hfz18_19, hfz18_20⟩ := Gv.f21 BK349.out) | ((with_reducible refine Gv.gate_load (t := 55) rfl ?_); (try (refine gate_guard (by rfl) ?_; dsimp only)); refine wpList_load_row rfl 55 _ rfl gb349 rfl 55 _ _ _ (Gv.kb0 BK349.out) Try.underlying55 rfl (by kernel_rfl) ?_) | ((with_reducible refine Gv.gate_load (t := 55) rfl ?_); (try (refine gate_guard (by rfl) ?_; dsimp only)); refine wpList_load_row rfl 55 _ rfl gb349 rfl 55 _ _ _ (Gv.kb1 (Gv.kb0 BK349.out)) Try.underlying55 rfl (by kernel_rfl) ?_) | ((with_reducible refine Gv.gate_load (t := 55) rfl ?_); refine Gv.load_event (cs := [_, _, _, _, _, _, _, _, _, _, _, _, _, _, _, _, _, _, _, _, _]) rfl rfl rfl ⟨hx348_0, hx348_1, hx348_2, hx348_3, hx348_4, hx348_5, hx348_6, hx348_7, hx348_8, hx348_9, hx348_10, hx348_11, hx348_12, hx348_13, hx348_14, hx348_15, hx348_16, hx348_17, hx348_18, hx348_19, hx348_20, trivial⟩ Try.underlying55 rfl (by kernel_rfl) ?_))
           have n0_ := Gv.a0 (blk_drew BK349.out)
           have n1_ := Gv.a0 (below_drew1 HB.out)
           clear BK349
           clear HB
           have BK349 := n0_
           have HB := n1_
           clear n0_ n1_
           have p351 : 0 ≤ ((ji8) : Int) := of_decide_eq_true (by first | (with_reducible assumption) | assumption)
           have q351 : (ji8) < (l0.length : Int) := of_decide_eq_true (by first | (with_reducible assumption) | assumption)
           obtain ⟨ad351, e351, hx351_0, _, _, _, _, _, _, _, _, _, _, _, _, _, _, _, _, _, _, _, _⟩ := at_T55 HR0.out (ji8) p351 q351
           have hw351_0 := hx351_0
           obtain rfl : ad348 = ad351 := (by injection e351)
           replace hx351_0 := Gv.bx HB.out hx351_0
           replace p351 := eq_true p351
           replace q351 := eq_true q351
           refine start_ (n := 18) (S := fun w' => w'.cell? ⟨gb349, 0, none⟩ = some (.int .i64 ((rd_T55 l0 x7_1).f0)) ∧ w'.cell? ⟨gb349, 1, none⟩ = some (.int .i64 ((rd_T55 l0 x7_1).f1.f0.f0)) ∧ w'.cell? ⟨gb349, 2, none⟩ = some (.int .i64 ((rd_T55 l0 x7_1).f1.f0.f1)) ∧ w'.cell? ⟨gb349, 3, none⟩ = some (.int .i64 ((rd_T55 l0 x7_1).f1.f0.f2)) ∧ w'.cell? ⟨gb349, 4, none⟩ = some (.int .i64 ((rd_T55 l0 x7_1).f1.f0.f3)) ∧ w'.cell? ⟨gb349, 5, none⟩ = some (.int .i64 ((rd_T55 l0 x7_1).f1.f0.f4)) ∧ w'.cell? ⟨gb349, 6, none⟩ = some (.int .i64 ((rd_T55 l0 x7_1).f1.f1)) ∧ w'.cell? ⟨gb349, 7, none⟩ = some (.int .i64 ((rd_T55 l0 x7_1).f2.f0.f0)) ∧ w'.cell? ⟨gb349, 8, none⟩ = some (.int .i64 ((rd_T55 l0 x7_1).f2.f0.f1)) ∧ w'.cell? ⟨gb349, 9, none⟩ = some (.int .i64 ((rd_T55 l0 x7_1).f2.f0.f2)) ∧ w'.cell? ⟨gb349, 10, none⟩ = some (.int .i64 ((rd_T55 l0 x7_1).f2.f0.f3)) ∧ w'.cell? ⟨gb349, 11, none⟩ = some (.int .i64 ((rd_T55 l0 x7_1).f2.f0.f4)) ∧ w'.cell? ⟨gb349, 12, none⟩ = some (.int .i64 ((rd_T55 l0 x7_1).f2.f1)) ∧ w'.cell? ⟨gb349, 13, none⟩ = some (.int .i64 ((rd_T55 l0 x7_1).f3)) ∧ w'.cell? ⟨gb349, 14, none⟩ = some (.int .i64 ((rd_T55 l0 x7_1).f4)) ∧ w'.cell? ⟨gb349, 15, none⟩ = some (.int .i64 ((rd_T55 l0 x7_1).f5)) ∧ w'.cell? ⟨gb349, 16, none⟩ = some (.int .i64 ((rd_T55 l0 x7_1).f6)) ∧ w'.cell? ⟨gb349, 17, none⟩ = some (.int .i64 ((rd_T55 l0 x7_1).f7)) ∧ w'.cell? ⟨gb349, 18, none⟩ = some (.int .i64 ((rd_T55 l0 x7_1).f8)) ∧ w'.cell? ⟨gb349, 19, none⟩ = some (.int .i64 ((rd_T55 l0 x7_1).f9)) ∧ w'.cell? ⟨gb349, 20, none⟩ = some (.int .i64 ((rd_T55 l0 x7_1).f10)) ∧ w'.cell? (ad348.add (((ji8)).toNat * 21)) = some (.int .i64 ((rd_T55 l0 (ji8)).f0))) (ds := []) #[false, false, false, false, false, false, false, false, false, false, false, false, false, false, false, false, false, false] (by kernel_rfl) rfl rfl ⟨(blk_cell BK349.out 0).trans rfl, (blk_cell BK349.out 1).trans rfl, (blk_cell BK349.out 2).trans rfl, (blk_cell BK349.out 3).trans rfl, (blk_cell BK349.out 4).trans rfl, (blk_cell BK349.out 5).trans rfl, (blk_cell BK349.out 6).trans rfl, (blk_cell BK349.out 7).trans rfl, (blk_cell BK349.out 8).trans rfl, (blk_cell BK349.out 9).trans rfl, (blk_cell BK349.out 10).trans rfl, (blk_cell BK349.out 11).trans rfl, (blk_cell BK349.out 12).trans rfl, (blk_cell BK349.out 13).trans rfl, (blk_cell BK349.out 14).trans rfl, (blk_cell BK349.out 15).trans rfl, (blk_cell BK349.out 16).trans rfl, (blk_cell BK349.out 17).trans rfl, (blk_cell BK349.out 18).trans rfl, (blk_cell BK349.out 19).trans rfl, (blk_cell BK349.out 20).trans rfl, (Gv.bx HB.out hw351_0)⟩ (fun hHeld => ?_); refine with_tabW impl_RulesOk.tab4 impl_RulesOk.bits4 (fun HT_ HW_ => ?_)
           generalize w17s.drew = w20 at BK349 HB hx351_0 hHeld ⊢
           refine take_ (i := 0) (N := some 12) (v := ?_) (a' := ?_) #[true, false, false, false, false, false, false, false, false, false, false, false, false, false, false, false, false, false] rfl rfl (take_ofW HT_.out HW_.out (by kernel_rfl)) (fun _ _ _ h => h) (Or.inl ⟨by rfl, ?_⟩) hHeld ?_ ?_
           rotate_left
           ·rintro w' ⟨s0, s1, s2, s3, s4, s5, s6, s7, s8, s9, s10, s11, s12, s13, s14, s15, s16, s17, s18, s19, s20, s21⟩
            first | ((refine Gv.load_run (t := 55) (A := ⟨gb349, 0, none⟩) (cs := [_, _, _, _, _, _, _, _, _, _, _, _, _, _, _, _, _, _, _, _, _]) (x := ?xx23_) ?ho23_ ?hx23_ ⟨s0, s1, s2, s3, s4, s5, s6, s7, s8, s9, s10, s11, s12, s13, s14, s15, s16, s17, s18, s19, s20, trivial⟩ Try.underlying55 rfl (by kernel_rfl)); (case ho23_ => rfl); (case hx23_ => rfl)) | (go_simp; with_reducible rfl)
           rotate_left
           ·simp only [Act.put, List.setIfInBounds_toArray, List.set_cons_zero, List.set_cons_succ, i64_w, i32_w]
            rfl
           refine one_ (i := 1) (N := some 13) #[true, true, false, false, false, false, false, false, false, false, false, false, false, false, false, false, false, false] rfl rfl (one_of HT_.out (by kernel_rfl)) (by decide) (fun K hK => ?_)
           refine goes_ Try.func29 (by kernel_rfl) rfl #[.agg #[.int .i64 ((rd_T55 l0 x7_1).f0), .int .i64 ((rd_T55 l0 x7_1).f1.f0.f0), .int .i64 ((rd_T55 l0 x7_1).f1.f0.f1), .int .i64 ((rd_T55 l0 x7_1).f1.f0.f2), .int .i64 ((rd_T55 l0 x7_1).f1.f0.f3), .int .i64 ((rd_T55 l0 x7_1).f1.f0.f4), .int .i64 ((rd_T55 l0 x7_1).f1.f1), .int .i64 ((rd_T55 l0 x7_1).f2.f0.f0), .int .i64 ((rd_T55 l0 x7_1).f2.f0.f1), .int .i64 ((rd_T55 l0 x7_1).f2.f0.f2), .int .i64 ((rd_T55 l0 x7_1).f2.f0.f3), .int .i64 ((rd_T55 l0 x7_1).f2.f0.f4), .int .i64 ((rd_T55 l0 x7_1).f2.f1), .int .i64 ((rd_T55 l0 x7_1).f3), .int .i64 ((rd_T55 l0 x7_1).f4), .int .i64 ((rd_T55 l0 x7_1).f5), .int .i64 ((rd_T55 l0 x7_1).f6), .int .i64 ((rd_T55 l0 x7_1).f7), .int .i64 ((rd_T55 l0 x7_1).f8), .int .i64 ((rd_T55 l0 x7_1).f9), .int .i64 ((rd_T55 l0 x7_1).f10)]] (by rfl) rfl rfl Gv.lm ?_
           with_reducible refine (impl_RuleOk.calls k1 ((rd_T55 l0 x7_1).f0) ((rd_T55 l0 x7_1).f1.f0.f0) ((rd_T55 l0 x7_1).f1.f0.f1) ((rd_T55 l0 x7_1).f1.f0.f2) ((rd_T55 l0 x7_1).f1.f0.f3) ((rd_T55 l0 x7_1).f1.f0.f4) ((rd_T55 l0 x7_1).f1.f1) ((rd_T55 l0 x7_1).f2.f0.f0) ((rd_T55 l0 x7_1).f2.f0.f1) ((rd_T55 l0 x7_1).f2.f0.f2) ((rd_T55 l0 x7_1).f2.f0.f3) ((rd_T55 l0 x7_1).f2.f0.f4) ((rd_T55 l0 x7_1).f2.f1) ((rd_T55 l0 x7_1).f3) ((rd_T55 l0 x7_1).f4) ((rd_T55 l0 x7_1).f5) ((rd_T55 l0 x7_1).f6) ((rd_T55 l0 x7_1).f7) ((rd_T55 l0 x7_1).f8) ((rd_T55 l0 x7_1).f9) ((rd_T55 l0 x7_1).f10) true _ A5.out).mono ?_
           rintro e w21 ⟨rfl, hb⟩
           refine ⟨_, rfl, ?_⟩
           have n0_ := Gv.a0 (Gv.bb BK349.out hb)
           have n1_ := Gv.a0 (below_step Gv.bw hb)
           clear BK349
           clear HB
           have BK349 := n0_
           have HB := n1_
           clear n0_ n1_
           (try clear hb)
           (try clear hb2)
           (try clear hk)
           (try clear hi)
           refine hK.out _ _ ⟨(blk_cell BK349.out 0).trans rfl, (blk_cell BK349.out 1).trans rfl, (blk_cell BK349.out 2).trans rfl, (blk_cell BK349.out 3).trans rfl, (blk_cell BK349.out 4).trans rfl, (blk_cell BK349.out 5).trans rfl, (blk_cell BK349.out 6).trans rfl, (blk_cell BK349.out 7).trans rfl, (blk_cell BK349.out 8).trans rfl, (blk_cell BK349.out 9).trans rfl, (blk_cell BK349.out 10).trans rfl, (blk_cell BK349.out 11).trans rfl, (blk_cell BK349.out 12).trans rfl, (blk_cell BK349.out 13).trans rfl, (blk_cell BK349.out 14).trans rfl, (blk_cell BK349.out 15).trans rfl, (blk_cell BK349.out 16).trans rfl, (blk_cell BK349.out 17).trans rfl, (blk_cell BK349.out 18).trans rfl, (blk_cell BK349.out 19).trans rfl, (blk_cell BK349.out 20).trans rfl, (Gv.bx HB.out hw351_0)⟩ (fun hHeld => ?_)
           clear hK K
           refine norm_ (a' := ?_) ?_ ?_
           rotate_left
           ·show Act.put _ (some 13) _ = _
            simp only [Act.put, List.setIfInBounds_toArray, List.set_cons_zero, List.set_cons_succ, i64_w, i32_w]
            rfl
           refine Gv.pu 2 (some 14) HT_ ?_
           refine Gv.pu 3 (some 15) HT_ ?_
           refine Gv.pu 4 (some 16) HT_ ?_
           refine Gv.pu 5 (some 17) HT_ ?_
           refine Gv.pu 6 (some 18) HT_ ?_
           refine Gv.pu 7 (some 19) HT_ ?_
           refine Gv.pu 8 (some 20) HT_ ?_
           refine Gv.pu 9 (some 21) HT_ ?_
           refine Gv.pu 10 (some 22) HT_ ?_
           refine Gv.pu 11 (some 23) HT_ ?_
           refine Gv.pu 13 (some 25) HT_ ?_
           refine take_ (i := 12) (N := some 24) (v := ?_) (a' := ?_) #[true, true, true, true, true, true, true, true, true, true, true, true, true, true, false, false, false, false] rfl rfl (take_ofW HT_.out HW_.out (by kernel_rfl)) (fun _ _ _ h => h) (Or.inl ⟨by rfl, ?_⟩) hHeld ?_ ?_
           rotate_left
           ·rintro w' ⟨s0, s1, s2, s3, s4, s5, s6, s7, s8, s9, s10, s11, s12, s13, s14, s15, s16, s17, s18, s19, s20, s21⟩
            first | ((refine Gv.load_run (t := 55) (A := ⟨gb349, 0, none⟩) (cs := [_, _, _, _, _, _, _, _, _, _, _, _, _, _, _, _, _, _, _, _, _]) (x := ?xx25_) ?ho25_ ?hx25_ ⟨s0, s1, s2, s3, s4, s5, s6, s7, s8, s9, s10, s11, s12, s13, s14, s15, s16, s17, s18, s19, s20, trivial⟩ Try.underlying55 rfl (by kernel_rfl)); (case ho25_ => rfl); (case hx25_ => rfl)) | (go_simp; with_reducible rfl)
           rotate_left
           ·simp only [Act.put, List.setIfInBounds_toArray, List.set_cons_zero, List.set_cons_succ, i64_w, i32_w]
            rfl
           refine take_ (i := 14) (N := some 26) (v := ?_) (a' := ?_) #[true, true, true, true, true, true, true, true, true, true, true, true, true, true, true, false, false, false] rfl rfl (take_ofW HT_.out HW_.out (by kernel_rfl)) (fun _ _ _ h => h) (Or.inl ⟨by rfl, ?_⟩) hHeld ?_ ?_
           rotate_left
           ·rintro w' ⟨s0, s1, s2, s3, s4, s5, s6, s7, s8, s9, s10, s11, s12, s13, s14, s15, s16, s17, s18, s19, s20, s21⟩
            first | ((refine Gv.load_run (t := 55) (A := ⟨gb349, 0, none⟩) (cs := [_, _, _, _, _, _, _, _, _, _, _, _, _, _, _, _, _, _, _, _, _]) (x := ?xx27_) ?ho27_ ?hx27_ ⟨s0, s1, s2, s3, s4, s5, s6, s7, s8, s9, s10, s11, s12, s13, s14, s15, s16, s17, s18, s19, s20, trivial⟩ Try.underlying55 rfl (by kernel_rfl)); (case ho27_ => rfl); (case hx27_ => rfl)) | (go_simp; with_reducible rfl)
           rotate_left
           ·simp only [Act.put, List.setIfInBounds_toArray, List.set_cons_zero, List.set_cons_succ, i64_w, i32_w]
            rfl
           refine Gv.pu 15 (some 27) HT_ ?_
           refine Gv.pu 16 (some 28) HT_ ?_
           refine Gv.pu 17 (some 29) HT_ ?_
           refine done_ (done_of HT_.out (by kernel_rfl)) ?_
           try go_wp2
           go_roundg k1
           case measure => have := HK1.out; omega
           case rel => exact ⟨(wrap64 (x7_1 + 1)), (by first | rfl | (simp; done) | (simp [Int.tdiv_eq_ediv_of_nonneg]; done) | (simp [*]; done)), H', ⟨by have := HK1.out; omega⟩, ⟨by repeat (first | (with_reducible first | exact HB.out | apply below_alloc | apply pw_below_drewN | apply below_drew1 | refine below_set ?_ GE349.out) | exact HB.out)⟩⟩
         ·rw [if_neg c10] at H
          exact absurd H (by simp)
        ·rw [if_neg c9] at H
         exact absurd H (by simp)
       ·rw [if_neg c7] at H
        have c7b0 : decide (0 < x7_1) = false := decide_eq_false c7
        clear c7
        have H' := Gv.a0 H
        clear H
        have p348 : 0 ≤ (x7_1 : Int) := of_decide_eq_true (by first | (with_reducible assumption) | assumption)
        have q348 : x7_1 < (l0.length : Int) := of_decide_eq_true (by first | (with_reducible assumption) | assumption)
        obtain ⟨ad348, e348, hx348_0, hx348_1, hx348_2, hx348_3, hx348_4, hx348_5, hx348_6, hx348_7, hx348_8, hx348_9, hx348_10, hx348_11, hx348_12, hx348_13, hx348_14, hx348_15, hx348_16, hx348_17, hx348_18, hx348_19, hx348_20⟩ := at_T55 HR0.out x7_1 p348 q348
        cases e348
        replace hx348_0 := Gv.bx HB.out hx348_0
        replace hx348_1 := Gv.bx HB.out hx348_1
        replace hx348_2 := Gv.bx HB.out hx348_2
        replace hx348_3 := Gv.bx HB.out hx348_3
        replace hx348_4 := Gv.bx HB.out hx348_4
        replace hx348_5 := Gv.bx HB.out hx348_5
        replace hx348_6 := Gv.bx HB.out hx348_6
        replace hx348_7 := Gv.bx HB.out hx348_7
        replace hx348_8 := Gv.bx HB.out hx348_8
        replace hx348_9 := Gv.bx HB.out hx348_9
        replace hx348_10 := Gv.bx HB.out hx348_10
        replace hx348_11 := Gv.bx HB.out hx348_11
        replace hx348_12 := Gv.bx HB.out hx348_12
        replace hx348_13 := Gv.bx HB.out hx348_13
        replace hx348_14 := Gv.bx HB.out hx348_14
        replace hx348_15 := Gv.bx HB.out hx348_15
        replace hx348_16 := Gv.bx HB.out hx348_16
        replace hx348_17 := Gv.bx HB.out hx348_17
        replace hx348_18 := Gv.bx HB.out hx348_18
        replace hx348_19 := Gv.bx HB.out hx348_19
        replace hx348_20 := Gv.bx HB.out hx348_20
        replace p348 := eq_true p348
        replace q348 := eq_true q348
        try go_wp2_with (first | ((with_reducible refine gate_dst (N := 4) rfl ?_); refine box_event ?hg (N := 4) ?hd (cs := #[.int .i64 0, .int .i64 0, .int .i64 0, .int .i64 0, .int .i64 0, .int .i64 0, .int .i64 0, .int .i64 0, .int .i64 0, .int .i64 0, .int .i64 0, .int .i64 0, .int .i64 0, .int .i64 0, .int .i64 0, .int .i64 0, .int .i64 0, .int .i64 0, .int .i64 0, .int .i64 0, .int .i64 0]) (t := 55) ?hr ?_; (case hd => rfl); (case hg => rfl); (case hr => first | (go_simp; done) | (go_simp; rfl)); intro gb349 hg w22 hbox hb; have n0_ := Gv.a0 (below_step Gv.bw hb); have n1_ := Gv.a0 (hbox); have n2_ := Gv.a0 ((Gv.ble hg Gv.bw : w.heap.size ≤ gb349)); have n3_ := Gv.a0 ((Gv.ble hg Gv.bw : w.heap.size ≤ gb349)); clear HB; have HB := n0_; have BK349 := n1_; have GW349 := n2_; have GE349 := n3_; clear n0_ n1_ n2_ n3_; clear hb hbox hg; obtain ⟨hcz23_0, hcz23_1, hcz23_2, hcz23_3, hcz23_4, hcz23_5, hcz23_6, hcz23_7, hcz23_8, hcz23_9, hcz23_10, hcz23_11, hcz23_12, hcz23_13, hcz23_14, hcz23_15, hcz23_16, hcz23_17, hcz23_18, hcz23_19, hcz23_20⟩ := Gv.c21 BK349.out; obtain ⟨hfz23_0, hfz23_1, hfz23_2, hfz23_3, hfz23_4, hfz23_5, hfz23_6, hfz23_7, hfz23_8, hfz23_9, hfz23_10, hfz23_11, hfz23_12, hfz23_13, hfz23_14, hfz23_15, hfz23_16, hfz23_17, hfz23_18, hfz23_19, hfz23_20⟩ := Gv.f21 BK349.out) | ((with_reducible refine gate_store (t := 55) (p := 4) rfl ?_); refine Gv.store_event rfl rfl rfl rfl rfl (Gv.kb BK349.out) (by kernel_rfl) rfl (by simp; and_intros <;> rfl) ?_; intro w22s hbox hoth hbel; have n0_ := Gv.a0 (hbox); have n1_ := Gv.a0 (hbel w Gv.bw GE349.out); clear BK349 HB; have BK349 := n0_; have HB := n1_; clear n0_ n1_ hbox hoth hbel; (try clear hcz23_0 hcz23_1 hcz23_2 hcz23_3 hcz23_4 hcz23_5 hcz23_6 hcz23_7 hcz23_8 hcz23_9 hcz23_10 hcz23_11 hcz23_12 hcz23_13 hcz23_14 hcz23_15 hcz23_16 hcz23_17 hcz23_18 hcz23_19 hcz23_20 hfz23_0 hfz23_1 hfz23_2 hfz23_3 hfz23_4 hfz23_5 hfz23_6 hfz23_7 hfz23_8 hfz23_9 hfz23_10 hfz23_11 hfz23_12 hfz23_13 hfz23_14 hfz23_15 hfz23_16 hfz23_17 hfz23_18 hfz23_19 hfz23_20); obtain ⟨hcz23_0, hcz23_1, hcz23_2, hcz23_3, hcz23_4, hcz23_5, hcz23_6, hcz23_7, hcz23_8, hcz23_9, hcz23_10, hcz23_11, hcz23_12, hcz23_13, hcz23_14, hcz23_15, hcz23_16, hcz23_17, hcz23_18, hcz23_19, hcz23_20⟩ := Gv.c21 BK349.out; obtain ⟨hfz23_0, hfz23_1, hfz23_2, hfz23_3, hfz23_4, hfz23_5, hfz23_6, hfz23_7, hfz23_8, hfz23_9, hfz23_10, hfz23_11, hfz23_12, hfz23_13, hfz23_14, hfz23_15, hfz23_16, hfz23_17, hfz23_18, hfz23_19, hfz23_20⟩ := Gv.f21 BK349.out) | ((with_reducible refine Gv.gate_load (t := 55) rfl ?_); (try (refine gate_guard (by rfl) ?_; dsimp only)); refine wpList_load_row rfl 55 _ rfl gb349 rfl 55 _ _ _ (Gv.kb0 BK349.out) Try.underlying55 rfl (by kernel_rfl) ?_) | ((with_reducible refine Gv.gate_load (t := 55) rfl ?_); (try (refine gate_guard (by rfl) ?_; dsimp only)); refine wpList_load_row rfl 55 _ rfl gb349 rfl 55 _ _ _ (Gv.kb1 (Gv.kb0 BK349.out)) Try.underlying55 rfl (by kernel_rfl) ?_) | ((with_reducible refine Gv.gate_load (t := 55) rfl ?_); refine Gv.load_event (cs := [_, _, _, _, _, _, _, _, _, _, _, _, _, _, _, _, _, _, _, _, _]) rfl rfl rfl ⟨hx348_0, hx348_1, hx348_2, hx348_3, hx348_4, hx348_5, hx348_6, hx348_7, hx348_8, hx348_9, hx348_10, hx348_11, hx348_12, hx348_13, hx348_14, hx348_15, hx348_16, hx348_17, hx348_18, hx348_19, hx348_20, trivial⟩ Try.underlying55 rfl (by kernel_rfl) ?_))
        have n0_ := Gv.a0 (blk_drew BK349.out)
        have n1_ := Gv.a0 (below_drew1 HB.out)
        clear BK349
        clear HB
        have BK349 := n0_
        have HB := n1_
        clear n0_ n1_
        refine start_ (n := 18) (S := fun w' => w'.cell? ⟨gb349, 0, none⟩ = some (.int .i64 ((rd_T55 l0 x7_1).f0)) ∧ w'.cell? ⟨gb349, 1, none⟩ = some (.int .i64 ((rd_T55 l0 x7_1).f1.f0.f0)) ∧ w'.cell? ⟨gb349, 2, none⟩ = some (.int .i64 ((rd_T55 l0 x7_1).f1.f0.f1)) ∧ w'.cell? ⟨gb349, 3, none⟩ = some (.int .i64 ((rd_T55 l0 x7_1).f1.f0.f2)) ∧ w'.cell? ⟨gb349, 4, none⟩ = some (.int .i64 ((rd_T55 l0 x7_1).f1.f0.f3)) ∧ w'.cell? ⟨gb349, 5, none⟩ = some (.int .i64 ((rd_T55 l0 x7_1).f1.f0.f4)) ∧ w'.cell? ⟨gb349, 6, none⟩ = some (.int .i64 ((rd_T55 l0 x7_1).f1.f1)) ∧ w'.cell? ⟨gb349, 7, none⟩ = some (.int .i64 ((rd_T55 l0 x7_1).f2.f0.f0)) ∧ w'.cell? ⟨gb349, 8, none⟩ = some (.int .i64 ((rd_T55 l0 x7_1).f2.f0.f1)) ∧ w'.cell? ⟨gb349, 9, none⟩ = some (.int .i64 ((rd_T55 l0 x7_1).f2.f0.f2)) ∧ w'.cell? ⟨gb349, 10, none⟩ = some (.int .i64 ((rd_T55 l0 x7_1).f2.f0.f3)) ∧ w'.cell? ⟨gb349, 11, none⟩ = some (.int .i64 ((rd_T55 l0 x7_1).f2.f0.f4)) ∧ w'.cell? ⟨gb349, 12, none⟩ = some (.int .i64 ((rd_T55 l0 x7_1).f2.f1)) ∧ w'.cell? ⟨gb349, 13, none⟩ = some (.int .i64 ((rd_T55 l0 x7_1).f3)) ∧ w'.cell? ⟨gb349, 14, none⟩ = some (.int .i64 ((rd_T55 l0 x7_1).f4)) ∧ w'.cell? ⟨gb349, 15, none⟩ = some (.int .i64 ((rd_T55 l0 x7_1).f5)) ∧ w'.cell? ⟨gb349, 16, none⟩ = some (.int .i64 ((rd_T55 l0 x7_1).f6)) ∧ w'.cell? ⟨gb349, 17, none⟩ = some (.int .i64 ((rd_T55 l0 x7_1).f7)) ∧ w'.cell? ⟨gb349, 18, none⟩ = some (.int .i64 ((rd_T55 l0 x7_1).f8)) ∧ w'.cell? ⟨gb349, 19, none⟩ = some (.int .i64 ((rd_T55 l0 x7_1).f9)) ∧ w'.cell? ⟨gb349, 20, none⟩ = some (.int .i64 ((rd_T55 l0 x7_1).f10))) (ds := []) #[false, false, false, false, false, false, false, false, false, false, false, false, false, false, false, false, false, false] (by kernel_rfl) rfl rfl ⟨(blk_cell BK349.out 0).trans rfl, (blk_cell BK349.out 1).trans rfl, (blk_cell BK349.out 2).trans rfl, (blk_cell BK349.out 3).trans rfl, (blk_cell BK349.out 4).trans rfl, (blk_cell BK349.out 5).trans rfl, (blk_cell BK349.out 6).trans rfl, (blk_cell BK349.out 7).trans rfl, (blk_cell BK349.out 8).trans rfl, (blk_cell BK349.out 9).trans rfl, (blk_cell BK349.out 10).trans rfl, (blk_cell BK349.out 11).trans rfl, (blk_cell BK349.out 12).trans rfl, (blk_cell BK349.out 13).trans rfl, (blk_cell BK349.out 14).trans rfl, (blk_cell BK349.out 15).trans rfl, (blk_cell BK349.out 16).trans rfl, (blk_cell BK349.out 17).trans rfl, (blk_cell BK349.out 18).trans rfl, (blk_cell BK349.out 19).trans rfl, (blk_cell BK349.out 20).trans rfl⟩ (fun hHeld => ?_); refine with_tabW impl_RulesOk.tab4 impl_RulesOk.bits4 (fun HT_ HW_ => ?_)
        generalize w22s.drew = w25 at BK349 HB hHeld ⊢
        refine take_ (i := 0) (N := some 12) (v := ?_) (a' := ?_) #[true, false, false, false, false, false, false, false, false, false, false, false, false, false, false, false, false, false] rfl rfl (take_ofW HT_.out HW_.out (by kernel_rfl)) (fun _ _ _ h => h) (Or.inl ⟨by rfl, ?_⟩) hHeld ?_ ?_
        rotate_left
        ·rintro w' ⟨s0, s1, s2, s3, s4, s5, s6, s7, s8, s9, s10, s11, s12, s13, s14, s15, s16, s17, s18, s19, s20⟩
         first | ((refine Gv.load_run (t := 55) (A := ⟨gb349, 0, none⟩) (cs := [_, _, _, _, _, _, _, _, _, _, _, _, _, _, _, _, _, _, _, _, _]) (x := ?xx29_) ?ho29_ ?hx29_ ⟨s0, s1, s2, s3, s4, s5, s6, s7, s8, s9, s10, s11, s12, s13, s14, s15, s16, s17, s18, s19, s20, trivial⟩ Try.underlying55 rfl (by kernel_rfl)); (case ho29_ => rfl); (case hx29_ => rfl)) | (go_simp; with_reducible rfl)
        rotate_left
        ·simp only [Act.put, List.setIfInBounds_toArray, List.set_cons_zero, List.set_cons_succ, i64_w, i32_w]
         rfl
        refine one_ (i := 1) (N := some 13) #[true, true, false, false, false, false, false, false, false, false, false, false, false, false, false, false, false, false] rfl rfl (one_of HT_.out (by kernel_rfl)) (by decide) (fun K hK => ?_)
        refine goes_ Try.func29 (by kernel_rfl) rfl #[.agg #[.int .i64 ((rd_T55 l0 x7_1).f0), .int .i64 ((rd_T55 l0 x7_1).f1.f0.f0), .int .i64 ((rd_T55 l0 x7_1).f1.f0.f1), .int .i64 ((rd_T55 l0 x7_1).f1.f0.f2), .int .i64 ((rd_T55 l0 x7_1).f1.f0.f3), .int .i64 ((rd_T55 l0 x7_1).f1.f0.f4), .int .i64 ((rd_T55 l0 x7_1).f1.f1), .int .i64 ((rd_T55 l0 x7_1).f2.f0.f0), .int .i64 ((rd_T55 l0 x7_1).f2.f0.f1), .int .i64 ((rd_T55 l0 x7_1).f2.f0.f2), .int .i64 ((rd_T55 l0 x7_1).f2.f0.f3), .int .i64 ((rd_T55 l0 x7_1).f2.f0.f4), .int .i64 ((rd_T55 l0 x7_1).f2.f1), .int .i64 ((rd_T55 l0 x7_1).f3), .int .i64 ((rd_T55 l0 x7_1).f4), .int .i64 ((rd_T55 l0 x7_1).f5), .int .i64 ((rd_T55 l0 x7_1).f6), .int .i64 ((rd_T55 l0 x7_1).f7), .int .i64 ((rd_T55 l0 x7_1).f8), .int .i64 ((rd_T55 l0 x7_1).f9), .int .i64 ((rd_T55 l0 x7_1).f10)]] (by rfl) rfl rfl Gv.lm ?_
        with_reducible refine (impl_RuleOk.calls k1 ((rd_T55 l0 x7_1).f0) ((rd_T55 l0 x7_1).f1.f0.f0) ((rd_T55 l0 x7_1).f1.f0.f1) ((rd_T55 l0 x7_1).f1.f0.f2) ((rd_T55 l0 x7_1).f1.f0.f3) ((rd_T55 l0 x7_1).f1.f0.f4) ((rd_T55 l0 x7_1).f1.f1) ((rd_T55 l0 x7_1).f2.f0.f0) ((rd_T55 l0 x7_1).f2.f0.f1) ((rd_T55 l0 x7_1).f2.f0.f2) ((rd_T55 l0 x7_1).f2.f0.f3) ((rd_T55 l0 x7_1).f2.f0.f4) ((rd_T55 l0 x7_1).f2.f1) ((rd_T55 l0 x7_1).f3) ((rd_T55 l0 x7_1).f4) ((rd_T55 l0 x7_1).f5) ((rd_T55 l0 x7_1).f6) ((rd_T55 l0 x7_1).f7) ((rd_T55 l0 x7_1).f8) ((rd_T55 l0 x7_1).f9) ((rd_T55 l0 x7_1).f10) true _ A5.out).mono ?_
        rintro e w26 ⟨rfl, hb⟩
        refine ⟨_, rfl, ?_⟩
        have n0_ := Gv.a0 (Gv.bb BK349.out hb)
        have n1_ := Gv.a0 (below_step Gv.bw hb)
        clear BK349
        clear HB
        have BK349 := n0_
        have HB := n1_
        clear n0_ n1_
        (try clear hb)
        (try clear hb2)
        (try clear hk)
        (try clear hi)
        refine hK.out _ _ ⟨(blk_cell BK349.out 0).trans rfl, (blk_cell BK349.out 1).trans rfl, (blk_cell BK349.out 2).trans rfl, (blk_cell BK349.out 3).trans rfl, (blk_cell BK349.out 4).trans rfl, (blk_cell BK349.out 5).trans rfl, (blk_cell BK349.out 6).trans rfl, (blk_cell BK349.out 7).trans rfl, (blk_cell BK349.out 8).trans rfl, (blk_cell BK349.out 9).trans rfl, (blk_cell BK349.out 10).trans rfl, (blk_cell BK349.out 11).trans rfl, (blk_cell BK349.out 12).trans rfl, (blk_cell BK349.out 13).trans rfl, (blk_cell BK349.out 14).trans rfl, (blk_cell BK349.out 15).trans rfl, (blk_cell BK349.out 16).trans rfl, (blk_cell BK349.out 17).trans rfl, (blk_cell BK349.out 18).trans rfl, (blk_cell BK349.out 19).trans rfl, (blk_cell BK349.out 20).trans rfl⟩ (fun hHeld => ?_)
        clear hK K
        refine norm_ (a' := ?_) ?_ ?_
        rotate_left
        ·show Act.put _ (some 13) _ = _
         simp only [Act.put, List.setIfInBounds_toArray, List.set_cons_zero, List.set_cons_succ, i64_w, i32_w]
         rfl
        refine Gv.pu 2 (some 14) HT_ ?_
        refine Gv.pu 3 (some 15) HT_ ?_
        refine Gv.pu 4 (some 16) HT_ ?_
        refine Gv.pu 5 (some 17) HT_ ?_
        refine Gv.pu 6 (some 18) HT_ ?_
        refine pure_ (i := 7) (N := some 19) (v := undef) (a' := ?_) #[true, true, true, true, true, true, true, true, false, false, false, false, false, false, false, false, false, false] rfl rfl (any_of HT_.out (by kernel_rfl)) (fun _ _ _ h => h) (Or.inr ⟨by rfl, rfl⟩) ?_ ?_
        rotate_left
        ·simp only [Act.put, List.setIfInBounds_toArray, List.set_cons_zero, List.set_cons_succ, i64_w, i32_w]
         rfl
        refine pure_ (i := 8) (N := some 20) (v := undef) (a' := ?_) #[true, true, true, true, true, true, true, true, true, false, false, false, false, false, false, false, false, false] rfl rfl (any_of HT_.out (by kernel_rfl)) (fun _ _ _ h => h) (Or.inr ⟨by rfl, rfl⟩) ?_ ?_
        rotate_left
        ·simp only [Act.put, List.setIfInBounds_toArray, List.set_cons_zero, List.set_cons_succ, i64_w, i32_w]
         rfl
        refine pure_ (i := 9) (N := some 21) (v := undef) (a' := ?_) #[true, true, true, true, true, true, true, true, true, true, false, false, false, false, false, false, false, false] rfl rfl (any_of HT_.out (by kernel_rfl)) (fun _ _ _ h => h) (Or.inr ⟨by rfl, rfl⟩) ?_ ?_
        rotate_left
        ·simp only [Act.put, List.setIfInBounds_toArray, List.set_cons_zero, List.set_cons_succ, i64_w, i32_w]
         rfl
        refine pure_ (i := 10) (N := some 22) (v := undef) (a' := ?_) #[true, true, true, true, true, true, true, true, true, true, true, false, false, false, false, false, false, false] rfl rfl (any_of HT_.out (by kernel_rfl)) (fun _ _ _ h => h) (Or.inr ⟨by rfl, rfl⟩) ?_ ?_
        rotate_left
        ·simp only [Act.put, List.setIfInBounds_toArray, List.set_cons_zero, List.set_cons_succ, i64_w, i32_w]
         rfl
        refine pure_ (i := 11) (N := some 23) (v := undef) (a' := ?_) #[true, true, true, true, true, true, true, true, true, true, true, true, false, false, false, false, false, false] rfl rfl (any_of HT_.out (by kernel_rfl)) (fun _ _ _ h => h) (Or.inr ⟨by rfl, rfl⟩) ?_ ?_
        rotate_left
        ·simp only [Act.put, List.setIfInBounds_toArray, List.set_cons_zero, List.set_cons_succ, i64_w, i32_w]
         rfl
        refine pure_ (i := 12) (N := some 24) (v := undef) (a' := ?_) #[true, true, true, true, true, true, true, true, true, true, true, true, true, false, false, false, false, false] rfl rfl (any_of HT_.out (by kernel_rfl)) (fun _ _ _ h => h) (Or.inr ⟨by rfl, rfl⟩) ?_ ?_
        rotate_left
        ·simp only [Act.put, List.setIfInBounds_toArray, List.set_cons_zero, List.set_cons_succ, i64_w, i32_w]
         rfl
        refine pure_ (i := 13) (N := some 25) (v := undef) (a' := ?_) #[true, true, true, true, true, true, true, true, true, true, true, true, true, true, false, false, false, false] rfl rfl (any_of HT_.out (by kernel_rfl)) (fun _ _ _ h => h) (Or.inr ⟨by rfl, rfl⟩) ?_ ?_
        rotate_left
        ·simp only [Act.put, List.setIfInBounds_toArray, List.set_cons_zero, List.set_cons_succ, i64_w, i32_w]
         rfl
        refine pure_ (i := 14) (N := some 26) (v := undef) (a' := ?_) #[true, true, true, true, true, true, true, true, true, true, true, true, true, true, true, false, false, false] rfl rfl (any_of HT_.out (by kernel_rfl)) (fun _ _ _ h => h) (Or.inr ⟨by rfl, rfl⟩) ?_ ?_
        rotate_left
        ·simp only [Act.put, List.setIfInBounds_toArray, List.set_cons_zero, List.set_cons_succ, i64_w, i32_w]
         rfl
        refine pure_ (i := 15) (N := some 27) (v := undef) (a' := ?_) #[true, true, true, true, true, true, true, true, true, true, true, true, true, true, true, true, false, false] rfl rfl (any_of HT_.out (by kernel_rfl)) (fun _ _ _ h => h) (Or.inr ⟨by rfl, rfl⟩) ?_ ?_
        rotate_left
        ·simp only [Act.put, List.setIfInBounds_toArray, List.set_cons_zero, List.set_cons_succ, i64_w, i32_w]
         rfl
        refine Gv.pu 16 (some 28) HT_ ?_
        refine Gv.pu 17 (some 29) HT_ ?_
        refine done_ (done_of HT_.out (by kernel_rfl)) ?_
        try go_wp2
        go_roundg k1
        case measure => have := HK1.out; omega
        case rel => exact ⟨(wrap64 (x7_1 + 1)), (by first | rfl | (simp; done) | (simp [Int.tdiv_eq_ediv_of_nonneg]; done) | (simp [*]; done)), H', ⟨by have := HK1.out; omega⟩, ⟨by repeat (first | (with_reducible first | exact HB.out | apply below_alloc | apply pw_below_drewN | apply below_drew1 | refine below_set ?_ GE349.out) | exact HB.out)⟩⟩
      ·replace c6 := Bool.eq_false_iff.mpr c6
       subst c6
       have H1 : (some false) = some r := by rw [if_neg (show ¬ (false = true) by decide)] at H; exact H
       clear H
       have H := H1
       clear H1
       obtain rfl := Option.some.inj H
       have p348 : 0 ≤ (x7_1 : Int) := of_decide_eq_true (by first | (with_reducible assumption) | assumption)
       have q348 : x7_1 < (l0.length : Int) := of_decide_eq_true (by first | (with_reducible assumption) | assumption)
       obtain ⟨ad348, e348, hx348_0, hx348_1, hx348_2, hx348_3, hx348_4, hx348_5, hx348_6, hx348_7, hx348_8, hx348_9, hx348_10, hx348_11, hx348_12, hx348_13, hx348_14, hx348_15, hx348_16, hx348_17, hx348_18, hx348_19, hx348_20⟩ := at_T55 HR0.out x7_1 p348 q348
       cases e348
       replace hx348_0 := Gv.bx HB.out hx348_0
       replace hx348_1 := Gv.bx HB.out hx348_1
       replace hx348_2 := Gv.bx HB.out hx348_2
       replace hx348_3 := Gv.bx HB.out hx348_3
       replace hx348_4 := Gv.bx HB.out hx348_4
       replace hx348_5 := Gv.bx HB.out hx348_5
       replace hx348_6 := Gv.bx HB.out hx348_6
       replace hx348_7 := Gv.bx HB.out hx348_7
       replace hx348_8 := Gv.bx HB.out hx348_8
       replace hx348_9 := Gv.bx HB.out hx348_9
       replace hx348_10 := Gv.bx HB.out hx348_10
       replace hx348_11 := Gv.bx HB.out hx348_11
       replace hx348_12 := Gv.bx HB.out hx348_12
       replace hx348_13 := Gv.bx HB.out hx348_13
       replace hx348_14 := Gv.bx HB.out hx348_14
       replace hx348_15 := Gv.bx HB.out hx348_15
       replace hx348_16 := Gv.bx HB.out hx348_16
       replace hx348_17 := Gv.bx HB.out hx348_17
       replace hx348_18 := Gv.bx HB.out hx348_18
       replace hx348_19 := Gv.bx HB.out hx348_19
       replace hx348_20 := Gv.bx HB.out hx348_20
       replace p348 := eq_true p348
       replace q348 := eq_true q348
       try go_wp2_with (first | ((with_reducible refine gate_dst (N := 4) rfl ?_); refine box_event ?hg (N := 4) ?hd (cs := #[.int .i64 0, .int .i64 0, .int .i64 0, .int .i64 0, .int .i64 0, .int .i64 0, .int .i64 0, .int .i64 0, .int .i64 0, .int .i64 0, .int .i64 0, .int .i64 0, .int .i64 0, .int .i64 0, .int .i64 0, .int .i64 0, .int .i64 0, .int .i64 0, .int .i64 0, .int .i64 0, .int .i64 0]) (t := 55) ?hr ?_; (case hd => rfl); (case hg => rfl); (case hr => first | (go_simp; done) | (go_simp; rfl)); intro gb349 hg w27 hbox hb; have n0_ := Gv.a0 (below_step Gv.bw hb); have n1_ := Gv.a0 (hbox); have n2_ := Gv.a0 ((Gv.ble hg Gv.bw : w.heap.size ≤ gb349)); have n3_ := Gv.a0 ((Gv.ble hg Gv.bw : w.heap.size ≤ gb349)); clear HB; have HB := n0_; have BK349 := n1_; have GW349 := n2_; have GE349 := n3_; clear n0_ n1_ n2_ n3_; clear hb hbox hg; obtain ⟨hcz28_0, hcz28_1, hcz28_2, hcz28_3, hcz28_4, hcz28_5, hcz28_6, hcz28_7, hcz28_8, hcz28_9, hcz28_10, hcz28_11, hcz28_12, hcz28_13, hcz28_14, hcz28_15, hcz28_16, hcz28_17, hcz28_18, hcz28_19, hcz28_20⟩ := Gv.c21 BK349.out; obtain ⟨hfz28_0, hfz28_1, hfz28_2, hfz28_3, hfz28_4, hfz28_5, hfz28_6, hfz28_7, hfz28_8, hfz28_9, hfz28_10, hfz28_11, hfz28_12, hfz28_13, hfz28_14, hfz28_15, hfz28_16, hfz28_17, hfz28_18, hfz28_19, hfz28_20⟩ := Gv.f21 BK349.out) | ((with_reducible refine gate_store (t := 55) (p := 4) rfl ?_); refine Gv.store_event rfl rfl rfl rfl rfl (Gv.kb BK349.out) (by kernel_rfl) rfl (by simp; and_intros <;> rfl) ?_; intro w27s hbox hoth hbel; have n0_ := Gv.a0 (hbox); have n1_ := Gv.a0 (hbel w Gv.bw GE349.out); clear BK349 HB; have BK349 := n0_; have HB := n1_; clear n0_ n1_ hbox hoth hbel; (try clear hcz28_0 hcz28_1 hcz28_2 hcz28_3 hcz28_4 hcz28_5 hcz28_6 hcz28_7 hcz28_8 hcz28_9 hcz28_10 hcz28_11 hcz28_12 hcz28_13 hcz28_14 hcz28_15 hcz28_16 hcz28_17 hcz28_18 hcz28_19 hcz28_20 hfz28_0 hfz28_1 hfz28_2 hfz28_3 hfz28_4 hfz28_5 hfz28_6 hfz28_7 hfz28_8 hfz28_9 hfz28_10 hfz28_11 hfz28_12 hfz28_13 hfz28_14 hfz28_15 hfz28_16 hfz28_17 hfz28_18 hfz28_19 hfz28_20); obtain ⟨hcz28_0, hcz28_1, hcz28_2, hcz28_3, hcz28_4, hcz28_5, hcz28_6, hcz28_7, hcz28_8, hcz28_9, hcz28_10, hcz28_11, hcz28_12, hcz28_13, hcz28_14, hcz28_15, hcz28_16, hcz28_17, hcz28_18, hcz28_19, hcz28_20⟩ := Gv.c21 BK349.out; obtain ⟨hfz28_0, hfz28_1, hfz28_2, hfz28_3, hfz28_4, hfz28_5, hfz28_6, hfz28_7, hfz28_8, hfz28_9, hfz28_10, hfz28_11, hfz28_12, hfz28_13, hfz28_14, hfz28_15, hfz28_16, hfz28_17, hfz28_18, hfz28_19, hfz28_20⟩ := Gv.f21 BK349.out) | ((with_reducible refine Gv.gate_load (t := 55) rfl ?_); (try (refine gate_guard (by rfl) ?_; dsimp only)); refine wpList_load_row rfl 55 _ rfl gb349 rfl 55 _ _ _ (Gv.kb0 BK349.out) Try.underlying55 rfl (by kernel_rfl) ?_) | ((with_reducible refine Gv.gate_load (t := 55) rfl ?_); (try (refine gate_guard (by rfl) ?_; dsimp only)); refine wpList_load_row rfl 55 _ rfl gb349 rfl 55 _ _ _ (Gv.kb1 (Gv.kb0 BK349.out)) Try.underlying55 rfl (by kernel_rfl) ?_) | ((with_reducible refine Gv.gate_load (t := 55) rfl ?_); refine Gv.load_event (cs := [_, _, _, _, _, _, _, _, _, _, _, _, _, _, _, _, _, _, _, _, _]) rfl rfl rfl ⟨hx348_0, hx348_1, hx348_2, hx348_3, hx348_4, hx348_5, hx348_6, hx348_7, hx348_8, hx348_9, hx348_10, hx348_11, hx348_12, hx348_13, hx348_14, hx348_15, hx348_16, hx348_17, hx348_18, hx348_19, hx348_20, trivial⟩ Try.underlying55 rfl (by kernel_rfl) ?_))
       have n0_ := Gv.a0 (blk_drew BK349.out)
       have n1_ := Gv.a0 (below_drew1 HB.out)
       clear BK349
       clear HB
       have BK349 := n0_
       have HB := n1_
       clear n0_ n1_
       refine start_ (n := 18) (S := fun w' => w'.cell? ⟨gb349, 0, none⟩ = some (.int .i64 ((rd_T55 l0 x7_1).f0)) ∧ w'.cell? ⟨gb349, 1, none⟩ = some (.int .i64 ((rd_T55 l0 x7_1).f1.f0.f0)) ∧ w'.cell? ⟨gb349, 2, none⟩ = some (.int .i64 ((rd_T55 l0 x7_1).f1.f0.f1)) ∧ w'.cell? ⟨gb349, 3, none⟩ = some (.int .i64 ((rd_T55 l0 x7_1).f1.f0.f2)) ∧ w'.cell? ⟨gb349, 4, none⟩ = some (.int .i64 ((rd_T55 l0 x7_1).f1.f0.f3)) ∧ w'.cell? ⟨gb349, 5, none⟩ = some (.int .i64 ((rd_T55 l0 x7_1).f1.f0.f4)) ∧ w'.cell? ⟨gb349, 6, none⟩ = some (.int .i64 ((rd_T55 l0 x7_1).f1.f1)) ∧ w'.cell? ⟨gb349, 7, none⟩ = some (.int .i64 ((rd_T55 l0 x7_1).f2.f0.f0)) ∧ w'.cell? ⟨gb349, 8, none⟩ = some (.int .i64 ((rd_T55 l0 x7_1).f2.f0.f1)) ∧ w'.cell? ⟨gb349, 9, none⟩ = some (.int .i64 ((rd_T55 l0 x7_1).f2.f0.f2)) ∧ w'.cell? ⟨gb349, 10, none⟩ = some (.int .i64 ((rd_T55 l0 x7_1).f2.f0.f3)) ∧ w'.cell? ⟨gb349, 11, none⟩ = some (.int .i64 ((rd_T55 l0 x7_1).f2.f0.f4)) ∧ w'.cell? ⟨gb349, 12, none⟩ = some (.int .i64 ((rd_T55 l0 x7_1).f2.f1)) ∧ w'.cell? ⟨gb349, 13, none⟩ = some (.int .i64 ((rd_T55 l0 x7_1).f3)) ∧ w'.cell? ⟨gb349, 14, none⟩ = some (.int .i64 ((rd_T55 l0 x7_1).f4)) ∧ w'.cell? ⟨gb349, 15, none⟩ = some (.int .i64 ((rd_T55 l0 x7_1).f5)) ∧ w'.cell? ⟨gb349, 16, none⟩ = some (.int .i64 ((rd_T55 l0 x7_1).f6)) ∧ w'.cell? ⟨gb349, 17, none⟩ = some (.int .i64 ((rd_T55 l0 x7_1).f7)) ∧ w'.cell? ⟨gb349, 18, none⟩ = some (.int .i64 ((rd_T55 l0 x7_1).f8)) ∧ w'.cell? ⟨gb349, 19, none⟩ = some (.int .i64 ((rd_T55 l0 x7_1).f9)) ∧ w'.cell? ⟨gb349, 20, none⟩ = some (.int .i64 ((rd_T55 l0 x7_1).f10))) (ds := []) #[false, false, false, false, false, false, false, false, false, false, false, false, false, false, false, false, false, false] (by kernel_rfl) rfl rfl ⟨(blk_cell BK349.out 0).trans rfl, (blk_cell BK349.out 1).trans rfl, (blk_cell BK349.out 2).trans rfl, (blk_cell BK349.out 3).trans rfl, (blk_cell BK349.out 4).trans rfl, (blk_cell BK349.out 5).trans rfl, (blk_cell BK349.out 6).trans rfl, (blk_cell BK349.out 7).trans rfl, (blk_cell BK349.out 8).trans rfl, (blk_cell BK349.out 9).trans rfl, (blk_cell BK349.out 10).trans rfl, (blk_cell BK349.out 11).trans rfl, (blk_cell BK349.out 12).trans rfl, (blk_cell BK349.out 13).trans rfl, (blk_cell BK349.out 14).trans rfl, (blk_cell BK349.out 15).trans rfl, (blk_cell BK349.out 16).trans rfl, (blk_cell BK349.out 17).trans rfl, (blk_cell BK349.out 18).trans rfl, (blk_cell BK349.out 19).trans rfl, (blk_cell BK349.out 20).trans rfl⟩ (fun hHeld => ?_); refine with_tabW impl_RulesOk.tab4 impl_RulesOk.bits4 (fun HT_ HW_ => ?_)
       generalize w27s.drew = w30 at BK349 HB hHeld ⊢
       refine take_ (i := 0) (N := some 12) (v := ?_) (a' := ?_) #[true, false, false, false, false, false, false, false, false, false, false, false, false, false, false, false, false, false] rfl rfl (take_ofW HT_.out HW_.out (by kernel_rfl)) (fun _ _ _ h => h) (Or.inl ⟨by rfl, ?_⟩) hHeld ?_ ?_
       rotate_left
       ·rintro w' ⟨s0, s1, s2, s3, s4, s5, s6, s7, s8, s9, s10, s11, s12, s13, s14, s15, s16, s17, s18, s19, s20⟩
        first | ((refine Gv.load_run (t := 55) (A := ⟨gb349, 0, none⟩) (cs := [_, _, _, _, _, _, _, _, _, _, _, _, _, _, _, _, _, _, _, _, _]) (x := ?xx31_) ?ho31_ ?hx31_ ⟨s0, s1, s2, s3, s4, s5, s6, s7, s8, s9, s10, s11, s12, s13, s14, s15, s16, s17, s18, s19, s20, trivial⟩ Try.underlying55 rfl (by kernel_rfl)); (case ho31_ => rfl); (case hx31_ => rfl)) | (go_simp; with_reducible rfl)
       rotate_left
       ·simp only [Act.put, List.setIfInBounds_toArray, List.set_cons_zero, List.set_cons_succ, i64_w, i32_w]
        rfl
       refine one_ (i := 1) (N := some 13) #[true, true, false, false, false, false, false, false, false, false, false, false, false, false, false, false, false, false] rfl rfl (one_of HT_.out (by kernel_rfl)) (by decide) (fun K hK => ?_)
       refine goes_ Try.func29 (by kernel_rfl) rfl #[.agg #[.int .i64 ((rd_T55 l0 x7_1).f0), .int .i64 ((rd_T55 l0 x7_1).f1.f0.f0), .int .i64 ((rd_T55 l0 x7_1).f1.f0.f1), .int .i64 ((rd_T55 l0 x7_1).f1.f0.f2), .int .i64 ((rd_T55 l0 x7_1).f1.f0.f3), .int .i64 ((rd_T55 l0 x7_1).f1.f0.f4), .int .i64 ((rd_T55 l0 x7_1).f1.f1), .int .i64 ((rd_T55 l0 x7_1).f2.f0.f0), .int .i64 ((rd_T55 l0 x7_1).f2.f0.f1), .int .i64 ((rd_T55 l0 x7_1).f2.f0.f2), .int .i64 ((rd_T55 l0 x7_1).f2.f0.f3), .int .i64 ((rd_T55 l0 x7_1).f2.f0.f4), .int .i64 ((rd_T55 l0 x7_1).f2.f1), .int .i64 ((rd_T55 l0 x7_1).f3), .int .i64 ((rd_T55 l0 x7_1).f4), .int .i64 ((rd_T55 l0 x7_1).f5), .int .i64 ((rd_T55 l0 x7_1).f6), .int .i64 ((rd_T55 l0 x7_1).f7), .int .i64 ((rd_T55 l0 x7_1).f8), .int .i64 ((rd_T55 l0 x7_1).f9), .int .i64 ((rd_T55 l0 x7_1).f10)]] (by rfl) rfl rfl Gv.lm ?_
       with_reducible refine (impl_RuleOk.calls k1 ((rd_T55 l0 x7_1).f0) ((rd_T55 l0 x7_1).f1.f0.f0) ((rd_T55 l0 x7_1).f1.f0.f1) ((rd_T55 l0 x7_1).f1.f0.f2) ((rd_T55 l0 x7_1).f1.f0.f3) ((rd_T55 l0 x7_1).f1.f0.f4) ((rd_T55 l0 x7_1).f1.f1) ((rd_T55 l0 x7_1).f2.f0.f0) ((rd_T55 l0 x7_1).f2.f0.f1) ((rd_T55 l0 x7_1).f2.f0.f2) ((rd_T55 l0 x7_1).f2.f0.f3) ((rd_T55 l0 x7_1).f2.f0.f4) ((rd_T55 l0 x7_1).f2.f1) ((rd_T55 l0 x7_1).f3) ((rd_T55 l0 x7_1).f4) ((rd_T55 l0 x7_1).f5) ((rd_T55 l0 x7_1).f6) ((rd_T55 l0 x7_1).f7) ((rd_T55 l0 x7_1).f8) ((rd_T55 l0 x7_1).f9) ((rd_T55 l0 x7_1).f10) false _ A5.out).mono ?_
       rintro e w31 ⟨rfl, hb⟩
       refine ⟨_, rfl, ?_⟩
       have n0_ := Gv.a0 (Gv.bb BK349.out hb)
       have n1_ := Gv.a0 (below_step Gv.bw hb)
       clear BK349
       clear HB
       have BK349 := n0_
       have HB := n1_
       clear n0_ n1_
       (try clear hb)
       (try clear hb2)
       (try clear hk)
       (try clear hi)
       refine hK.out _ _ ⟨(blk_cell BK349.out 0).trans rfl, (blk_cell BK349.out 1).trans rfl, (blk_cell BK349.out 2).trans rfl, (blk_cell BK349.out 3).trans rfl, (blk_cell BK349.out 4).trans rfl, (blk_cell BK349.out 5).trans rfl, (blk_cell BK349.out 6).trans rfl, (blk_cell BK349.out 7).trans rfl, (blk_cell BK349.out 8).trans rfl, (blk_cell BK349.out 9).trans rfl, (blk_cell BK349.out 10).trans rfl, (blk_cell BK349.out 11).trans rfl, (blk_cell BK349.out 12).trans rfl, (blk_cell BK349.out 13).trans rfl, (blk_cell BK349.out 14).trans rfl, (blk_cell BK349.out 15).trans rfl, (blk_cell BK349.out 16).trans rfl, (blk_cell BK349.out 17).trans rfl, (blk_cell BK349.out 18).trans rfl, (blk_cell BK349.out 19).trans rfl, (blk_cell BK349.out 20).trans rfl⟩ (fun hHeld => ?_)
       clear hK K
       refine norm_ (a' := ?_) ?_ ?_
       rotate_left
       ·show Act.put _ (some 13) _ = _
        simp only [Act.put, List.setIfInBounds_toArray, List.set_cons_zero, List.set_cons_succ, i64_w, i32_w]
        rfl
       refine Gv.pu 2 (some 14) HT_ ?_
       refine Gv.pu 3 (some 15) HT_ ?_
       refine pure_ (i := 4) (N := some 16) (v := undef) (a' := ?_) #[true, true, true, true, true, false, false, false, false, false, false, false, false, false, false, false, false, false] rfl rfl (any_of HT_.out (by kernel_rfl)) (fun _ _ _ h => h) (Or.inr ⟨by rfl, rfl⟩) ?_ ?_
       rotate_left
       ·simp only [Act.put, List.setIfInBounds_toArray, List.set_cons_zero, List.set_cons_succ, i64_w, i32_w]
        rfl
       refine pure_ (i := 5) (N := some 17) (v := undef) (a' := ?_) #[true, true, true, true, true, true, false, false, false, false, false, false, false, false, false, false, false, false] rfl rfl (any_of HT_.out (by kernel_rfl)) (fun _ _ _ h => h) (Or.inr ⟨by rfl, rfl⟩) ?_ ?_
       rotate_left
       ·simp only [Act.put, List.setIfInBounds_toArray, List.set_cons_zero, List.set_cons_succ, i64_w, i32_w]
        rfl
       refine pure_ (i := 6) (N := some 18) (v := undef) (a' := ?_) #[true, true, true, true, true, true, true, false, false, false, false, false, false, false, false, false, false, false] rfl rfl (any_of HT_.out (by kernel_rfl)) (fun _ _ _ h => h) (Or.inr ⟨by rfl, rfl⟩) ?_ ?_
       rotate_left
       ·simp only [Act.put, List.setIfInBounds_toArray, List.set_cons_zero, List.set_cons_succ, i64_w, i32_w]
        rfl
       refine pure_ (i := 7) (N := some 19) (v := undef) (a' := ?_) #[true, true, true, true, true, true, true, true, false, false, false, false, false, false, false, false, false, false] rfl rfl (any_of HT_.out (by kernel_rfl)) (fun _ _ _ h => h) (Or.inr ⟨by rfl, rfl⟩) ?_ ?_
       rotate_left
       ·simp only [Act.put, List.setIfInBounds_toArray, List.set_cons_zero, List.set_cons_succ, i64_w, i32_w]
        rfl
       refine pure_ (i := 8) (N := some 20) (v := undef) (a' := ?_) #[true, true, true, true, true, true, true, true, true, false, false, false, false, false, false, false, false, false] rfl rfl (any_of HT_.out (by kernel_rfl)) (fun _ _ _ h => h) (Or.inr ⟨by rfl, rfl⟩) ?_ ?_
       rotate_left
       ·simp only [Act.put, List.setIfInBounds_toArray, List.set_cons_zero, List.set_cons_succ, i64_w, i32_w]
        rfl
       refine pure_ (i := 9) (N := some 21) (v := undef) (a' := ?_) #[true, true, true, true, true, true, true, true, true, true, false, false, false, false, false, false, false, false] rfl rfl (any_of HT_.out (by kernel_rfl)) (fun _ _ _ h => h) (Or.inr ⟨by rfl, rfl⟩) ?_ ?_
       rotate_left
       ·simp only [Act.put, List.setIfInBounds_toArray, List.set_cons_zero, List.set_cons_succ, i64_w, i32_w]
        rfl
       refine pure_ (i := 10) (N := some 22) (v := undef) (a' := ?_) #[true, true, true, true, true, true, true, true, true, true, true, false, false, false, false, false, false, false] rfl rfl (any_of HT_.out (by kernel_rfl)) (fun _ _ _ h => h) (Or.inr ⟨by rfl, rfl⟩) ?_ ?_
       rotate_left
       ·simp only [Act.put, List.setIfInBounds_toArray, List.set_cons_zero, List.set_cons_succ, i64_w, i32_w]
        rfl
       refine pure_ (i := 11) (N := some 23) (v := undef) (a' := ?_) #[true, true, true, true, true, true, true, true, true, true, true, true, false, false, false, false, false, false] rfl rfl (any_of HT_.out (by kernel_rfl)) (fun _ _ _ h => h) (Or.inr ⟨by rfl, rfl⟩) ?_ ?_
       rotate_left
       ·simp only [Act.put, List.setIfInBounds_toArray, List.set_cons_zero, List.set_cons_succ, i64_w, i32_w]
        rfl
       refine pure_ (i := 12) (N := some 24) (v := undef) (a' := ?_) #[true, true, true, true, true, true, true, true, true, true, true, true, true, false, false, false, false, false] rfl rfl (any_of HT_.out (by kernel_rfl)) (fun _ _ _ h => h) (Or.inr ⟨by rfl, rfl⟩) ?_ ?_
       rotate_left
       ·simp only [Act.put, List.setIfInBounds_toArray, List.set_cons_zero, List.set_cons_succ, i64_w, i32_w]
        rfl
       refine pure_ (i := 13) (N := some 25) (v := undef) (a' := ?_) #[true, true, true, true, true, true, true, true, true, true, true, true, true, true, false, false, false, false] rfl rfl (any_of HT_.out (by kernel_rfl)) (fun _ _ _ h => h) (Or.inr ⟨by rfl, rfl⟩) ?_ ?_
       rotate_left
       ·simp only [Act.put, List.setIfInBounds_toArray, List.set_cons_zero, List.set_cons_succ, i64_w, i32_w]
        rfl
       refine pure_ (i := 14) (N := some 26) (v := undef) (a' := ?_) #[true, true, true, true, true, true, true, true, true, true, true, true, true, true, true, false, false, false] rfl rfl (any_of HT_.out (by kernel_rfl)) (fun _ _ _ h => h) (Or.inr ⟨by rfl, rfl⟩) ?_ ?_
       rotate_left
       ·simp only [Act.put, List.setIfInBounds_toArray, List.set_cons_zero, List.set_cons_succ, i64_w, i32_w]
        rfl
       refine pure_ (i := 15) (N := some 27) (v := undef) (a' := ?_) #[true, true, true, true, true, true, true, true, true, true, true, true, true, true, true, true, false, false] rfl rfl (any_of HT_.out (by kernel_rfl)) (fun _ _ _ h => h) (Or.inr ⟨by rfl, rfl⟩) ?_ ?_
       rotate_left
       ·simp only [Act.put, List.setIfInBounds_toArray, List.set_cons_zero, List.set_cons_succ, i64_w, i32_w]
        rfl
       refine pure_ (i := 16) (N := some 28) (v := undef) (a' := ?_) #[true, true, true, true, true, true, true, true, true, true, true, true, true, true, true, true, true, false] rfl rfl (any_of HT_.out (by kernel_rfl)) (fun _ _ _ h => h) (Or.inr ⟨by rfl, rfl⟩) ?_ ?_
       rotate_left
       ·simp only [Act.put, List.setIfInBounds_toArray, List.set_cons_zero, List.set_cons_succ, i64_w, i32_w]
        rfl
       refine Gv.pu 17 (some 29) HT_ ?_
       refine done_ (done_of HT_.out (by kernel_rfl)) ?_
       try go_wp2
       go_ret
       exact ⟨by first | rfl | (simp [errW_none, errW_some] <;> rfl) | (simp [*, errW_none, errW_some] <;> rfl), by repeat (first | (with_reducible first | exact HB.out | apply below_alloc | apply pw_below_drewN | apply below_drew1 | refine below_set ?_ GE349.out) | exact HB.out)⟩
     ·rw [if_neg c4] at H
      exact absurd H (by simp)
    ·rw [if_neg c3] at H
     exact absurd H (by simp)
   ·rw [if_neg c2] at H
    have c2b0 : decide (x7_1 < (l0.length : Int)) = false := decide_eq_false c2
    clear c2
    obtain rfl := Option.some.inj H
    go_wp2_with (first | ((with_reducible refine Gv.gate_load (t := 55) rfl ?_); (try (refine gate_guard (by rfl) ?_; dsimp only)); refine wpList_load_row rfl 55 _ rfl gb349 rfl 55 _ _ _ (Gv.kb0 BK349.out) Try.underlying55 rfl (by kernel_rfl) ?_) | ((with_reducible refine Gv.gate_load (t := 55) rfl ?_); (try (refine gate_guard (by rfl) ?_; dsimp only)); refine wpList_load_row rfl 55 _ rfl gb349 rfl 55 _ _ _ (Gv.kb1 (Gv.kb0 BK349.out)) Try.underlying55 rfl (by kernel_rfl) ?_))
    go_ret
    exact ⟨by first | rfl | (simp [errW_none, errW_some] <;> rfl) | (simp [*, errW_none, errW_some] <;> rfl), by repeat (first | (with_reducible first | exact HB.out | apply below_alloc | apply pw_below_drewN | apply below_drew1) | exact HB.out)⟩

/-! ### laws_eqAddr: function 68 -/
def laws_eqAddr.f (a0_0 : Int) (a0_1 : Int) (a0_2 : Int) (a0_3 : Int) (a0_4 : Int) (a1_0 : Int) (a1_1 : Int) (a1_2 : Int) (a1_3 : Int) (a1_4 : Int) : Option (Bool) := if a0_0 = a1_0 then (if a0_1 = a1_1 then (if a0_2 = a1_2 then (if a0_3 = a1_3 then (if a0_4 = a1_4 then (some true) else (none)) else (none)) else (none)) else (none)) else (none)
set_option maxHeartbeats 8000000 in
set_option maxRecDepth 100000 in
theorem laws_eqAddr.calls (a0_0 : Int) (a0_1 : Int) (a0_2 : Int) (a0_3 : Int) (a0_4 : Int) (a1_0 : Int) (a1_1 : Int) (a1_2 : Int) (a1_3 : Int) (a1_4 : Int) (r : Bool) (w : World) (h : laws_eqAddr.f a0_0 a0_1 a0_2 a0_3 a0_4 a1_0 a1_1 a1_2 a1_3 a1_4 = some r) :
  Calls Try.prog 68 #[.agg #[.int .i64 a0_0, .int .i64 a0_1, .int .i64 a0_2, .int .i64 a0_3, .int .i64 a0_4], .agg #[.int .i64 a1_0, .int .i64 a1_1, .int .i64 a1_2, .int .i64 a1_3, .int .i64 a1_4]] w fun e w' => e = .returned (.bool r) ∧ Below w.heap.size w w' := by
 have hu34 := Try.underlying34
 have HB := Gv.a0 (Below.refl w.heap.size w)
 have H : (if a0_0 = a1_0 then (if a0_1 = a1_1 then (if a0_2 = a1_2 then (if a0_3 = a1_3 then (if a0_4 = a1_4 then (some true) else (none)) else (none)) else (none)) else (none)) else (none)) = some r := h
 clear h
 by_cases c3 : a0_0 = a1_0
 ·rw [if_pos c3] at H
  have c3b0 : (a0_0 == a1_0) = true := beq_iff_eq.mpr c3
  have c3b1 : (a0_0 != a1_0) = false := bne_eq_false_iff_eq.mpr c3
  clear c3
  by_cases c4 : a0_1 = a1_1
  ·rw [if_pos c4] at H
   have c4b0 : (a0_1 == a1_1) = true := beq_iff_eq.mpr c4
   have c4b1 : (a0_1 != a1_1) = false := bne_eq_false_iff_eq.mpr c4
   clear c4
   by_cases c5 : a0_2 = a1_2
   ·rw [if_pos c5] at H
    have c5b0 : (a0_2 == a1_2) = true := beq_iff_eq.mpr c5
    have c5b1 : (a0_2 != a1_2) = false := bne_eq_false_iff_eq.mpr c5
    clear c5
    by_cases c6 : a0_3 = a1_3
    ·rw [if_pos c6] at H
     have c6b0 : (a0_3 == a1_3) = true := beq_iff_eq.mpr c6
     have c6b1 : (a0_3 != a1_3) = false := bne_eq_false_iff_eq.mpr c6
     clear c6
     by_cases c7 : a0_4 = a1_4
     ·rw [if_pos c7] at H
      have c7b0 : (a0_4 == a1_4) = true := beq_iff_eq.mpr c7
      have c7b1 : (a0_4 != a1_4) = false := bne_eq_false_iff_eq.mpr c7
      clear c7
      obtain rfl := Option.some.inj H
      go_enter Try.func68, Try.ntmps68
      go_wp2_with (first | ((with_reducible refine gate_dst (N := 2) rfl ?_); refine box_event ?hg (N := 2) ?hd (cs := #[.int .i64 a0_0, .int .i64 a0_1, .int .i64 a0_2, .int .i64 a0_3, .int .i64 a0_4]) (t := 34) ?hr ?_; (case hd => rfl); (case hg => rfl); (case hr => first | (go_simp; done) | (go_simp; rfl)); intro gb352 hg w8 hbox hb; have n0_ := Gv.a0 (below_step Gv.bw hb); have n1_ := Gv.a0 (hbox); have n2_ := Gv.a0 ((Gv.ble hg Gv.bw : w.heap.size ≤ gb352)); have n3_ := Gv.a0 ((Gv.ble hg Gv.bw : w.heap.size ≤ gb352)); clear HB; have HB := n0_; have BK352 := n1_; have GW352 := n2_; have GE352 := n3_; clear n0_ n1_ n2_ n3_; clear hb hbox hg) | ((with_reducible refine gate_dst (N := 3) rfl ?_); refine box_event ?hg (N := 3) ?hd (cs := #[.int .i64 a1_0, .int .i64 a1_1, .int .i64 a1_2, .int .i64 a1_3, .int .i64 a1_4]) (t := 34) ?hr ?_; (case hd => rfl); (case hg => rfl); (case hr => first | (go_simp; done) | (go_simp; rfl)); intro gb353 hg w9 hbox hb; have n0_ := Gv.a0 (Gv.bb BK352.out hb); have n1_ := Gv.a0 (below_step Gv.bw hb); have n2_ := Gv.a0 (hbox); have n3_ := Gv.a0 ((Gv.ble hg Gv.bw : w.heap.size ≤ gb353)); have n4_ := Gv.a0 ((Gv.ble hg Gv.bw : w.heap.size ≤ gb353)); have n5_ := Gv.a0 ((Gv.nlt hg (Gv.kb BK352.out) : gb352 ≠ gb353)); have n6_ := Gv.a0 ((Gv.ngt hg (Gv.kb BK352.out) : gb353 ≠ gb352)); clear BK352; clear HB; have BK352 := n0_; have HB := n1_; have BK353 := n2_; have GW353 := n3_; have GE353 := n4_; have NB352_353 := n5_; have NB353_352 := n6_; clear n0_ n1_ n2_ n3_ n4_ n5_ n6_; clear hb hbox hg; have hnb10 := NB352_353.out; have hnc10 := NB353_352.out; obtain ⟨hcz11_0, hcz11_1, hcz11_2, hcz11_3, hcz11_4⟩ := Gv.c5 BK352.out; obtain ⟨hfz11_0, hfz11_1, hfz11_2, hfz11_3, hfz11_4⟩ := Gv.f5 BK352.out; obtain ⟨hcz12_0, hcz12_1, hcz12_2, hcz12_3, hcz12_4⟩ := Gv.c5 BK353.out; obtain ⟨hfz12_0, hfz12_1, hfz12_2, hfz12_3, hfz12_4⟩ := Gv.f5 BK353.out))
      go_ret
      exact ⟨by first | rfl | (simp [errW_none, errW_some] <;> rfl) | (simp [*, errW_none, errW_some] <;> rfl), by repeat (first | (with_reducible first | exact HB.out | apply below_alloc | apply pw_below_drewN | apply below_drew1 | refine below_set ?_ GE352.out | refine below_set ?_ GE353.out) | exact HB.out)⟩
     ·rw [if_neg c7] at H
      exact absurd H (by simp)
    ·rw [if_neg c6] at H
     exact absurd H (by simp)
   ·rw [if_neg c5] at H
    exact absurd H (by simp)
  ·rw [if_neg c4] at H
   exact absurd H (by simp)
 ·rw [if_neg c3] at H
  exact absurd H (by simp)

/-! ### laws_eqPrefix: function 49 -/
def laws_eqPrefix.f (a0_0 : Int) (a0_1 : Int) (a0_2 : Int) (a0_3 : Int) (a0_4 : Int) (a0_5 : Int) (a1_0 : Int) (a1_1 : Int) (a1_2 : Int) (a1_3 : Int) (a1_4 : Int) (a1_5 : Int) : Option (Bool) := (laws_eqAddr.f a0_0 a0_1 a0_2 a0_3 a0_4 a1_0 a1_1 a1_2 a1_3 a1_4).bind fun t356 => (if t356 = true then (if a0_5 = a1_5 then (some true) else (none)) else (none))
set_option maxHeartbeats 8000000 in
set_option maxRecDepth 100000 in
theorem laws_eqPrefix.calls (a0_0 : Int) (a0_1 : Int) (a0_2 : Int) (a0_3 : Int) (a0_4 : Int) (a0_5 : Int) (a1_0 : Int) (a1_1 : Int) (a1_2 : Int) (a1_3 : Int) (a1_4 : Int) (a1_5 : Int) (r : Bool) (w : World) (h : laws_eqPrefix.f a0_0 a0_1 a0_2 a0_3 a0_4 a0_5 a1_0 a1_1 a1_2 a1_3 a1_4 a1_5 = some r) :
  Calls Try.prog 49 #[.agg #[.int .i64 a0_0, .int .i64 a0_1, .int .i64 a0_2, .int .i64 a0_3, .int .i64 a0_4, .int .i64 a0_5], .agg #[.int .i64 a1_0, .int .i64 a1_1, .int .i64 a1_2, .int .i64 a1_3, .int .i64 a1_4, .int .i64 a1_5]] w fun e w' => e = .returned (.bool r) ∧ Below w.heap.size w w' := by
 have hu53 := Try.underlying53
 have hu34 := Try.underlying34
 have HB := Gv.a0 (Below.refl w.heap.size w)
 have H : ((laws_eqAddr.f a0_0 a0_1 a0_2 a0_3 a0_4 a1_0 a1_1 a1_2 a1_3 a1_4).bind fun t356 => (if t356 = true then (if a0_5 = a1_5 then (some true) else (none)) else (none))) = some r := h
 clear h
 replace H := Option.bind_eq_some_iff.mp H
 obtain ⟨t356, A30, H⟩ := H
 replace H : (if t356 = true then (if a0_5 = a1_5 then (some true) else (none)) else (none)) = some r := H
 have A3 := Gv.a0 A30
 clear A30
 by_cases c4 : t356 = true
 ·subst c4
  have H1 : (if a0_5 = a1_5 then (some true) else (none)) = some r := by rw [if_pos rfl] at H; exact H
  clear H
  have H := H1
  clear H1
  by_cases c5 : a0_5 = a1_5
  ·rw [if_pos c5] at H
   have c5b0 : (a0_5 == a1_5) = true := beq_iff_eq.mpr c5
   have c5b1 : (a0_5 != a1_5) = false := bne_eq_false_iff_eq.mpr c5
   clear c5
   obtain rfl := Option.some.inj H
   go_enter Try.func49, Try.ntmps49
   go_wp2_with (first | ((with_reducible refine gate_dst (N := 2) rfl ?_); refine box_event ?hg (N := 2) ?hd (cs := #[.int .i64 a0_0, .int .i64 a0_1, .int .i64 a0_2, .int .i64 a0_3, .int .i64 a0_4, .int .i64 a0_5]) (t := 53) ?hr ?_; (case hd => rfl); (case hg => rfl); (case hr => first | (go_simp; done) | (go_simp; rfl)); intro gb354 hg w6 hbox hb; have n0_ := Gv.a0 (below_step Gv.bw hb); have n1_ := Gv.a0 (hbox); have n2_ := Gv.a0 ((Gv.ble hg Gv.bw : w.heap.size ≤ gb354)); have n3_ := Gv.a0 ((Gv.ble hg Gv.bw : w.heap.size ≤ gb354)); clear HB; have HB := n0_; have BK354 := n1_; have GW354 := n2_; have GE354 := n3_; clear n0_ n1_ n2_ n3_; clear hb hbox hg) | ((with_reducible refine gate_dst (N := 3) rfl ?_); refine box_event ?hg (N := 3) ?hd (cs := #[.int .i64 a1_0, .int .i64 a1_1, .int .i64 a1_2, .int .i64 a1_3, .int .i64 a1_4, .int .i64 a1_5]) (t := 53) ?hr ?_; (case hd => rfl); (case hg => rfl); (case hr => first | (go_simp; done) | (go_simp; rfl)); intro gb355 hg w7 hbox hb; have n0_ := Gv.a0 (Gv.bb BK354.out hb); have n1_ := Gv.a0 (below_step Gv.bw hb); have n2_ := Gv.a0 (hbox); have n3_ := Gv.a0 ((Gv.ble hg Gv.bw : w.heap.size ≤ gb355)); have n4_ := Gv.a0 ((Gv.ble hg Gv.bw : w.heap.size ≤ gb355)); have n5_ := Gv.a0 ((Gv.nlt hg (Gv.kb BK354.out) : gb354 ≠ gb355)); have n6_ := Gv.a0 ((Gv.ngt hg (Gv.kb BK354.out) : gb355 ≠ gb354)); clear BK354; clear HB; have BK354 := n0_; have HB := n1_; have BK355 := n2_; have GW355 := n3_; have GE355 := n4_; have NB354_355 := n5_; have NB355_354 := n6_; clear n0_ n1_ n2_ n3_ n4_ n5_ n6_; clear hb hbox hg; have hnb8 := NB354_355.out; have hnc8 := NB355_354.out; obtain ⟨hcz9_0, hcz9_1, hcz9_2, hcz9_3, hcz9_4, hcz9_5⟩ := Gv.c6 BK354.out; obtain ⟨hfz9_0, hfz9_1, hfz9_2, hfz9_3, hfz9_4, hfz9_5⟩ := Gv.f6 BK354.out; obtain ⟨hcz10_0, hcz10_1, hcz10_2, hcz10_3, hcz10_4, hcz10_5⟩ := Gv.c6 BK355.out; obtain ⟨hfz10_0, hfz10_1, hfz10_2, hfz10_3, hfz10_4, hfz10_5⟩ := Gv.f6 BK355.out) | ((with_reducible refine gate_callee (f := 68) rfl ?_); refine goesL_ (some 9) rfl rfl Try.func68 (by kernel_rfl) rfl #[.agg #[.int .i64 a0_0, .int .i64 a0_1, .int .i64 a0_2, .int .i64 a0_3, .int .i64 a0_4], .agg #[.int .i64 a1_0, .int .i64 a1_1, .int .i64 a1_2, .int .i64 a1_3, .int .i64 a1_4]] rfl Gv.lm ?_; (with_reducible refine (laws_eqAddr.calls a0_0 a0_1 a0_2 a0_3 a0_4 a1_0 a1_1 a1_2 a1_3 a1_4 true _ A3.out).mono ?_); rintro e w11 ⟨rfl, hb⟩; refine ⟨_, rfl, ?_⟩; have n0_ := Gv.a0 (Gv.bb BK354.out hb); have n1_ := Gv.a0 (Gv.bb BK355.out hb); have n2_ := Gv.a0 (below_step Gv.bw hb); clear BK354; clear BK355; clear HB; have BK354 := n0_; have BK355 := n1_; have HB := n2_; clear n0_ n1_ n2_; (try clear hb); (try clear hb2); (try clear hk); (try clear hi); obtain ⟨hcz12_0, hcz12_1, hcz12_2, hcz12_3, hcz12_4, hcz12_5⟩ := Gv.c6 BK354.out; obtain ⟨hfz12_0, hfz12_1, hfz12_2, hfz12_3, hfz12_4, hfz12_5⟩ := Gv.f6 BK354.out; obtain ⟨hcz13_0, hcz13_1, hcz13_2, hcz13_3, hcz13_4, hcz13_5⟩ := Gv.c6 BK355.out; obtain ⟨hfz13_0, hfz13_1, hfz13_2, hfz13_3, hfz13_4, hfz13_5⟩ := Gv.f6 BK355.out))
   go_ret
   exact ⟨by first | rfl | (simp [errW_none, errW_some] <;> rfl) | (simp [*, errW_none, errW_some] <;> rfl), by repeat (first | (with_reducible first | exact HB.out | apply below_alloc | apply pw_below_drewN | apply below_drew1 | refine below_set ?_ GE354.out | refine below_set ?_ GE355.out) | exact HB.out)⟩
  ·rw [if_neg c5] at H
   exact absurd H (by simp)
 ·replace c4 := Bool.eq_false_iff.mpr c4
  subst c4
  have H1 : (none) = some r := by rw [if_neg (show ¬ (false = true) by decide)] at H; exact H
  clear H
  have H := H1
  clear H1
  exact absurd H (by simp)

/-! ### laws_eqRule: function 30 -/
def laws_eqRule.f (a0_0 : Int) (a0_1 : Int) (a0_2 : Int) (a0_3 : Int) (a0_4 : Int) (a0_5 : Int) (a0_6 : Int) (a0_7 : Int) (a0_8 : Int) (a0_9 : Int) (a0_10 : Int) (a0_11 : Int) (a0_12 : Int) (a0_13 : Int) (a0_14 : Int) (a0_15 : Int) (a0_16 : Int) (a0_17 : Int) (a0_18 : Int) (a0_19 : Int) (a0_20 : Int) (a1_0 : Int) (a1_1 : Int) (a1_2 : Int) (a1_3 : Int) (a1_4 : Int) (a1_5 : Int) (a1_6 : Int) (a1_7 : Int) (a1_8 : Int) (a1_9 : Int) (a1_10 : Int) (a1_11 : Int) (a1_12 : Int) (a1_13 : Int) (a1_14 : Int) (a1_15 : Int) (a1_16 : Int) (a1_17 : Int) (a1_18 : Int) (a1_19 : Int) (a1_20 : Int) : Option (Bool) := if a0_0 = a1_0 then ((laws_eqPrefix.f a0_1 a0_2 a0_3 a0_4 a0_5 a0_6 a1_1 a1_2 a1_3 a1_4 a1_5 a1_6).bind fun t359 => (if t359 = true then ((laws_eqPrefix.f a0_7 a0_8 a0_9 a0_10 a0_11 a0_12 a1_7 a1_8 a1_9 a1_10 a1_11 a1_12).bind fun t360 => (if t360 = true then (if a0_13 = a1_13 then (if a0_14 = a1_14 then (if a0_15 = a1_15 then (if a0_16 = a1_16 then (if a0_17 = a1_17 then (if a0_18 = a1_18 then (if a0_19 = a1_19 then (if a0_20 = a1_20 then (some true) else (none)) else (none)) else (none)) else (none)) else (none)) else (none)) else (none)) else (none)) else (none))) else (none))) else (none)
set_option maxHeartbeats 8000000 in
set_option maxRecDepth 100000 in
theorem laws_eqRule.calls (a0_0 : Int) (a0_1 : Int) (a0_2 : Int) (a0_3 : Int) (a0_4 : Int) (a0_5 : Int) (a0_6 : Int) (a0_7 : Int) (a0_8 : Int) (a0_9 : Int) (a0_10 : Int) (a0_11 : Int) (a0_12 : Int) (a0_13 : Int) (a0_14 : Int) (a0_15 : Int) (a0_16 : Int) (a0_17 : Int) (a0_18 : Int) (a0_19 : Int) (a0_20 : Int) (a1_0 : Int) (a1_1 : Int) (a1_2 : Int) (a1_3 : Int) (a1_4 : Int) (a1_5 : Int) (a1_6 : Int) (a1_7 : Int) (a1_8 : Int) (a1_9 : Int) (a1_10 : Int) (a1_11 : Int) (a1_12 : Int) (a1_13 : Int) (a1_14 : Int) (a1_15 : Int) (a1_16 : Int) (a1_17 : Int) (a1_18 : Int) (a1_19 : Int) (a1_20 : Int) (r : Bool) (w : World) (h : laws_eqRule.f a0_0 a0_1 a0_2 a0_3 a0_4 a0_5 a0_6 a0_7 a0_8 a0_9 a0_10 a0_11 a0_12 a0_13 a0_14 a0_15 a0_16 a0_17 a0_18 a0_19 a0_20 a1_0 a1_1 a1_2 a1_3 a1_4 a1_5 a1_6 a1_7 a1_8 a1_9 a1_10 a1_11 a1_12 a1_13 a1_14 a1_15 a1_16 a1_17 a1_18 a1_19 a1_20 = some r) :
  Calls Try.prog 30 #[.agg #[.int .i64 a0_0, .int .i64 a0_1, .int .i64 a0_2, .int .i64 a0_3, .int .i64 a0_4, .int .i64 a0_5, .int .i64 a0_6, .int .i64 a0_7, .int .i64 a0_8, .int .i64 a0_9, .int .i64 a0_10, .int .i64 a0_11, .int .i64 a0_12, .int .i64 a0_13, .int .i64 a0_14, .int .i64 a0_15, .int .i64 a0_16, .int .i64 a0_17, .int .i64 a0_18, .int .i64 a0_19, .int .i64 a0_20], .agg #[.int .i64 a1_0, .int .i64 a1_1, .int .i64 a1_2, .int .i64 a1_3, .int .i64 a1_4, .int .i64 a1_5, .int .i64 a1_6, .int .i64 a1_7, .int .i64 a1_8, .int .i64 a1_9, .int .i64 a1_10, .int .i64 a1_11, .int .i64 a1_12, .int .i64 a1_13, .int .i64 a1_14, .int .i64 a1_15, .int .i64 a1_16, .int .i64 a1_17, .int .i64 a1_18, .int .i64 a1_19, .int .i64 a1_20]] w fun e w' => e = .returned (.bool r) ∧ Below w.heap.size w w' := by
 have hu55 := Try.underlying55
 have hu53 := Try.underlying53
 have HB := Gv.a0 (Below.refl w.heap.size w)
 have H : (if a0_0 = a1_0 then ((laws_eqPrefix.f a0_1 a0_2 a0_3 a0_4 a0_5 a0_6 a1_1 a1_2 a1_3 a1_4 a1_5 a1_6).bind fun t359 => (if t359 = true then ((laws_eqPrefix.f a0_7 a0_8 a0_9 a0_10 a0_11 a0_12 a1_7 a1_8 a1_9 a1_10 a1_11 a1_12).bind fun t360 => (if t360 = true then (if a0_13 = a1_13 then (if a0_14 = a1_14 then (if a0_15 = a1_15 then (if a0_16 = a1_16 then (if a0_17 = a1_17 then (if a0_18 = a1_18 then (if a0_19 = a1_19 then (if a0_20 = a1_20 then (some true) else (none)) else (none)) else (none)) else (none)) else (none)) else (none)) else (none)) else (none)) else (none))) else (none))) else (none)) = some r := h
 clear h
 by_cases c3 : a0_0 = a1_0
 ·rw [if_pos c3] at H
  have c3b0 : (a0_0 == a1_0) = true := beq_iff_eq.mpr c3
  have c3b1 : (a0_0 != a1_0) = false := bne_eq_false_iff_eq.mpr c3
  clear c3
  replace H := Option.bind_eq_some_iff.mp H
  obtain ⟨t359, A40, H⟩ := H
  replace H : (if t359 = true then ((laws_eqPrefix.f a0_7 a0_8 a0_9 a0_10 a0_11 a0_12 a1_7 a1_8 a1_9 a1_10 a1_11 a1_12).bind fun t360 => (if t360 = true then (if a0_13 = a1_13 then (if a0_14 = a1_14 then (if a0_15 = a1_15 then (if a0_16 = a1_16 then (if a0_17 = a1_17 then (if a0_18 = a1_18 then (if a0_19 = a1_19 then (if a0_20 = a1_20 then (some true) else (none)) else (none)) else (none)) else (none)) else (none)) else (none)) else (none)) else (none)) else (none))) else (none)) = some r := H
  have A4 := Gv.a0 A40
  clear A40
  by_cases c5 : t359 = true
  ·subst c5
   have H1 : ((laws_eqPrefix.f a0_7 a0_8 a0_9 a0_10 a0_11 a0_12 a1_7 a1_8 a1_9 a1_10 a1_11 a1_12).bind fun t360 => (if t360 = true then (if a0_13 = a1_13 then (if a0_14 = a1_14 then (if a0_15 = a1_15 then (if a0_16 = a1_16 then (if a0_17 = a1_17 then (if a0_18 = a1_18 then (if a0_19 = a1_19 then (if a0_20 = a1_20 then (some true) else (none)) else (none)) else (none)) else (none)) else (none)) else (none)) else (none)) else (none)) else (none))) = some r := by rw [if_pos rfl] at H; exact H
   clear H
   have H := H1
   clear H1
   replace H := Option.bind_eq_some_iff.mp H
   obtain ⟨t360, A60, H⟩ := H
   replace H : (if t360 = true then (if a0_13 = a1_13 then (if a0_14 = a1_14 then (if a0_15 = a1_15 then (if a0_16 = a1_16 then (if a0_17 = a1_17 then (if a0_18 = a1_18 then (if a0_19 = a1_19 then (if a0_20 = a1_20 then (some true) else (none)) else (none)) else (none)) else (none)) else (none)) else (none)) else (none)) else (none)) else (none)) = some r := H
   have A6 := Gv.a0 A60
   clear A60
   by_cases c7 : t360 = true
   ·subst c7
    have H1 : (if a0_13 = a1_13 then (if a0_14 = a1_14 then (if a0_15 = a1_15 then (if a0_16 = a1_16 then (if a0_17 = a1_17 then (if a0_18 = a1_18 then (if a0_19 = a1_19 then (if a0_20 = a1_20 then (some true) else (none)) else (none)) else (none)) else (none)) else (none)) else (none)) else (none)) else (none)) = some r := by rw [if_pos rfl] at H; exact H
    clear H
    have H := H1
    clear H1
    by_cases c8 : a0_13 = a1_13
    ·rw [if_pos c8] at H
     have c8b0 : (a0_13 == a1_13) = true := beq_iff_eq.mpr c8
     have c8b1 : (a0_13 != a1_13) = false := bne_eq_false_iff_eq.mpr c8
     clear c8
     by_cases c9 : a0_14 = a1_14
     ·rw [if_pos c9] at H
      have c9b0 : (a0_14 == a1_14) = true := beq_iff_eq.mpr c9
      have c9b1 : (a0_14 != a1_14) = false := bne_eq_false_iff_eq.mpr c9
      clear c9
      by_cases c10 : a0_15 = a1_15
      ·rw [if_pos c10] at H
       have c10b0 : (a0_15 == a1_15) = true := beq_iff_eq.mpr c10
       have c10b1 : (a0_15 != a1_15) = false := bne_eq_false_iff_eq.mpr c10
       clear c10
       by_cases c11 : a0_16 = a1_16
       ·rw [if_pos c11] at H
        have c11b0 : (a0_16 == a1_16) = true := beq_iff_eq.mpr c11
        have c11b1 : (a0_16 != a1_16) = false := bne_eq_false_iff_eq.mpr c11
        clear c11
        by_cases c12 : a0_17 = a1_17
        ·rw [if_pos c12] at H
         have c12b0 : (a0_17 == a1_17) = true := beq_iff_eq.mpr c12
         have c12b1 : (a0_17 != a1_17) = false := bne_eq_false_iff_eq.mpr c12
         clear c12
         by_cases c13 : a0_18 = a1_18
         ·rw [if_pos c13] at H
          have c13b0 : (a0_18 == a1_18) = true := beq_iff_eq.mpr c13
          have c13b1 : (a0_18 != a1_18) = false := bne_eq_false_iff_eq.mpr c13
          clear c13
          by_cases c14 : a0_19 = a1_19
          ·rw [if_pos c14] at H
           have c14b0 : (a0_19 == a1_19) = true := beq_iff_eq.mpr c14
           have c14b1 : (a0_19 != a1_19) = false := bne_eq_false_iff_eq.mpr c14
           clear c14
           by_cases c15 : a0_20 = a1_20
           ·rw [if_pos c15] at H
            have c15b0 : (a0_20 == a1_20) = true := beq_iff_eq.mpr c15
            have c15b1 : (a0_20 != a1_20) = false := bne_eq_false_iff_eq.mpr c15
            clear c15
            obtain rfl := Option.some.inj H
            go_enter Try.func30, Try.ntmps30
            go_wp2_with (first | ((with_reducible refine gate_dst (N := 2) rfl ?_); refine box_event ?hg (N := 2) ?hd (cs := #[.int .i64 a0_0, .int .i64 a0_1, .int .i64 a0_2, .int .i64 a0_3, .int .i64 a0_4, .int .i64 a0_5, .int .i64 a0_6, .int .i64 a0_7, .int .i64 a0_8, .int .i64 a0_9, .int .i64 a0_10, .int .i64 a0_11, .int .i64 a0_12, .int .i64 a0_13, .int .i64 a0_14, .int .i64 a0_15, .int .i64 a0_16, .int .i64 a0_17, .int .i64 a0_18, .int .i64 a0_19, .int .i64 a0_20]) (t := 55) ?hr ?_; (case hd => rfl); (case hg => rfl); (case hr => first | (go_simp; done) | (go_simp; rfl)); intro gb357 hg w16 hbox hb; have n0_ := Gv.a0 (below_step Gv.bw hb); have n1_ := Gv.a0 (hbox); have n2_ := Gv.a0 ((Gv.ble hg Gv.bw : w.heap.size ≤ gb357)); have n3_ := Gv.a0 ((Gv.ble hg Gv.bw : w.heap.size ≤ gb357)); clear HB; have HB := n0_; have BK357 := n1_; have GW357 := n2_; have GE357 := n3_; clear n0_ n1_ n2_ n3_; clear hb hbox hg) | ((with_reducible refine gate_store (t := 55) (p := 2) rfl ?_); refine Gv.store_event rfl rfl rfl rfl rfl (Gv.kb BK357.out) (by kernel_rfl) rfl (by simp; and_intros <;> rfl) ?_; intro w16s hbox hoth hbel; have n0_ := Gv.a0 (hbox); have n1_ := Gv.a0 (hbel w Gv.bw GE357.out); clear BK357 HB; have BK357 := n0_; have HB := n1_; clear n0_ n1_ hbox hoth hbel) | ((with_reducible refine gate_dst (N := 3) rfl ?_); refine box_event ?hg (N := 3) ?hd (cs := #[.int .i64 a1_0, .int .i64 a1_1, .int .i64 a1_2, .int .i64 a1_3, .int .i64 a1_4, .int .i64 a1_5, .int .i64 a1_6, .int .i64 a1_7, .int .i64 a1_8, .int .i64 a1_9, .int .i64 a1_10, .int .i64 a1_11, .int .i64 a1_12, .int .i64 a1_13, .int .i64 a1_14, .int .i64 a1_15, .int .i64 a1_16, .int .i64 a1_17, .int .i64 a1_18, .int .i64 a1_19, .int .i64 a1_20]) (t := 55) ?hr ?_; (case hd => rfl); (case hg => rfl); (case hr => first | (go_simp; done) | (go_simp; rfl)); intro gb358 hg w17 hbox hb; have n0_ := Gv.a0 (Gv.bb BK357.out hb); have n1_ := Gv.a0 (below_step Gv.bw hb); have n2_ := Gv.a0 (hbox); have n3_ := Gv.a0 ((Gv.ble hg Gv.bw : w.heap.size ≤ gb358)); have n4_ := Gv.a0 ((Gv.ble hg Gv.bw : w.heap.size ≤ gb358)); have n5_ := Gv.a0 ((Gv.nlt hg (Gv.kb BK357.out) : gb357 ≠ gb358)); have n6_ := Gv.a0 ((Gv.ngt hg (Gv.kb BK357.out) : gb358 ≠ gb357)); clear BK357; clear HB; have BK357 := n0_; have HB := n1_; have BK358 := n2_; have GW358 := n3_; have GE358 := n4_; have NB357_358 := n5_; have NB358_357 := n6_; clear n0_ n1_ n2_ n3_ n4_ n5_ n6_; clear hb hbox hg; have hnb18 := NB357_358.out; have hnc18 := NB358_357.out; obtain ⟨hcz19_0, hcz19_1, hcz19_2, hcz19_3, hcz19_4, hcz19_5, hcz19_6, hcz19_7, hcz19_8, hcz19_9, hcz19_10, hcz19_11, hcz19_12, hcz19_13, hcz19_14, hcz19_15, hcz19_16, hcz19_17, hcz19_18, hcz19_19, hcz19_20⟩ := Gv.c21 BK357.out; obtain ⟨hfz19_0, hfz19_1, hfz19_2, hfz19_3, hfz19_4, hfz19_5, hfz19_6, hfz19_7, hfz19_8, hfz19_9, hfz19_10, hfz19_11, hfz19_12, hfz19_13, hfz19_14, hfz19_15, hfz19_16, hfz19_17, hfz19_18, hfz19_19, hfz19_20⟩ := Gv.f21 BK357.out; obtain ⟨hcz20_0, hcz20_1, hcz20_2, hcz20_3, hcz20_4, hcz20_5, hcz20_6, hcz20_7, hcz20_8, hcz20_9, hcz20_10, hcz20_11, hcz20_12, hcz20_13, hcz20_14, hcz20_15, hcz20_16, hcz20_17, hcz20_18, hcz20_19, hcz20_20⟩ := Gv.c21 BK358.out; obtain ⟨hfz20_0, hfz20_1, hfz20_2, hfz20_3, hfz20_4, hfz20_5, hfz20_6, hfz20_7, hfz20_8, hfz20_9, hfz20_10, hfz20_11, hfz20_12, hfz20_13, hfz20_14, hfz20_15, hfz20_16, hfz20_17, hfz20_18, hfz20_19, hfz20_20⟩ := Gv.f21 BK358.out) | ((with_reducible refine gate_store (t := 55) (p := 3) rfl ?_); refine Gv.store_event rfl rfl rfl rfl rfl (Gv.kb BK358.out) (by kernel_rfl) rfl (by simp; and_intros <;> rfl) ?_; intro w17s hbox hoth hbel; have n0_ := Gv.a0 (hbox); have n1_ := Gv.a0 (hbel w Gv.bw GE358.out); have n2_ := Gv.a0 ((hoth gb357 NB357_358.out).trans (Gv.kb BK357.out)); clear BK358 HB BK357; have BK358 := n0_; have HB := n1_; have BK357 := n2_; clear n0_ n1_ n2_ hbox hoth hbel; (try clear hcz19_0 hcz19_1 hcz19_2 hcz19_3 hcz19_4 hcz19_5 hcz19_6 hcz19_7 hcz19_8 hcz19_9 hcz19_10 hcz19_11 hcz19_12 hcz19_13 hcz19_14 hcz19_15 hcz19_16 hcz19_17 hcz19_18 hcz19_19 hcz19_20 hfz19_0 hfz19_1 hfz19_2 hfz19_3 hfz19_4 hfz19_5 hfz19_6 hfz19_7 hfz19_8 hfz19_9 hfz19_10 hfz19_11 hfz19_12 hfz19_13 hfz19_14 hfz19_15 hfz19_16 hfz19_17 hfz19_18 hfz19_19 hfz19_20 hcz20_0 hcz20_1 hcz20_2 hcz20_3 hcz20_4 hcz20_5 hcz20_6 hcz20_7 hcz20_8 hcz20_9 hcz20_10 hcz20_11 hcz20_12 hcz20_13 hcz20_14 hcz20_15 hcz20_16 hcz20_17 hcz20_18 hcz20_19 hcz20_20 hfz20_0 hfz20_1 hfz20_2 hfz20_3 hfz20_4 hfz20_5 hfz20_6 hfz20_7 hfz20_8 hfz20_9 hfz20_10 hfz20_11 hfz20_12 hfz20_13 hfz20_14 hfz20_15 hfz20_16 hfz20_17 hfz20_18 hfz20_19 hfz20_20); obtain ⟨hcz19_0, hcz19_1, hcz19_2, hcz19_3, hcz19_4, hcz19_5, hcz19_6, hcz19_7, hcz19_8, hcz19_9, hcz19_10, hcz19_11, hcz19_12, hcz19_13, hcz19_14, hcz19_15, hcz19_16, hcz19_17, hcz19_18, hcz19_19, hcz19_20⟩ := Gv.c21 BK357.out; obtain ⟨hfz19_0, hfz19_1, hfz19_2, hfz19_3, hfz19_4, hfz19_5, hfz19_6, hfz19_7, hfz19_8, hfz19_9, hfz19_10, hfz19_11, hfz19_12, hfz19_13, hfz19_14, hfz19_15, hfz19_16, hfz19_17, hfz19_18, hfz19_19, hfz19_20⟩ := Gv.f21 BK357.out; obtain ⟨hcz20_0, hcz20_1, hcz20_2, hcz20_3, hcz20_4, hcz20_5, hcz20_6, hcz20_7, hcz20_8, hcz20_9, hcz20_10, hcz20_11, hcz20_12, hcz20_13, hcz20_14, hcz20_15, hcz20_16, hcz20_17, hcz20_18, hcz20_19, hcz20_20⟩ := Gv.c21 BK358.out; obtain ⟨hfz20_0, hfz20_1, hfz20_2, hfz20_3, hfz20_4, hfz20_5, hfz20_6, hfz20_7, hfz20_8, hfz20_9, hfz20_10, hfz20_11, hfz20_12, hfz20_13, hfz20_14, hfz20_15, hfz20_16, hfz20_17, hfz20_18, hfz20_19, hfz20_20⟩ := Gv.f21 BK358.out) | ((with_reducible refine gate_callee (f := 49) rfl ?_); refine goesL_ (some 14) rfl rfl Try.func49 (by kernel_rfl) rfl #[.agg #[.int .i64 a0_1, .int .i64 a0_2, .int .i64 a0_3, .int .i64 a0_4, .int .i64 a0_5, .int .i64 a0_6], .agg #[.int .i64 a1_1, .int .i64 a1_2, .int .i64 a1_3, .int .i64 a1_4, .int .i64 a1_5, .int .i64 a1_6]] rfl Gv.lm ?_; (with_reducible refine (laws_eqPrefix.calls a0_1 a0_2 a0_3 a0_4 a0_5 a0_6 a1_1 a1_2 a1_3 a1_4 a1_5 a1_6 true _ A4.out).mono ?_); rintro e w21 ⟨rfl, hb⟩; refine ⟨_, rfl, ?_⟩; have n0_ := Gv.a0 (Gv.bb BK357.out hb); have n1_ := Gv.a0 (Gv.bb BK358.out hb); have n2_ := Gv.a0 (below_step Gv.bw hb); clear BK357; clear BK358; clear HB; have BK357 := n0_; have BK358 := n1_; have HB := n2_; clear n0_ n1_ n2_; (try clear hb); (try clear hb2); (try clear hk); (try clear hi); obtain ⟨hcz22_0, hcz22_1, hcz22_2, hcz22_3, hcz22_4, hcz22_5, hcz22_6, hcz22_7, hcz22_8, hcz22_9, hcz22_10, hcz22_11, hcz22_12, hcz22_13, hcz22_14, hcz22_15, hcz22_16, hcz22_17, hcz22_18, hcz22_19, hcz22_20⟩ := Gv.c21 BK357.out; obtain ⟨hfz22_0, hfz22_1, hfz22_2, hfz22_3, hfz22_4, hfz22_5, hfz22_6, hfz22_7, hfz22_8, hfz22_9, hfz22_10, hfz22_11, hfz22_12, hfz22_13, hfz22_14, hfz22_15, hfz22_16, hfz22_17, hfz22_18, hfz22_19, hfz22_20⟩ := Gv.f21 BK357.out; obtain ⟨hcz23_0, hcz23_1, hcz23_2, hcz23_3, hcz23_4, hcz23_5, hcz23_6, hcz23_7, hcz23_8, hcz23_9, hcz23_10, hcz23_11, hcz23_12, hcz23_13, hcz23_14, hcz23_15, hcz23_16, hcz23_17, hcz23_18, hcz23_19, hcz23_20⟩ := Gv.c21 BK358.out; obtain ⟨hfz23_0, hfz23_1, hfz23_2, hfz23_3, hfz23_4, hfz23_5, hfz23_6, hfz23_7, hfz23_8, hfz23_9, hfz23_10, hfz23_11, hfz23_12, hfz23_13, hfz23_14, hfz23_15, hfz23_16, hfz23_17, hfz23_18, hfz23_19, hfz23_20⟩ := Gv.f21 BK358.out) | ((with_reducible refine gate_callee (f := 49) rfl ?_); refine goesL_ (some 20) rfl rfl Try.func49 (by kernel_rfl) rfl #[.agg #[.int .i64 a0_7, .int .i64 a0_8, .int .i64 a0_9, .int .i64 a0_10, .int .i64 a0_11, .int .i64 a0_12], .agg #[.int .i64 a1_7, .int .i64 a1_8, .int .i64 a1_9, .int .i64 a1_10, .int .i64 a1_11, .int .i64 a1_12]] rfl Gv.lm ?_; (with_reducible refine (laws_eqPrefix.calls a0_7 a0_8 a0_9 a0_10 a0_11 a0_12 a1_7 a1_8 a1_9 a1_10 a1_11 a1_12 true _ A6.out).mono ?_); rintro e w24 ⟨rfl, hb⟩; refine ⟨_, rfl, ?_⟩; have n0_ := Gv.a0 (Gv.bb BK357.out hb); have n1_ := Gv.a0 (Gv.bb BK358.out hb); have n2_ := Gv.a0 (below_step Gv.bw hb); clear BK357; clear BK358; clear HB; have BK357 := n0_; have BK358 := n1_; have HB := n2_; clear n0_ n1_ n2_; (try clear hb); (try clear hb2); (try clear hk); (try clear hi); obtain ⟨hcz25_0, hcz25_1, hcz25_2, hcz25_3, hcz25_4, hcz25_5, hcz25_6, hcz25_7, hcz25_8, hcz25_9, hcz25_10, hcz25_11, hcz25_12, hcz25_13, hcz25_14, hcz25_15, hcz25_16, hcz25_17, hcz25_18, hcz25_19, hcz25_20⟩ := Gv.c21 BK357.out; obtain ⟨hfz25_0, hfz25_1, hfz25_2, hfz25_3, hfz25_4, hfz25_5, hfz25_6, hfz25_7, hfz25_8, hfz25_9, hfz25_10, hfz25_11, hfz25_12, hfz25_13, hfz25_14, hfz25_15, hfz25_16, hfz25_17, hfz25_18, hfz25_19, hfz25_20⟩ := Gv.f21 BK357.out; obtain ⟨hcz26_0, hcz26_1, hcz26_2, hcz26_3, hcz26_4, hcz26_5, hcz26_6, hcz26_7, hcz26_8, hcz26_9, hcz26_10, hcz26_11, hcz26_12, hcz26_13, hcz26_14, hcz26_15, hcz26_16, hcz26_17, hcz26_18, hcz26_19, hcz26_20⟩ := Gv.c21 BK358.out; obtain ⟨hfz26_0, hfz26_1, hfz26_2, hfz26_3, hfz26_4, hfz26_5, hfz26_6, hfz26_7, hfz26_8, hfz26_9, hfz26_10, hfz26_11, hfz26_12, hfz26_13, hfz26_14, hfz26_15, hfz26_16, hfz26_17, hfz26_18, hfz26_19, hfz26_20⟩ := Gv.f21 BK358.out) | ((with_reducible refine Gv.gate_load (t := 55) rfl ?_); (try (refine gate_guard (by rfl) ?_; dsimp only)); refine wpList_load_row rfl 55 _ rfl gb357 rfl 55 _ _ _ (Gv.kb0 BK357.out) Try.underlying55 rfl (by kernel_rfl) ?_) | ((with_reducible refine Gv.gate_load (t := 55) rfl ?_); (try (refine gate_guard (by rfl) ?_; dsimp only)); refine wpList_load_row rfl 55 _ rfl gb357 rfl 55 _ _ _ (Gv.kb1 (Gv.kb0 BK357.out)) Try.underlying55 rfl (by kernel_rfl) ?_) | ((with_reducible refine Gv.gate_load (t := 55) rfl ?_); (try (refine gate_guard (by rfl) ?_; dsimp only)); refine wpList_load_row rfl 55 _ rfl gb358 rfl 55 _ _ _ (Gv.kb0 BK358.out) Try.underlying55 rfl (by kernel_rfl) ?_) | ((with_reducible refine Gv.gate_load (t := 55) rfl ?_); (try (refine gate_guard (by rfl) ?_; dsimp only)); refine wpList_load_row rfl 55 _ rfl gb358 rfl 55 _ _ _ (Gv.kb1 (Gv.kb0 BK358.out)) Try.underlying55 rfl (by kernel_rfl) ?_))
            go_ret
            exact ⟨by first | rfl | (simp [errW_none, errW_some] <;> rfl) | (simp [*, errW_none, errW_some] <;> rfl), by repeat (first | (with_reducible first | exact HB.out | apply below_alloc | apply pw_below_drewN | apply below_drew1 | refine below_set ?_ GE357.out | refine below_set ?_ GE358.out) | exact HB.out)⟩
           ·rw [if_neg c15] at H
            exact absurd H (by simp)
          ·rw [if_neg c14] at H
           exact absurd H (by simp)
         ·rw [if_neg c13] at H
          exact absurd H (by simp)
        ·rw [if_neg c12] at H
         exact absurd H (by simp)
       ·rw [if_neg c11] at H
        exact absurd H (by simp)
      ·rw [if_neg c10] at H
       exact absurd H (by simp)
     ·rw [if_neg c9] at H
      exact absurd H (by simp)
    ·rw [if_neg c8] at H
     exact absurd H (by simp)
   ·replace c7 := Bool.eq_false_iff.mpr c7
    subst c7
    have H1 : (none) = some r := by rw [if_neg (show ¬ (false = true) by decide)] at H; exact H
    clear H
    have H := H1
    clear H1
    exact absurd H (by simp)
  ·replace c5 := Bool.eq_false_iff.mpr c5
   subst c5
   have H1 : (none) = some r := by rw [if_neg (show ¬ (false = true) by decide)] at H; exact H
   clear H
   have H := H1
   clear H1
   exact absurd H (by simp)
 ·rw [if_neg c3] at H
  exact absurd H (by simp)

/-! ### laws_eqRuleS: function 12 -/
def laws_eqRuleS.l0 : Nat → List (S55) → List (S55) → Int → Option (Bool)
 | 0, _, _, _ => none
 | k + 1, x0, x1, x5 => if x5 < (x0.length : Int) then (if 0 ≤ x5 then (if x5 < (x1.length : Int) then ((laws_eqRule.f ((rd_T55 x0 x5).f0) ((rd_T55 x0 x5).f1.f0.f0) ((rd_T55 x0 x5).f1.f0.f1) ((rd_T55 x0 x5).f1.f0.f2) ((rd_T55 x0 x5).f1.f0.f3) ((rd_T55 x0 x5).f1.f0.f4) ((rd_T55 x0 x5).f1.f1) ((rd_T55 x0 x5).f2.f0.f0) ((rd_T55 x0 x5).f2.f0.f1) ((rd_T55 x0 x5).f2.f0.f2) ((rd_T55 x0 x5).f2.f0.f3) ((rd_T55 x0 x5).f2.f0.f4) ((rd_T55 x0 x5).f2.f1) ((rd_T55 x0 x5).f3) ((rd_T55 x0 x5).f4) ((rd_T55 x0 x5).f5) ((rd_T55 x0 x5).f6) ((rd_T55 x0 x5).f7) ((rd_T55 x0 x5).f8) ((rd_T55 x0 x5).f9) ((rd_T55 x0 x5).f10) ((rd_T55 x1 x5).f0) ((rd_T55 x1 x5).f1.f0.f0) ((rd_T55 x1 x5).f1.f0.f1) ((rd_T55 x1 x5).f1.f0.f2) ((rd_T55 x1 x5).f1.f0.f3) ((rd_T55 x1 x5).f1.f0.f4) ((rd_T55 x1 x5).f1.f1) ((rd_T55 x1 x5).f2.f0.f0) ((rd_T55 x1 x5).f2.f0.f1) ((rd_T55 x1 x5).f2.f0.f2) ((rd_T55 x1 x5).f2.f0.f3) ((rd_T55 x1 x5).f2.f0.f4) ((rd_T55 x1 x5).f2.f1) ((rd_T55 x1 x5).f3) ((rd_T55 x1 x5).f4) ((rd_T55 x1 x5).f5) ((rd_T55 x1 x5).f6) ((rd_T55 x1 x5).f7) ((rd_T55 x1 x5).f8) ((rd_T55 x1 x5).f9) ((rd_T55 x1 x5).f10)).bind fun t363 => (if t363 = true then (laws_eqRuleS.l0 k x0 x1 (wrap64 (x5 + 1))) else (none))) else (none)) else (none)) else (some true)
def laws_eqRuleS.f (k : Nat) (l0 : List (S55)) (l1 : List (S55)) : Option (Bool) := if (l0.length : Int) = (l1.length : Int) then (laws_eqRuleS.l0 k l0 l1 0) else (none)
theorem laws_eqRuleS.mono_l : ∀ k, (∀ y0 y1 y2, LeO (laws_eqRuleS.l0 k y0 y1 y2) (laws_eqRuleS.l0 (k + 1) y0 y1 y2))
 | 0 => fun _ _ _ r h => by simp [laws_eqRuleS.l0] at h
 | k + 1 => by
  have ih0 := laws_eqRuleS.mono_l k
  ·intro y0 y1 y2
   unfold laws_eqRuleS.l0
   repeat' first
   | (with_reducible exact ih0 _ _ _)
   | (with_reducible exact LeO.refl _)
   | (with_reducible exact LeO.none _)
   | (with_reducible refine LeO.ite ?_ ?_)
   | (with_reducible refine LeO.bind ?_ (fun _ => ?_))
   | exact ih0 _ _ _
   | exact LeO.none _
   | refine LeO.ite ?_ ?_
   | refine LeO.bind ?_ (fun _ => ?_)
theorem laws_eqRuleS.mono : ∀ a0 a1 k, LeO (laws_eqRuleS.f k a0 a1) (laws_eqRuleS.f (k + 1) a0 a1) := by
 intro a0 a1 k
 have ih0 := laws_eqRuleS.mono_l k
 unfold laws_eqRuleS.f
 repeat' first
   | (with_reducible exact ih0 _ _ _)
   | (with_reducible exact LeO.refl _)
   | (with_reducible exact LeO.none _)
   | (with_reducible refine LeO.ite ?_ ?_)
   | (with_reducible refine LeO.bind ?_ (fun _ => ?_))
   | exact ih0 _ _ _
   | exact LeO.none _
   | refine LeO.ite ?_ ?_
   | refine LeO.bind ?_ (fun _ => ?_)
def laws_eqRuleS.T6 : Bool × List (List Nat × List Nat) := (true, [([], []), ([], []), ([0, 1], [0, 1]), ([2], [2]), ([], []), ([], []), ([4, 5], [4, 5]), ([6], [6]), ([3, 7], [3, 7]), ([8], [8])])
def laws_eqRuleS.B6 : List Nat := [0, 0, 3, 7, 0, 0, 48, 112, 255, 511]
theorem laws_eqRuleS.tab6 : rtab .any (opsOf Try.f12 6) = laws_eqRuleS.T6 := by kernel_rfl
theorem laws_eqRuleS.bits6 : waitsOk laws_eqRuleS.T6.2 laws_eqRuleS.B6 = true := by kernel_rfl
set_option maxHeartbeats 8000000 in
set_option maxRecDepth 100000 in
theorem laws_eqRuleS.calls (k : Nat) (A0 : Option Addr) (c0 : Nat) (l0 : List (S55)) (A1 : Option Addr) (c1 : Nat) (l1 : List (S55)) (r : Bool) (w : World) (hr0 : Kd.C k55 w A0 l0.length l0) (hc0 : l0.length ≤ c0) (hr1 : Kd.C k55 w A1 l1.length l1) (hc1 : l1.length ≤ c1) (h : laws_eqRuleS.f k l0 l1 = some r) :
  Calls Try.prog 12 #[.slice A0 l0.length c0, .slice A1 l1.length c1] w fun e w' => e = .returned (.bool r) ∧ Below w.heap.size w w' := by
 have hu55 := Try.underlying55
 have HR0 := Gv.a0 hr0
 have HC0 := Gv.a0 hc0
 clear hr0 hc0
 have HR1 := Gv.a0 hr1
 have HC1 := Gv.a0 hc1
 clear hr1 hc1
 have HB := Gv.a0 (Below.refl w.heap.size w)
 have H : (if (l0.length : Int) = (l1.length : Int) then (laws_eqRuleS.l0 k l0 l1 0) else (none)) = some r := h
 clear h
 by_cases c3 : (l0.length : Int) = (l1.length : Int)
 ·rw [if_pos c3] at H
  have c3b0 : ((l0.length : Int) == (l1.length : Int)) = true := beq_iff_eq.mpr c3
  have c3b1 : ((l0.length : Int) != (l1.length : Int)) = false := bne_eq_false_iff_eq.mpr c3
  have c3b2 : (l0.length == l1.length) = true := by first | simpa using c3 | (simp at c3 ⊢; omega)
  clear c3
  have H' := Gv.a0 H
  clear H
  go_enter Try.func12, Try.ntmps12
  go_wp2
  go_loopg [5] k (fun kq v5 w' => ∃ (x5_1 : Int), v5 = .int .i64 x5_1 ∧ Aside0 (laws_eqRuleS.l0 kq l0 l1 x5_1 = some r) ∧ Aside0 (kq ≤ k) ∧ Aside0 (Below w.heap.size w w'))
  case atStart => exact ⟨(0), (by first | rfl | (simp; done) | (simp [Int.tdiv_eq_ediv_of_nonneg]; done) | (simp [*]; done)), H', ⟨Nat.le_refl _⟩, ⟨by repeat (first | (with_reducible first | exact HB.out | apply below_alloc | apply pw_below_drewN | apply below_drew1) | exact HB.out)⟩⟩
  case round =>
   clear H'
   try clear c1
   try clear p2
   try clear c3
   try clear c3b0
   try clear c3b1
   try clear c3b2
   obtain ⟨x5_1, rfl, HA, HK1, HB⟩ := hrel
   cases gk with
   | zero => exact absurd HA.out (by simp [laws_eqRuleS.l0])
   | succ k1 =>
    have H := HA.out
    clear HA
    simp only [laws_eqRuleS.l0] at H
    by_cases c4 : x5_1 < (l0.length : Int)
    ·rw [if_pos c4] at H
     have c4b0 : decide (x5_1 < (l0.length : Int)) = true := decide_eq_true c4
     clear c4
     by_cases c5 : 0 ≤ x5_1
     ·rw [if_pos c5] at H
      have c5b0 : decide (0 ≤ x5_1) = true := decide_eq_true c5
      clear c5
      by_cases c6 : x5_1 < (l1.length : Int)
      ·rw [if_pos c6] at H
       have c6b0 : decide (x5_1 < (l1.length : Int)) = true := decide_eq_true c6
       clear c6
       replace H := Option.bind_eq_some_iff.mp H
       obtain ⟨t363, A70, H⟩ := H
       replace H : (if t363 = true then (laws_eqRuleS.l0 k1 l0 l1 (wrap64 (x5_1 + 1))) else (none)) = some r := H
       have A7 := Gv.a0 A70
       clear A70
       by_cases c8 : t363 = true
       ·subst c8
        have H1 : (laws_eqRuleS.l0 k1 l0 l1 (wrap64 (x5_1 + 1))) = some r := by rw [if_pos rfl] at H; exact H
        clear H
        have H := H1
        clear H1
        have H' := Gv.a0 H
        clear H
        try go_wp2
        have n0_ := Gv.a0 (below_drew1 HB.out)
        clear HB
        have HB := n0_
        clear n0_
        have p361 : 0 ≤ (x5_1 : Int) := of_decide_eq_true (by first | (with_reducible assumption) | assumption)
        have q361 : x5_1 < (l0.length : Int) := of_decide_eq_true (by first | (with_reducible assumption) | assumption)
        obtain ⟨ad361, e361, hx361_0, hx361_1, hx361_2, hx361_3, hx361_4, hx361_5, hx361_6, hx361_7, hx361_8, hx361_9, hx361_10, hx361_11, hx361_12, hx361_13, hx361_14, hx361_15, hx361_16, hx361_17, hx361_18, hx361_19, hx361_20⟩ := at_T55 HR0.out x5_1 p361 q361
        have hw361_20 := hx361_20
        have hw361_19 := hx361_19
        have hw361_18 := hx361_18
        have hw361_17 := hx361_17
        have hw361_16 := hx361_16
        have hw361_15 := hx361_15
        have hw361_14 := hx361_14
        have hw361_13 := hx361_13
        have hw361_12 := hx361_12
        have hw361_11 := hx361_11
        have hw361_10 := hx361_10
        have hw361_9 := hx361_9
        have hw361_8 := hx361_8
        have hw361_7 := hx361_7
        have hw361_6 := hx361_6
        have hw361_5 := hx361_5
        have hw361_4 := hx361_4
        have hw361_3 := hx361_3
        have hw361_2 := hx361_2
        have hw361_1 := hx361_1
        have hw361_0 := hx361_0
        cases e361
        replace hx361_0 := Gv.bx HB.out hx361_0
        replace hx361_1 := Gv.bx HB.out hx361_1
        replace hx361_2 := Gv.bx HB.out hx361_2
        replace hx361_3 := Gv.bx HB.out hx361_3
        replace hx361_4 := Gv.bx HB.out hx361_4
        replace hx361_5 := Gv.bx HB.out hx361_5
        replace hx361_6 := Gv.bx HB.out hx361_6
        replace hx361_7 := Gv.bx HB.out hx361_7
        replace hx361_8 := Gv.bx HB.out hx361_8
        replace hx361_9 := Gv.bx HB.out hx361_9
        replace hx361_10 := Gv.bx HB.out hx361_10
        replace hx361_11 := Gv.bx HB.out hx361_11
        replace hx361_12 := Gv.bx HB.out hx361_12
        replace hx361_13 := Gv.bx HB.out hx361_13
        replace hx361_14 := Gv.bx HB.out hx361_14
        replace hx361_15 := Gv.bx HB.out hx361_15
        replace hx361_16 := Gv.bx HB.out hx361_16
        replace hx361_17 := Gv.bx HB.out hx361_17
        replace hx361_18 := Gv.bx HB.out hx361_18
        replace hx361_19 := Gv.bx HB.out hx361_19
        replace hx361_20 := Gv.bx HB.out hx361_20
        replace p361 := eq_true p361
        replace q361 := eq_true q361
        have p362 : 0 ≤ (x5_1 : Int) := of_decide_eq_true (by first | (with_reducible assumption) | assumption)
        have q362 : x5_1 < (l1.length : Int) := of_decide_eq_true (by first | (with_reducible assumption) | assumption)
        obtain ⟨ad362, e362, hx362_0, hx362_1, hx362_2, hx362_3, hx362_4, hx362_5, hx362_6, hx362_7, hx362_8, hx362_9, hx362_10, hx362_11, hx362_12, hx362_13, hx362_14, hx362_15, hx362_16, hx362_17, hx362_18, hx362_19, hx362_20⟩ := at_T55 HR1.out x5_1 p362 q362
        have hw362_20 := hx362_20
        have hw362_19 := hx362_19
        have hw362_18 := hx362_18
        have hw362_17 := hx362_17
        have hw362_16 := hx362_16
        have hw362_15 := hx362_15
        have hw362_14 := hx362_14
        have hw362_13 := hx362_13
        have hw362_12 := hx362_12
        have hw362_11 := hx362_11
        have hw362_10 := hx362_10
        have hw362_9 := hx362_9
        have hw362_8 := hx362_8
        have hw362_7 := hx362_7
        have hw362_6 := hx362_6
        have hw362_5 := hx362_5
        have hw362_4 := hx362_4
        have hw362_3 := hx362_3
        have hw362_2 := hx362_2
        have hw362_1 := hx362_1
        have hw362_0 := hx362_0
        cases e362
        replace hx362_0 := Gv.bx HB.out hx362_0
        replace hx362_1 := Gv.bx HB.out hx362_1
        replace hx362_2 := Gv.bx HB.out hx362_2
        replace hx362_3 := Gv.bx HB.out hx362_3
        replace hx362_4 := Gv.bx HB.out hx362_4
        replace hx362_5 := Gv.bx HB.out hx362_5
        replace hx362_6 := Gv.bx HB.out hx362_6
        replace hx362_7 := Gv.bx HB.out hx362_7
        replace hx362_8 := Gv.bx HB.out hx362_8
        replace hx362_9 := Gv.bx HB.out hx362_9
        replace hx362_10 := Gv.bx HB.out hx362_10
        replace hx362_11 := Gv.bx HB.out hx362_11
        replace hx362_12 := Gv.bx HB.out hx362_12
        replace hx362_13 := Gv.bx HB.out hx362_13
        replace hx362_14 := Gv.bx HB.out hx362_14
        replace hx362_15 := Gv.bx HB.out hx362_15
        replace hx362_16 := Gv.bx HB.out hx362_16
        replace hx362_17 := Gv.bx HB.out hx362_17
        replace hx362_18 := Gv.bx HB.out hx362_18
        replace hx362_19 := Gv.bx HB.out hx362_19
        replace hx362_20 := Gv.bx HB.out hx362_20
        replace p362 := eq_true p362
        replace q362 := eq_true q362
        refine start_ (n := 10) (S := fun w' => w'.cell? (ad361.add ((x5_1).toNat * 21)) = some (.int .i64 ((rd_T55 l0 x5_1).f0)) ∧ w'.cell? ⟨(ad361.add ((x5_1).toNat * 21)).block, (ad361.add ((x5_1).toNat * 21)).off + 1, none⟩ = some (.int .i64 ((rd_T55 l0 x5_1).f1.f0.f0)) ∧ w'.cell? ⟨(ad361.add ((x5_1).toNat * 21)).block, (ad361.add ((x5_1).toNat * 21)).off + 2, none⟩ = some (.int .i64 ((rd_T55 l0 x5_1).f1.f0.f1)) ∧ w'.cell? ⟨(ad361.add ((x5_1).toNat * 21)).block, (ad361.add ((x5_1).toNat * 21)).off + 3, none⟩ = some (.int .i64 ((rd_T55 l0 x5_1).f1.f0.f2)) ∧ w'.cell? ⟨(ad361.add ((x5_1).toNat * 21)).block, (ad361.add ((x5_1).toNat * 21)).off + 4, none⟩ = some (.int .i64 ((rd_T55 l0 x5_1).f1.f0.f3)) ∧ w'.cell? ⟨(ad361.add ((x5_1).toNat * 21)).block, (ad361.add ((x5_1).toNat * 21)).off + 5, none⟩ = some (.int .i64 ((rd_T55 l0 x5_1).f1.f0.f4)) ∧ w'.cell? ⟨(ad361.add ((x5_1).toNat * 21)).block, (ad361.add ((x5_1).toNat * 21)).off + 6, none⟩ = some (.int .i64 ((rd_T55 l0 x5_1).f1.f1)) ∧ w'.cell? ⟨(ad361.add ((x5_1).toNat * 21)).block, (ad361.add ((x5_1).toNat * 21)).off + 7, none⟩ = some (.int .i64 ((rd_T55 l0 x5_1).f2.f0.f0)) ∧ w'.cell? ⟨(ad361.add ((x5_1).toNat * 21)).block, (ad361.add ((x5_1).toNat * 21)).off + 8, none⟩ = some (.int .i64 ((rd_T55 l0 x5_1).f2.f0.f1)) ∧ w'.cell? ⟨(ad361.add ((x5_1).toNat * 21)).block, (ad361.add ((x5_1).toNat * 21)).off + 9, none⟩ = some (.int .i64 ((rd_T55 l0 x5_1).f2.f0.f2)) ∧ w'.cell? ⟨(ad361.add ((x5_1).toNat * 21)).block, (ad361.add ((x5_1).toNat * 21)).off + 10, none⟩ = some (.int .i64 ((rd_T55 l0 x5_1).f2.f0.f3)) ∧ w'.cell? ⟨(ad361.add ((x5_1).toNat * 21)).block, (ad361.add ((x5_1).toNat * 21)).off + 11, none⟩ = some (.int .i64 ((rd_T55 l0 x5_1).f2.f0.f4)) ∧ w'.cell? ⟨(ad361.add ((x5_1).toNat * 21)).block, (ad361.add ((x5_1).toNat * 21)).off + 12, none⟩ = some (.int .i64 ((rd_T55 l0 x5_1).f2.f1)) ∧ w'.cell? ⟨(ad361.add ((x5_1).toNat * 21)).block, (ad361.add ((x5_1).toNat * 21)).off + 13, none⟩ = some (.int .i64 ((rd_T55 l0 x5_1).f3)) ∧ w'.cell? ⟨(ad361.add ((x5_1).toNat * 21)).block, (ad361.add ((x5_1).toNat * 21)).off + 14, none⟩ = some (.int .i64 ((rd_T55 l0 x5_1).f4)) ∧ w'.cell? ⟨(ad361.add ((x5_1).toNat * 21)).block, (ad361.add ((x5_1).toNat * 21)).off + 15, none⟩ = some (.int .i64 ((rd_T55 l0 x5_1).f5)) ∧ w'.cell? ⟨(ad361.add ((x5_1).toNat * 21)).block, (ad361.add ((x5_1).toNat * 21)).off + 16, none⟩ = some (.int .i64 ((rd_T55 l0 x5_1).f6)) ∧ w'.cell? ⟨(ad361.add ((x5_1).toNat * 21)).block, (ad361.add ((x5_1).toNat * 21)).off + 17, none⟩ = some (.int .i64 ((rd_T55 l0 x5_1).f7)) ∧ w'.cell? ⟨(ad361.add ((x5_1).toNat * 21)).block, (ad361.add ((x5_1).toNat * 21)).off + 18, none⟩ = some (.int .i64 ((rd_T55 l0 x5_1).f8)) ∧ w'.cell? ⟨(ad361.add ((x5_1).toNat * 21)).block, (ad361.add ((x5_1).toNat * 21)).off + 19, none⟩ = some (.int .i64 ((rd_T55 l0 x5_1).f9)) ∧ w'.cell? ⟨(ad361.add ((x5_1).toNat * 21)).block, (ad361.add ((x5_1).toNat * 21)).off + 20, none⟩ = some (.int .i64 ((rd_T55 l0 x5_1).f10)) ∧ w'.cell? (ad362.add ((x5_1).toNat * 21)) = some (.int .i64 ((rd_T55 l1 x5_1).f0)) ∧ w'.cell? ⟨(ad362.add ((x5_1).toNat * 21)).block, (ad362.add ((x5_1).toNat * 21)).off + 1, none⟩ = some (.int .i64 ((rd_T55 l1 x5_1).f1.f0.f0)) ∧ w'.cell? ⟨(ad362.add ((x5_1).toNat * 21)).block, (ad362.add ((x5_1).toNat * 21)).off + 2, none⟩ = some (.int .i64 ((rd_T55 l1 x5_1).f1.f0.f1)) ∧ w'.cell? ⟨(ad362.add ((x5_1).toNat * 21)).block, (ad362.add ((x5_1).toNat * 21)).off + 3, none⟩ = some (.int .i64 ((rd_T55 l1 x5_1).f1.f0.f2)) ∧ w'.cell? ⟨(ad362.add ((x5_1).toNat * 21)).block, (ad362.add ((x5_1).toNat * 21)).off + 4, none⟩ = some (.int .i64 ((rd_T55 l1 x5_1).f1.f0.f3)) ∧ w'.cell? ⟨(ad362.add ((x5_1).toNat * 21)).block, (ad362.add ((x5_1).toNat * 21)).off + 5, none⟩ = some (.int .i64 ((rd_T55 l1 x5_1).f1.f0.f4)) ∧ w'.cell? ⟨(ad362.add ((x5_1).toNat * 21)).block, (ad362.add ((x5_1).toNat * 21)).off + 6, none⟩ = some (.int .i64 ((rd_T55 l1 x5_1).f1.f1)) ∧ w'.cell? ⟨(ad362.add ((x5_1).toNat * 21)).block, (ad362.add ((x5_1).toNat * 21)).off + 7, none⟩ = some (.int .i64 ((rd_T55 l1 x5_1).f2.f0.f0)) ∧ w'.cell? ⟨(ad362.add ((x5_1).toNat * 21)).block, (ad362.add ((x5_1).toNat * 21)).off + 8, none⟩ = some (.int .i64 ((rd_T55 l1 x5_1).f2.f0.f1)) ∧ w'.cell? ⟨(ad362.add ((x5_1).toNat * 21)).block, (ad362.add ((x5_1).toNat * 21)).off + 9, none⟩ = some (.int .i64 ((rd_T55 l1 x5_1).f2.f0.f2)) ∧ w'.cell? ⟨(ad362.add ((x5_1).toNat * 21)).block, (ad362.add ((x5_1).toNat * 21)).off + 10, none⟩ = some (.int .i64 ((rd_T55 l1 x5_1).f2.f0.f3)) ∧ w'.cell? ⟨(ad362.add ((x5_1).toNat * 21)).block, (ad362.add ((x5_1).toNat * 21)).off + 11, none⟩ = some (.int .i64 ((rd_T55 l1 x5_1).f2.f0.f4)) ∧ w'.cell? ⟨(ad362.add ((x5_1).toNat * 21)).block, (ad362.add ((x5_1).toNat * 21)).off + 12, none⟩ = some (.int .i64 ((rd_T55 l1 x5_1).f2.f1)) ∧ w'.cell? ⟨(ad362.add ((x5_1).toNat * 21)).block, (ad362.add ((x5_1).toNat * 21)).off + 13, none⟩ = some (.int .i64 ((rd_T55 l1 x5_1).f3)) ∧ w'.cell? ⟨(ad362.add ((x5_1).toNat * 21)).block, (ad362.add ((x5_1).toNat * 21)).off + 14, none⟩ = some (.int .i64 ((rd_T55 l1 x5_1).f4)) ∧ w'.cell? ⟨(ad362.add ((x5_1).toNat * 21)).block, (ad362.add ((x5_1).toNat * 21)).off + 15, none⟩ = some (.int .i64 ((rd_T55 l1 x5_1).f5)) ∧ w'.cell? ⟨(ad362.add ((x5_1).toNat * 21)).block, (ad362.add ((x5_1).toNat * 21)).off + 16, none⟩ = some (.int .i64 ((rd_T55 l1 x5_1).f6)) ∧ w'.cell? ⟨(ad362.add ((x5_1).toNat * 21)).block, (ad362.add ((x5_1).toNat * 21)).off + 17, none⟩ = some (.int .i64 ((rd_T55 l1 x5_1).f7)) ∧ w'.cell? ⟨(ad362.add ((x5_1).toNat * 21)).block, (ad362.add ((x5_1).toNat * 21)).off + 18, none⟩ = some (.int .i64 ((rd_T55 l1 x5_1).f8)) ∧ w'.cell? ⟨(ad362.add ((x5_1).toNat * 21)).block, (ad362.add ((x5_1).toNat * 21)).off + 19, none⟩ = some (.int .i64 ((rd_T55 l1 x5_1).f9)) ∧ w'.cell? ⟨(ad362.add ((x5_1).toNat * 21)).block, (ad362.add ((x5_1).toNat * 21)).off + 20, none⟩ = some (.int .i64 ((rd_T55 l1 x5_1).f10))) (ds := []) #[false, false, false, false, false, false, false, false, false, false] (by kernel_rfl) rfl rfl ⟨(Gv.bx HB.out hw361_0), (Gv.bx HB.out hw361_1), (Gv.bx HB.out hw361_2), (Gv.bx HB.out hw361_3), (Gv.bx HB.out hw361_4), (Gv.bx HB.out hw361_5), (Gv.bx HB.out hw361_6), (Gv.bx HB.out hw361_7), (Gv.bx HB.out hw361_8), (Gv.bx HB.out hw361_9), (Gv.bx HB.out hw361_10), (Gv.bx HB.out hw361_11), (Gv.bx HB.out hw361_12), (Gv.bx HB.out hw361_13), (Gv.bx HB.out hw361_14), (Gv.bx HB.out hw361_15), (Gv.bx HB.out hw361_16), (Gv.bx HB.out hw361_17), (Gv.bx HB.out hw361_18), (Gv.bx HB.out hw361_19), (Gv.bx HB.out hw361_20), (Gv.bx HB.out hw362_0), (Gv.bx HB.out hw362_1), (Gv.bx HB.out hw362_2), (Gv.bx HB.out hw362_3), (Gv.bx HB.out hw362_4), (Gv.bx HB.out hw362_5), (Gv.bx HB.out hw362_6), (Gv.bx HB.out hw362_7), (Gv.bx HB.out hw362_8), (Gv.bx HB.out hw362_9), (Gv.bx HB.out hw362_10), (Gv.bx HB.out hw362_11), (Gv.bx HB.out hw362_12), (Gv.bx HB.out hw362_13), (Gv.bx HB.out hw362_14), (Gv.bx HB.out hw362_15), (Gv.bx HB.out hw362_16), (Gv.bx HB.out hw362_17), (Gv.bx HB.out hw362_18), (Gv.bx HB.out hw362_19), (Gv.bx HB.out hw362_20)⟩ (fun hHeld => ?_); refine with_tabW laws_eqRuleS.tab6 laws_eqRuleS.bits6 (fun HT_ HW_ => ?_)
        generalize wr.drew = w9 at HB hx361_0 hx361_1 hx361_10 hx361_11 hx361_12 hx361_13 hx361_14 hx361_15 hx361_16 hx361_17 hx361_18 hx361_19 hx361_2 hx361_20 hx361_3 hx361_4 hx361_5 hx361_6 hx361_7 hx361_8 hx361_9 hx362_0 hx362_1 hx362_10 hx362_11 hx362_12 hx362_13 hx362_14 hx362_15 hx362_16 hx362_17 hx362_18 hx362_19 hx362_2 hx362_20 hx362_3 hx362_4 hx362_5 hx362_6 hx362_7 hx362_8 hx362_9 hHeld ⊢
        refine Gv.pu 0 (some 17) HT_ ?_
        refine Gv.pu 1 (some 18) HT_ ?_
        refine Gv.pu 2 (some 19) HT_ ?_
        refine Gv.pu 4 (some 21) HT_ ?_
        refine Gv.pu 5 (some 22) HT_ ?_
        refine Gv.pu 6 (some 23) HT_ ?_
        refine take_ (i := 3) (N := some 20) (v := ?_) (a' := ?_) #[true, true, true, true, true, true, true, false, false, false] rfl rfl (take_ofW HT_.out HW_.out (by kernel_rfl)) (fun _ _ _ h => h) (Or.inl ⟨by rfl, ?_⟩) hHeld ?_ ?_
        rotate_left
        ·rintro w' ⟨s0, s1, s2, s3, s4, s5, s6, s7, s8, s9, s10, s11, s12, s13, s14, s15, s16, s17, s18, s19, s20, s21, s22, s23, s24, s25, s26, s27, s28, s29, s30, s31, s32, s33, s34, s35, s36, s37, s38, s39, s40, s41⟩
         first | ((refine Gv.load_run (t := 55) (A := ad361.add ((x5_1).toNat * 21)) (cs := [_, _, _, _, _, _, _, _, _, _, _, _, _, _, _, _, _, _, _, _, _]) (x := ?xx33_) ?ho33_ ?hx33_ ⟨s0, s1, s2, s3, s4, s5, s6, s7, s8, s9, s10, s11, s12, s13, s14, s15, s16, s17, s18, s19, s20, trivial⟩ Try.underlying55 rfl (by kernel_rfl)); (case ho33_ => rfl); (case hx33_ => rfl)) | ((refine Gv.load_run (t := 55) (A := ad362.add ((x5_1).toNat * 21)) (cs := [_, _, _, _, _, _, _, _, _, _, _, _, _, _, _, _, _, _, _, _, _]) (x := ?xx34_) ?ho34_ ?hx34_ ⟨s21, s22, s23, s24, s25, s26, s27, s28, s29, s30, s31, s32, s33, s34, s35, s36, s37, s38, s39, s40, s41, trivial⟩ Try.underlying55 rfl (by kernel_rfl)); (case ho34_ => rfl); (case hx34_ => rfl)) | (go_simp; with_reducible rfl)
        rotate_left
        ·simp only [Act.put, List.setIfInBounds_toArray, List.set_cons_zero, List.set_cons_succ, i64_w, i32_w]
         rfl
        refine take_ (i := 7) (N := some 24) (v := ?_) (a' := ?_) #[true, true, true, true, true, true, true, true, false, false] rfl rfl (take_ofW HT_.out HW_.out (by kernel_rfl)) (fun _ _ _ h => h) (Or.inl ⟨by rfl, ?_⟩) hHeld ?_ ?_
        rotate_left
        ·rintro w' ⟨s0, s1, s2, s3, s4, s5, s6, s7, s8, s9, s10, s11, s12, s13, s14, s15, s16, s17, s18, s19, s20, s21, s22, s23, s24, s25, s26, s27, s28, s29, s30, s31, s32, s33, s34, s35, s36, s37, s38, s39, s40, s41⟩
         first | ((refine Gv.load_run (t := 55) (A := ad361.add ((x5_1).toNat * 21)) (cs := [_, _, _, _, _, _, _, _, _, _, _, _, _, _, _, _, _, _, _, _, _]) (x := ?xx36_) ?ho36_ ?hx36_ ⟨s0, s1, s2, s3, s4, s5, s6, s7, s8, s9, s10, s11, s12, s13, s14, s15, s16, s17, s18, s19, s20, trivial⟩ Try.underlying55 rfl (by kernel_rfl)); (case ho36_ => rfl); (case hx36_ => rfl)) | ((refine Gv.load_run (t := 55) (A := ad362.add ((x5_1).toNat * 21)) (cs := [_, _, _, _, _, _, _, _, _, _, _, _, _, _, _, _, _, _, _, _, _]) (x := ?xx37_) ?ho37_ ?hx37_ ⟨s21, s22, s23, s24, s25, s26, s27, s28, s29, s30, s31, s32, s33, s34, s35, s36, s37, s38, s39, s40, s41, trivial⟩ Try.underlying55 rfl (by kernel_rfl)); (case ho37_ => rfl); (case hx37_ => rfl)) | (go_simp; with_reducible rfl)
        rotate_left
        ·simp only [Act.put, List.setIfInBounds_toArray, List.set_cons_zero, List.set_cons_succ, i64_w, i32_w]
         rfl
        refine one_ (i := 8) (N := some 25) #[true, true, true, true, true, true, true, true, true, false] rfl rfl (one_of HT_.out (by kernel_rfl)) (by decide) (fun K hK => ?_)
        refine goes_ Try.func30 (by kernel_rfl) rfl #[.agg #[.int .i64 ((rd_T55 l0 x5_1).f0), .int .i64 ((rd_T55 l0 x5_1).f1.f0.f0), .int .i64 ((rd_T55 l0 x5_1).f1.f0.f1), .int .i64 ((rd_T55 l0 x5_1).f1.f0.f2), .int .i64 ((rd_T55 l0 x5_1).f1.f0.f3), .int .i64 ((rd_T55 l0 x5_1).f1.f0.f4), .int .i64 ((rd_T55 l0 x5_1).f1.f1), .int .i64 ((rd_T55 l0 x5_1).f2.f0.f0), .int .i64 ((rd_T55 l0 x5_1).f2.f0.f1), .int .i64 ((rd_T55 l0 x5_1).f2.f0.f2), .int .i64 ((rd_T55 l0 x5_1).f2.f0.f3), .int .i64 ((rd_T55 l0 x5_1).f2.f0.f4), .int .i64 ((rd_T55 l0 x5_1).f2.f1), .int .i64 ((rd_T55 l0 x5_1).f3), .int .i64 ((rd_T55 l0 x5_1).f4), .int .i64 ((rd_T55 l0 x5_1).f5), .int .i64 ((rd_T55 l0 x5_1).f6), .int .i64 ((rd_T55 l0 x5_1).f7), .int .i64 ((rd_T55 l0 x5_1).f8), .int .i64 ((rd_T55 l0 x5_1).f9), .int .i64 ((rd_T55 l0 x5_1).f10)], .agg #[.int .i64 ((rd_T55 l1 x5_1).f0), .int .i64 ((rd_T55 l1 x5_1).f1.f0.f0), .int .i64 ((rd_T55 l1 x5_1).f1.f0.f1), .int .i64 ((rd_T55 l1 x5_1).f1.f0.f2), .int .i64 ((rd_T55 l1 x5_1).f1.f0.f3), .int .i64 ((rd_T55 l1 x5_1).f1.f0.f4), .int .i64 ((rd_T55 l1 x5_1).f1.f1), .int .i64 ((rd_T55 l1 x5_1).f2.f0.f0), .int .i64 ((rd_T55 l1 x5_1).f2.f0.f1), .int .i64 ((rd_T55 l1 x5_1).f2.f0.f2), .int .i64 ((rd_T55 l1 x5_1).f2.f0.f3), .int .i64 ((rd_T55 l1 x5_1).f2.f0.f4), .int .i64 ((rd_T55 l1 x5_1).f2.f1), .int .i64 ((rd_T55 l1 x5_1).f3), .int .i64 ((rd_T55 l1 x5_1).f4), .int .i64 ((rd_T55 l1 x5_1).f5), .int .i64 ((rd_T55 l1 x5_1).f6), .int .i64 ((rd_T55 l1 x5_1).f7), .int .i64 ((rd_T55 l1 x5_1).f8), .int .i64 ((rd_T55 l1 x5_1).f9), .int .i64 ((rd_T55 l1 x5_1).f10)]] (by rfl) rfl rfl Gv.lm ?_
        with_reducible refine (laws_eqRule.calls ((rd_T55 l0 x5_1).f0) ((rd_T55 l0 x5_1).f1.f0.f0) ((rd_T55 l0 x5_1).f1.f0.f1) ((rd_T55 l0 x5_1).f1.f0.f2) ((rd_T55 l0 x5_1).f1.f0.f3) ((rd_T55 l0 x5_1).f1.f0.f4) ((rd_T55 l0 x5_1).f1.f1) ((rd_T55 l0 x5_1).f2.f0.f0) ((rd_T55 l0 x5_1).f2.f0.f1) ((rd_T55 l0 x5_1).f2.f0.f2) ((rd_T55 l0 x5_1).f2.f0.f3) ((rd_T55 l0 x5_1).f2.f0.f4) ((rd_T55 l0 x5_1).f2.f1) ((rd_T55 l0 x5_1).f3) ((rd_T55 l0 x5_1).f4) ((rd_T55 l0 x5_1).f5) ((rd_T55 l0 x5_1).f6) ((rd_T55 l0 x5_1).f7) ((rd_T55 l0 x5_1).f8) ((rd_T55 l0 x5_1).f9) ((rd_T55 l0 x5_1).f10) ((rd_T55 l1 x5_1).f0) ((rd_T55 l1 x5_1).f1.f0.f0) ((rd_T55 l1 x5_1).f1.f0.f1) ((rd_T55 l1 x5_1).f1.f0.f2) ((rd_T55 l1 x5_1).f1.f0.f3) ((rd_T55 l1 x5_1).f1.f0.f4) ((rd_T55 l1 x5_1).f1.f1) ((rd_T55 l1 x5_1).f2.f0.f0) ((rd_T55 l1 x5_1).f2.f0.f1) ((rd_T55 l1 x5_1).f2.f0.f2) ((rd_T55 l1 x5_1).f2.f0.f3) ((rd_T55 l1 x5_1).f2.f0.f4) ((rd_T55 l1 x5_1).f2.f1) ((rd_T55 l1 x5_1).f3) ((rd_T55 l1 x5_1).f4) ((rd_T55 l1 x5_1).f5) ((rd_T55 l1 x5_1).f6) ((rd_T55 l1 x5_1).f7) ((rd_T55 l1 x5_1).f8) ((rd_T55 l1 x5_1).f9) ((rd_T55 l1 x5_1).f10) true _ A7.out).mono ?_
        rintro e w10 ⟨rfl, hb⟩
        refine ⟨_, rfl, ?_⟩
        have n0_ := Gv.a0 (below_step Gv.bw hb)
        clear HB
        have HB := n0_
        clear n0_
        (try clear hb)
        (try clear hb2)
        (try clear hk)
        (try clear hi)
        refine hK.out _ _ ⟨(Gv.bx HB.out hw361_0), (Gv.bx HB.out hw361_1), (Gv.bx HB.out hw361_2), (Gv.bx HB.out hw361_3), (Gv.bx HB.out hw361_4), (Gv.bx HB.out hw361_5), (Gv.bx HB.out hw361_6), (Gv.bx HB.out hw361_7), (Gv.bx HB.out hw361_8), (Gv.bx HB.out hw361_9), (Gv.bx HB.out hw361_10), (Gv.bx HB.out hw361_11), (Gv.bx HB.out hw361_12), (Gv.bx HB.out hw361_13), (Gv.bx HB.out hw361_14), (Gv.bx HB.out hw361_15), (Gv.bx HB.out hw361_16), (Gv.bx HB.out hw361_17), (Gv.bx HB.out hw361_18), (Gv.bx HB.out hw361_19), (Gv.bx HB.out hw361_20), (Gv.bx HB.out hw362_0), (Gv.bx HB.out hw362_1), (Gv.bx HB.out hw362_2), (Gv.bx HB.out hw362_3), (Gv.bx HB.out hw362_4), (Gv.bx HB.out hw362_5), (Gv.bx HB.out hw362_6), (Gv.bx HB.out hw362_7), (Gv.bx HB.out hw362_8), (Gv.bx HB.out hw362_9), (Gv.bx HB.out hw362_10), (Gv.bx HB.out hw362_11), (Gv.bx HB.out hw362_12), (Gv.bx HB.out hw362_13), (Gv.bx HB.out hw362_14), (Gv.bx HB.out hw362_15), (Gv.bx HB.out hw362_16), (Gv.bx HB.out hw362_17), (Gv.bx HB.out hw362_18), (Gv.bx HB.out hw362_19), (Gv.bx HB.out hw362_20)⟩ (fun hHeld => ?_)
        clear hK K
        refine norm_ (a' := ?_) ?_ ?_
        rotate_left
        ·show Act.put _ (some 25) _ = _
         simp only [Act.put, List.setIfInBounds_toArray, List.set_cons_zero, List.set_cons_succ, i64_w, i32_w]
         rfl
        refine Gv.pu 9 (some 26) HT_ ?_
        refine done_ (done_of HT_.out (by kernel_rfl)) ?_
        try go_wp2
        go_roundg k1
        case measure => have := HK1.out; omega
        case rel => exact ⟨(wrap64 (x5_1 + 1)), (by first | rfl | (simp; done) | (simp [Int.tdiv_eq_ediv_of_nonneg]; done) | (simp [*]; done)), H', ⟨by have := HK1.out; omega⟩, ⟨by repeat (first | (with_reducible first | exact HB.out | apply below_alloc | apply pw_below_drewN | apply below_drew1) | exact HB.out)⟩⟩
       ·replace c8 := Bool.eq_false_iff.mpr c8
        subst c8
        have H1 : (none) = some r := by rw [if_neg (show ¬ (false = true) by decide)] at H; exact H
        clear H
        have H := H1
        clear H1
        exact absurd H (by simp)
      ·rw [if_neg c6] at H
       exact absurd H (by simp)
     ·rw [if_neg c5] at H
      exact absurd H (by simp)
    ·rw [if_neg c4] at H
     have c4b0 : decide (x5_1 < (l0.length : Int)) = false := decide_eq_false c4
     clear c4
     obtain rfl := Option.some.inj H
     go_wp2
     go_ret
     exact ⟨by first | rfl | (simp [errW_none, errW_some] <;> rfl) | (simp [*, errW_none, errW_some] <;> rfl), by repeat (first | (with_reducible first | exact HB.out | apply below_alloc | apply pw_below_drewN | apply below_drew1) | exact HB.out)⟩
 ·rw [if_neg c3] at H
  exact absurd H (by simp)

/-! ### laws_FnExactRulesOk: function 3 -/
def laws_FnExactRulesOk.f (k : Nat) (l0 : List (S50)) : Option (Bool) := (laws_szRuleS.f l0 1048576).bind fun t364 => (if t364 < 0 then (some true) else ((laws_toRuleS.f k l0).bind fun t365 => ((spec_RulesOk.f k t365).bind fun t368 => ((laws_toRuleS.f k l0).bind fun t369 => ((impl_RulesOk.f k t369).bind fun t372 => (if (t372 != t368) = true then (none) else ((laws_toRuleS.f k l0).bind fun t373 => ((laws_eqRuleS.f k t369 t373).bind fun t376 => (if t376 = true then (some true) else (none))))))))))
theorem laws_FnExactRulesOk.mono : ∀ a0 k, LeO (laws_FnExactRulesOk.f k a0) (laws_FnExactRulesOk.f (k + 1) a0) := by
 intro a0 k
 unfold laws_FnExactRulesOk.f
 repeat' first
   | (with_reducible exact impl_RulesOk.mono _ _)
   | (with_reducible exact laws_eqRuleS.mono _ _ _)
   | (with_reducible exact laws_toRuleS.mono _ _)
   | (with_reducible exact spec_RulesOk.mono _ _)
   | (with_reducible exact LeO.refl _)
   | (with_reducible exact LeO.none _)
   | (with_reducible refine LeO.ite ?_ ?_)
   | (with_reducible refine LeO.bind ?_ (fun _ => ?_))
   | exact impl_RulesOk.mono _ _
   | exact laws_eqRuleS.mono _ _ _
   | exact laws_toRuleS.mono _ _
   | exact spec_RulesOk.mono _ _
   | exact LeO.none _
   | refine LeO.ite ?_ ?_
   | refine LeO.bind ?_ (fun _ => ?_)
set_option maxHeartbeats 8000000 in
set_option maxRecDepth 100000 in
theorem laws_FnExactRulesOk.calls (k : Nat) (A0 : Option Addr) (c0 : Nat) (l0 : List (S50)) (r : Bool) (w : World) (hr0 : Kd.C k50 w A0 l0.length l0) (hc0 : l0.length ≤ c0) (h : laws_FnExactRulesOk.f k l0 = some r) :
  Calls Try.prog 3 #[.slice A0 l0.length c0] w fun e w' => e = .returned (.bool r) ∧ Below w.heap.size w w' := by
 have HR0 := Gv.a0 hr0
 have HC0 := Gv.a0 hc0
 clear hr0 hc0
 have HB := Gv.a0 (Below.refl w.heap.size w)
 have H : ((laws_szRuleS.f l0 1048576).bind fun t364 => (if t364 < 0 then (some true) else ((laws_toRuleS.f k l0).bind fun t365 => ((spec_RulesOk.f k t365).bind fun t368 => ((laws_toRuleS.f k l0).bind fun t369 => ((impl_RulesOk.f k t369).bind fun t372 => (if (t372 != t368) = true then (none) else ((laws_toRuleS.f k l0).bind fun t373 => ((laws_eqRuleS.f k t369 t373).bind fun t376 => (if t376 = true then (some true) else (none))))))))))) = some r := h
 clear h
 replace H := Option.bind_eq_some_iff.mp H
 obtain ⟨t364, A20, H⟩ := H
 replace H : (if t364 < 0 then (some true) else ((laws_toRuleS.f k l0).bind fun t365 => ((spec_RulesOk.f k t365).bind fun t368 => ((laws_toRuleS.f k l0).bind fun t369 => ((impl_RulesOk.f k t369).bind fun t372 => (if (t372 != t368) = true then (none) else ((laws_toRuleS.f k l0).bind fun t373 => ((laws_eqRuleS.f k t369 t373).bind fun t376 => (if t376 = true then (some true) else (none)))))))))) = some r := H
 have A2 := Gv.a0 A20
 clear A20
 by_cases c3 : t364 < 0
 ·rw [if_pos c3] at H
  have c3b0 : decide (t364 < 0) = true := decide_eq_true c3
  clear c3
  obtain rfl := Option.some.inj H
  go_enter Try.func3, Try.ntmps3
  go_wp2_with (first | ((with_reducible refine gate_callee (f := 8) rfl ?_); refine goesL_ (some 9) rfl rfl Try.func8 (by kernel_rfl) rfl #[.slice A0 l0.length c0, .int .i64 1048576] rfl Gv.lm ?_; (with_reducible refine (laws_szRuleS.calls _ _ l0 1048576 t364 _ ?side1 ?side2 A2.out).mono ?_); (case side1 => repeat (first | exact HR0.out | (with_reducible refine Kd.C_alloc ?_ _) | (with_reducible refine Kd.C_drewN ?_ _) | (with_reducible refine Kd.C_drew ?_))); (case side2 => exact HC0.out); rintro e w' ⟨rfl, ⟨nd, rfl⟩⟩; refine ⟨_, rfl, ?_⟩))
  go_ret
  exact ⟨by first | rfl | (simp [errW_none, errW_some] <;> rfl) | (simp [*, errW_none, errW_some] <;> rfl), by repeat (first | (with_reducible first | exact HB.out | apply below_alloc | apply pw_below_drewN | apply below_drew1) | exact HB.out)⟩
 ·rw [if_neg c3] at H
  have c3b0 : decide (t364 < 0) = false := decide_eq_false c3
  clear c3
  replace H := Option.bind_eq_some_iff.mp H
  obtain ⟨t365, A40, H⟩ := H
  replace H : ((spec_RulesOk.f k t365).bind fun t368 => ((laws_toRuleS.f k l0).bind fun t369 => ((impl_RulesOk.f k t369).bind fun t372 => (if (t372 != t368) = true then (none) else ((laws_toRuleS.f k l0).bind fun t373 => ((laws_eqRuleS.f k t369 t373).bind fun t376 => (if t376 = true then (some true) else (none)))))))) = some r := H
  have A4 := Gv.a0 A40
  clear A40
  replace H := Option.bind_eq_some_iff.mp H
  obtain ⟨t368, A50, H⟩ := H
  replace H : ((laws_toRuleS.f k l0).bind fun t369 => ((impl_RulesOk.f k t369).bind fun t372 => (if (t372 != t368) = true then (none) else ((laws_toRuleS.f k l0).bind fun t373 => ((laws_eqRuleS.f k t369 t373).bind fun t376 => (if t376 = true then (some true) else (none))))))) = some r := H
  have A5 := Gv.a0 A50
  clear A50
  replace H := Option.bind_eq_some_iff.mp H
  obtain ⟨t369, A60, H⟩ := H
  replace H : ((impl_RulesOk.f k t369).bind fun t372 => (if (t372 != t368) = true then (none) else ((laws_toRuleS.f k l0).bind fun t373 => ((laws_eqRuleS.f k t369 t373).bind fun t376 => (if t376 = true then (some true) else (none)))))) = some r := H
  have A6 := Gv.a0 A60
  clear A60
  replace H := Option.bind_eq_some_iff.mp H
  obtain ⟨t372, A70, H⟩ := H
  replace H : (if (t372 != t368) = true then (none) else ((laws_toRuleS.f k l0).bind fun t373 => ((laws_eqRuleS.f k t369 t373).bind fun t376 => (if t376 = true then (some true) else (none))))) = some r := H
  have A7 := Gv.a0 A70
  clear A70
  by_cases c8 : (t372 != t368) = true
  ·rw [if_pos c8] at H
   exact absurd H (by simp)
  ·rw [if_neg c8] at H
   have c8b0 : (t372 != t368) = false := by simpa using c8
   (try (have c8b1 : decide (t372 = t368) = true := by simpa using c8))
   (try (have c8b2 : (t372 == t368) = true := by simpa using c8))
   clear c8
   replace H := Option.bind_eq_some_iff.mp H
   obtain ⟨t373, A90, H⟩ := H
   replace H : ((laws_eqRuleS.f k t369 t373).bind fun t376 => (if t376 = true then (some true) else (none))) = some r := H
   have A9 := Gv.a0 A90
   clear A90
   replace H := Option.bind_eq_some_iff.mp H
   obtain ⟨t376, A100, H⟩ := H
   replace H : (if t376 = true then (some true) else (none)) = some r := H
   have A10 := Gv.a0 A100
   clear A100
   by_cases c11 : t376 = true
   ·subst c11
    have H1 : (some true) = some r := by rw [if_pos rfl] at H; exact H
    clear H
    have H := H1
    clear H1
    obtain rfl := Option.some.inj H
    go_enter Try.func3, Try.ntmps3
    go_wp2_with (first | ((with_reducible refine gate_callee (f := 8) rfl ?_); refine goesL_ (some 9) rfl rfl Try.func8 (by kernel_rfl) rfl #[.slice A0 l0.length c0, .int .i64 1048576] rfl Gv.lm ?_; (with_reducible refine (laws_szRuleS.calls _ _ l0 1048576 t364 _ ?side1 ?side2 A2.out).mono ?_); (case side1 => repeat (first | exact HR0.out | (with_reducible refine Kd.C_alloc ?_ _) | (with_reducible refine Kd.C_drewN ?_ _) | (with_reducible refine Kd.C_drew ?_))); (case side2 => exact HC0.out); rintro e w' ⟨rfl, ⟨nd, rfl⟩⟩; refine ⟨_, rfl, ?_⟩) | ((with_reducible refine gate_callee (f := 10) rfl ?_); refine goesL_ (some 13) rfl rfl Try.func10 (by kernel_rfl) rfl #[.slice A0 l0.length c0] rfl Gv.lm ?_; (with_reducible refine (laws_toRuleS.calls k _ _ l0 t365 _ ?side1 ?side2 A4.out).mono ?_); (case side1 => repeat (first | exact HR0.out | (with_reducible refine Kd.C_alloc ?_ _) | (with_reducible refine Kd.C_drewN ?_ _) | (with_reducible refine Kd.C_drew ?_))); (case side2 => exact HC0.out); rintro e w12 ⟨v366, rfl, ho0, hb⟩; refine ⟨_, rfl, ?_⟩; have n0_ := Gv.a0 (Kd.R_lower ho0 (below_size Gv.bw)); have n1_ := Gv.a0 (below_step Gv.bw hb); clear HB; have HO367 := n0_; have HB := n1_; clear n0_ n1_; (try clear hb); (try clear hb2); (try clear hk); (try clear hi); (try clear ho0); obtain ⟨Ao13, co13, eo13⟩ := Kd.R_slice HO367.out; subst eo13) | ((with_reducible refine gate_callee (f := 9) rfl ?_); refine goesL_ (some 14) rfl rfl Try.func9 (by kernel_rfl) rfl #[.slice Ao13 t365.length co13] rfl Gv.lm ?_; (with_reducible refine (spec_RulesOk.calls k _ _ t365 t368 _ ?side1 ?side2 A5.out).mono ?_); (case side1 => repeat (first | exact (Kd.R_reads' HO367.out).2.2 | (with_reducible refine Kd.C_alloc ?_ _) | (with_reducible refine Kd.C_drewN ?_ _) | (with_reducible refine Kd.C_drew ?_))); (case side2 => exact (Kd.R_reads' HO367.out).2.1); rintro e w14 ⟨rfl, hb⟩; refine ⟨_, rfl, ?_⟩; have n0_ := Gv.a0 (Kd.R_below (Gv.kr HO367.out) hb); have n1_ := Gv.a0 (below_step Gv.bw hb); clear HO367; clear HB; have HO367 := n0_; have HB := n1_; clear n0_ n1_; (try clear hb); (try clear hb2); (try clear hk); (try clear hi)) | ((with_reducible refine gate_callee (f := 10) rfl ?_); refine goesL_ (some 16) rfl rfl Try.func10 (by kernel_rfl) rfl #[.slice A0 l0.length c0] rfl Gv.lm ?_; (with_reducible refine (laws_toRuleS.calls k _ _ l0 t369 _ ?side1 ?side2 A6.out).mono ?_); (case side1 => repeat (first | exact (Kd.C_below HR0.out HB.out) | (with_reducible refine Kd.C_alloc ?_ _) | (with_reducible refine Kd.C_drewN ?_ _) | (with_reducible refine Kd.C_drew ?_))); (case side2 => exact HC0.out); rintro e w15 ⟨v370, rfl, ho0, hb⟩; refine ⟨_, rfl, ?_⟩; have n0_ := Gv.a0 (Kd.R_elder' (Gv.kr HO367.out) (Kd.R_base ho0) hb); have n1_ := Gv.a0 (Kd.R_lower (Kd.R_new' ho0 (Kd.R_lt (Gv.kr HO367.out))) (below_size Gv.bw)); have n2_ := Gv.a0 (below_step Gv.bw hb); clear HO367; clear HB; have HO367 := n0_; have HO371 := n1_; have HB := n2_; clear n0_ n1_ n2_; (try clear hb); (try clear hb2); (try clear hk); (try clear hi); (try clear ho0); obtain ⟨Ao16, co16, eo16⟩ := Kd.R_slice HO371.out; subst eo16) | ((with_reducible refine gate_callee (f := 11) rfl ?_); refine goesL_ (some 18) rfl rfl Try.func11 (by kernel_rfl) rfl #[.slice Ao16 t369.length co16] rfl Gv.lm ?_; (with_reducible refine (impl_RulesOk.calls k _ _ t369 t372 _ ?side1 ?side2 A7.out).mono ?_); (case side1 => repeat (first | exact (Kd.R_reads' HO371.out).2.2 | (with_reducible refine Kd.C_alloc ?_ _) | (with_reducible refine Kd.C_drewN ?_ _) | (with_reducible refine Kd.C_drew ?_))); (case side2 => exact (Kd.R_reads' HO371.out).2.1); rintro e w17 ⟨rfl, hb⟩; refine ⟨_, rfl, ?_⟩; have n0_ := Gv.a0 (Kd.R_below (Gv.kr HO367.out) hb); have n1_ := Gv.a0 (Kd.R_below (Gv.kr HO371.out) hb); have n2_ := Gv.a0 (below_step Gv.bw hb); clear HO367; clear HO371; clear HB; have HO367 := n0_; have HO371 := n1_; have HB := n2_; clear n0_ n1_ n2_; (try clear hb); (try clear hb2); (try clear hk); (try clear hi)) | ((with_reducible refine gate_callee (f := 10) rfl ?_); refine goesL_ (some 24) rfl rfl Try.func10 (by kernel_rfl) rfl #[.slice A0 l0.length c0] rfl Gv.lm ?_; (with_reducible refine (laws_toRuleS.calls k _ _ l0 t373 _ ?side1 ?side2 A9.out).mono ?_); (case side1 => repeat (first | exact (Kd.C_below HR0.out HB.out) | (with_reducible refine Kd.C_alloc ?_ _) | (with_reducible refine Kd.C_drewN ?_ _) | (with_reducible refine Kd.C_drew ?_))); (case side2 => exact HC0.out); rintro e w18 ⟨v374, rfl, ho0, hb⟩; refine ⟨_, rfl, ?_⟩; have n0_ := Gv.a0 (Kd.R_elder' (Gv.kr HO367.out) (Kd.R_base ho0) hb); have n1_ := Gv.a0 (Kd.R_elder' (Gv.kr HO371.out) (Kd.R_base ho0) hb); have n2_ := Gv.a0 (Kd.R_lower (Kd.R_new' (Kd.R_new' ho0 (Kd.R_lt (Gv.kr HO367.out))) (Kd.R_lt (Gv.kr HO371.out))) (below_size Gv.bw)); have n3_ := Gv.a0 (below_step Gv.bw hb); clear HO367; clear HO371; clear HB; have HO367 := n0_; have HO371 := n1_; have HO375 := n2_; have HB := n3_; clear n0_ n1_ n2_ n3_; (try clear hb); (try clear hb2); (try clear hk); (try clear hi); (try clear ho0); obtain ⟨Ao19, co19, eo19⟩ := Kd.R_slice HO375.out; subst eo19) | ((with_reducible refine gate_callee (f := 12) rfl ?_); refine goesL_ (some 25) rfl rfl Try.func12 (by kernel_rfl) rfl #[.slice Ao16 t369.length co16, .slice Ao19 t373.length co19] rfl Gv.lm ?_; (with_reducible refine (laws_eqRuleS.calls k _ _ t369 _ _ t373 true _ ?side1 ?side2 ?side3 ?side4 A10.out).mono ?_); (case side1 => repeat (first | exact (Kd.R_reads' HO371.out).2.2 | (with_reducible refine Kd.C_alloc ?_ _) | (with_reducible refine Kd.C_drewN ?_ _) | (with_reducible refine Kd.C_drew ?_))); (case side2 => exact (Kd.R_reads' HO371.out).2.1); (case side3 => repeat (first | exact (Kd.R_reads' HO375.out).2.2 | (with_reducible refine Kd.C_alloc ?_ _) | (with_reducible refine Kd.C_drewN ?_ _) | (with_reducible refine Kd.C_drew ?_))); (case side4 => exact (Kd.R_reads' HO375.out).2.1); rintro e w20 ⟨rfl, hb⟩; refine ⟨_, rfl, ?_⟩; have n0_ := Gv.a0 (Kd.R_below (Gv.kr HO367.out) hb); have n1_ := Gv.a0 (Kd.R_below (Gv.kr HO371.out) hb); have n2_ := Gv.a0 (Kd.R_below (Gv.kr HO375.out) hb); have n3_ := Gv.a0 (below_step Gv.bw hb); clear HO367; clear HO371; clear HO375; clear HB; have HO367 := n0_; have HO371 := n1_; have HO375 := n2_; have HB := n3_; clear n0_ n1_ n2_ n3_; (try clear hb); (try clear hb2); (try clear hk); (try clear hi)))
    go_ret
    exact ⟨by first | rfl | (simp [errW_none, errW_some] <;> rfl) | (simp [*, errW_none, errW_some] <;> rfl), by repeat (first | (with_reducible first | exact HB.out | apply below_alloc | apply pw_below_drewN | apply below_drew1) | exact HB.out)⟩
   ·replace c11 := Bool.eq_false_iff.mpr c11
    subst c11
    have H1 : (none) = some r := by rw [if_neg (show ¬ (false = true) by decide)] at H; exact H
    clear H
    have H := H1
    clear H1
    exact absurd H (by simp)

end Go.Proofs.Ytbihbbkdciebhaa.PRo
