/- Plain Lean functions of a law's Go functions, their contracts, by a program of this session (wip/pr.py over the kit's print). -/
import Derived.Test.YtbihbbkdciebhaaPRdx0
import Derived.Test.YtbihbbkdciebhaaPRdx3
import Derived.Test.YtbihbbkdciebhaaPRdx5
import Derived.Test.YtbihbbkdciebhaaPRdx6
namespace Go.Proofs.Ytbihbbkdciebhaa.PRd
open Go.RowKit Go.Proofs.YtbihbbkdciebhaaW.PrintWords Go.Proofs.YtbihbbkdciebhaaW.PrintLast Go.Proofs.YtbihbbkdciebhaaW.PrintMore
attribute [local go_sem] max2_int min2_int max_two min_two max_three min_three max_four min_four   -- for this text's walks alone
set_option linter.unusedVariables false
set_option linter.unusedSimpArgs false

/-! ### impl_RulesOk: function 11 -/
def impl_RulesOk.l0 : Nat → List (S55) → List (S55) → Int → Int → Option (Bool)
 | 0, _, _, _, _ => none
 | k + 1, x0, x5, x6, x7 => if x7 < x6 then (if 0 ≤ x7 then (if x7 < (x5.length : Int) then ((impl_RuleOk.f k ((rd_T55 x5 x7).f0) ((rd_T55 x5 x7).f1.f0.f0) ((rd_T55 x5 x7).f1.f0.f1) ((rd_T55 x5 x7).f1.f0.f2) ((rd_T55 x5 x7).f1.f0.f3) ((rd_T55 x5 x7).f1.f0.f4) ((rd_T55 x5 x7).f1.f1) ((rd_T55 x5 x7).f2.f0.f0) ((rd_T55 x5 x7).f2.f0.f1) ((rd_T55 x5 x7).f2.f0.f2) ((rd_T55 x5 x7).f2.f0.f3) ((rd_T55 x5 x7).f2.f0.f4) ((rd_T55 x5 x7).f2.f1) ((rd_T55 x5 x7).f3) ((rd_T55 x5 x7).f4) ((rd_T55 x5 x7).f5) ((rd_T55 x5 x7).f6) ((rd_T55 x5 x7).f7) ((rd_T55 x5 x7).f8) ((rd_T55 x5 x7).f9) ((rd_T55 x5 x7).f10)).bind fun t372 => (if t372 = true then (if x7 > 0 then (if 0 ≤ (wrap64 (x7 - 1)) then (if (wrap64 (x7 - 1)) < (x0.length : Int) then (if ((rd_T55 x0 (wrap64 (x7 - 1))).f0) ≥ ((rd_T55 x5 x7).f0) then (some false) else (impl_RulesOk.l0 k x0 x5 x6 (wrap64 (x7 + 1)))) else (none)) else (none)) else (impl_RulesOk.l0 k x0 x5 x6 (wrap64 (x7 + 1)))) else (some false))) else (none)) else (none)) else (some (decide ((x0.length : Int) ≤ 32)))
def impl_RulesOk.f (k : Nat) (l0 : List (S55)) : Option (Bool) := impl_RulesOk.l0 k l0 l0 (l0.length : Int) 0
theorem impl_RulesOk.mono_l : ∀ k, (∀ y0 y1 y2 y3, LeO (impl_RulesOk.l0 k y0 y1 y2 y3) (impl_RulesOk.l0 (k + 1) y0 y1 y2 y3))
 | 0 => fun _ _ _ _ r h => by simp [impl_RulesOk.l0] at h
 | k + 1 => by
  have ih0 := impl_RulesOk.mono_l k
  ·intro y0 y1 y2 y3
   unfold impl_RulesOk.l0
   repeat' first
   | (with_reducible exact ih0 _ _ _ _)
   | (with_reducible exact impl_RuleOk.mono _ _ _ _ _ _ _ _ _ _ _ _ _ _ _ _ _ _ _ _ _ _)
   | (with_reducible exact LeO.refl _)
   | (with_reducible exact LeO.none _)
   | (with_reducible refine LeO.ite ?_ ?_)
   | (with_reducible refine LeO.bind ?_ (fun _ => ?_))
   | exact ih0 _ _ _ _
   | exact impl_RuleOk.mono _ _ _ _ _ _ _ _ _ _ _ _ _ _ _ _ _ _ _ _ _ _
   | exact LeO.none _
   | refine LeO.ite ?_ ?_
   | refine LeO.bind ?_ (fun _ => ?_)
theorem impl_RulesOk.mono : ∀ a0 k, LeO (impl_RulesOk.f k a0) (impl_RulesOk.f (k + 1) a0) := by
 intro a0 k
 have ih0 := impl_RulesOk.mono_l k
 unfold impl_RulesOk.f
 repeat' first
   | (with_reducible exact ih0 _ _ _ _)
   | (with_reducible exact impl_RuleOk.mono _ _ _ _ _ _ _ _ _ _ _ _ _ _ _ _ _ _ _ _ _ _)
   | (with_reducible exact LeO.refl _)
   | (with_reducible exact LeO.none _)
   | (with_reducible refine LeO.ite ?_ ?_)
   | (with_reducible refine LeO.bind ?_ (fun _ => ?_))
   | exact ih0 _ _ _ _
   | exact impl_RuleOk.mono _ _ _ _ _ _ _ _ _ _ _ _ _ _ _ _ _ _ _ _ _ _
   | exact LeO.none _
   | refine LeO.ite ?_ ?_
   | refine LeO.bind ?_ (fun _ => ?_)
def impl_RulesOk.T4 : Bool × List (List Nat × List Nat) := (true, [([], []), ([0], [0]), ([1], [1]), ([2, 1], [2]), ([3], [3]), ([4, 3], [3, 4]), ([5, 3, 3], [3, 5]), ([6], [6]), ([6], [6]), ([8, 6], [6, 8]), ([7, 9, 6], [6, 7, 9]), ([10, 6], [6, 10]), ([11, 6], [6, 11]), ([6], [6]), ([13, 6], [6, 13]), ([12, 14, 6], [6, 12, 14]), ([6, 15, 3], [3, 6, 15]), ([3, 16], [3, 16])])
def impl_RulesOk.B4 : List Nat := [0, 1, 3, 7, 15, 31, 63, 127, 127, 383, 1023, 2047, 4095, 127, 8319, 32767, 65535, 131071]
theorem impl_RulesOk.tab4 : rtab .any (opsOf Try.f11 4) = impl_RulesOk.T4 := by kernel_rfl
theorem impl_RulesOk.bits4 : waitsOk impl_RulesOk.T4.2 impl_RulesOk.B4 = true := by kernel_rfl
set_option maxHeartbeats 8000000 in
set_option maxRecDepth 100000 in
theorem impl_RulesOk.calls (k : Nat) (A0 : Option Addr) (c0 : Nat) (l0 : List (S55)) (r : Bool) (w : World) (hr0 : Kd.C k55 w A0 l0.length l0) (hc0 : l0.length ≤ c0) (h : impl_RulesOk.f k l0 = some r) :
  Calls Try.prog 11 #[.slice A0 l0.length c0] w fun e w' => e = .returned (.bool r) ∧ Below w.heap.size w w' := by
 have hu55 := Try.underlying55
 have HR0 := Gv.a0 hr0
 have HC0 := Gv.a0 hc0
 clear hr0 hc0
 have HB := Gv.a0 (Below.refl w.heap.size w)
 have H : (impl_RulesOk.l0 k l0 l0 (l0.length : Int) 0) = some r := h
 clear h
 have H' := Gv.a0 H
 clear H
 go_enter Try.func11, Try.ntmps11
 go_wp2_with (first | ((with_reducible refine Gv.gate_load (t := 55) rfl ?_); (try (refine gate_guard (by rfl) ?_; dsimp only)); refine wpList_load_row rfl 55 _ rfl gb371 rfl 55 _ _ _ (by first | exact Gv.kb0 BK371.out | exact Gv.kb1 (Gv.kb0 BK371.out)) Try.underlying55 rfl (by kernel_rfl) ?_))
 go_loopg [7] k (fun kq v7 w' => ∃ (x7_1 : Int), v7 = .int .i64 x7_1 ∧ Aside0 (impl_RulesOk.l0 kq l0 l0 (l0.length : Int) x7_1 = some r) ∧ Aside0 (kq ≤ k) ∧ Aside0 (Below w.heap.size w w'))
 case atStart => exact ⟨(0), Gv.rq, H', ⟨Nat.le_refl _⟩, ⟨Gv.bw⟩⟩
 case round =>
  clear H'
  try clear c1
  obtain ⟨x7_1, rfl, HA, HK1, HB⟩ := hrel
  cases gk with
  | zero => exact absurd HA.out (by simp [impl_RulesOk.l0])
  | succ k1 =>
   have H := HA.out
   clear HA
   simp only [impl_RulesOk.l0] at H
   by_cases c2 : x7_1 < (l0.length : Int)
   ·rw [if_pos c2] at H
    have c2b0 : decide (x7_1 < (l0.length : Int)) = true := decide_eq_true c2
    clear c2
    by_cases c3 : 0 ≤ x7_1
    ·rw [if_pos c3] at H
     have c3b0 : decide (0 ≤ x7_1) = true := decide_eq_true c3
     clear c3
     by_cases c4 : x7_1 < (l0.length : Int)
     ·rw [if_pos c4] at H
      have c4b0 : decide (x7_1 < (l0.length : Int)) = true := decide_eq_true c4
      clear c4
      replace H := Option.bind_eq_some_iff.mp H
      obtain ⟨t372, A50, H⟩ := H
      replace H : (if t372 = true then (if x7_1 > 0 then (if 0 ≤ (wrap64 (x7_1 - 1)) then (if (wrap64 (x7_1 - 1)) < (l0.length : Int) then (if ((rd_T55 l0 (wrap64 (x7_1 - 1))).f0) ≥ ((rd_T55 l0 x7_1).f0) then (some false) else (impl_RulesOk.l0 k1 l0 l0 (l0.length : Int) (wrap64 (x7_1 + 1)))) else (none)) else (none)) else (impl_RulesOk.l0 k1 l0 l0 (l0.length : Int) (wrap64 (x7_1 + 1)))) else (some false)) = some r := H
      have A5 := Gv.a0 A50
      clear A50
      by_cases c6 : t372 = true
      ·subst c6
       have H1 : (if x7_1 > 0 then (if 0 ≤ (wrap64 (x7_1 - 1)) then (if (wrap64 (x7_1 - 1)) < (l0.length : Int) then (if ((rd_T55 l0 (wrap64 (x7_1 - 1))).f0) ≥ ((rd_T55 l0 x7_1).f0) then (some false) else (impl_RulesOk.l0 k1 l0 l0 (l0.length : Int) (wrap64 (x7_1 + 1)))) else (none)) else (none)) else (impl_RulesOk.l0 k1 l0 l0 (l0.length : Int) (wrap64 (x7_1 + 1)))) = some r := by rw [if_pos rfl] at H; exact H
       clear H
       have H := H1
       clear H1
       by_cases c7 : x7_1 > 0
       ·rw [if_pos c7] at H
        have c7b0 : decide (0 < x7_1) = true := decide_eq_true c7
        clear c7
        obtain ⟨ji8, hji8⟩ : ∃ j_ : Int, (wrap64 (x7_1 - 1)) = j_ := ⟨_, rfl⟩
        replace H : (if 0 ≤ (ji8) then (if (ji8) < (l0.length : Int) then (if ((rd_T55 l0 (ji8)).f0) ≥ ((rd_T55 l0 x7_1).f0) then (some false) else (impl_RulesOk.l0 k1 l0 l0 (l0.length : Int) (wrap64 (x7_1 + 1)))) else (none)) else (none)) = some r := by first | (rw [hji8] at H; exact H) | (simp only [hji8] at H ⊢; exact H)
        (try rw [hji8] at A5)
        have hji8w : (IntKind.i64.wrap (x7_1 - 1)) = ji8 := (i64_w _).trans hji8
        by_cases c9 : 0 ≤ (ji8)
        ·rw [if_pos c9] at H
         have c9b0 : decide (0 ≤ (ji8)) = true := decide_eq_true c9
         clear c9
         by_cases c10 : (ji8) < (l0.length : Int)
         ·rw [if_pos c10] at H
          have c10b0 : decide ((ji8) < (l0.length : Int)) = true := decide_eq_true c10
          clear c10
          by_cases c11 : ((rd_T55 l0 (ji8)).f0) ≥ ((rd_T55 l0 x7_1).f0)
          ·rw [if_pos c11] at H
           have c11b0 : decide (((rd_T55 l0 x7_1).f0) ≤ ((rd_T55 l0 (ji8)).f0)) = true := decide_eq_true c11
           clear c11
           obtain rfl := Option.some.inj H
           have p370 : 0 ≤ (x7_1 : Int) := of_decide_eq_true (by first | (with_reducible assumption) | assumption)
           have q370 : x7_1 < (l0.length : Int) := of_decide_eq_true (by first | (with_reducible assumption) | assumption)
           obtain ⟨ad370, e370, hx370_0, hx370_1, hx370_2, hx370_3, hx370_4, hx370_5, hx370_6, hx370_7, hx370_8, hx370_9, hx370_10, hx370_11, hx370_12, hx370_13, hx370_14, hx370_15, hx370_16, hx370_17, hx370_18, hx370_19, hx370_20⟩ := at_T55 HR0.out x7_1 p370 q370
           cases e370
           replace hx370_0 := Gv.bx HB.out hx370_0
           replace hx370_1 := Gv.bx HB.out hx370_1
           replace hx370_2 := Gv.bx HB.out hx370_2
           replace hx370_3 := Gv.bx HB.out hx370_3
           replace hx370_4 := Gv.bx HB.out hx370_4
           replace hx370_5 := Gv.bx HB.out hx370_5
           replace hx370_6 := Gv.bx HB.out hx370_6
           replace hx370_7 := Gv.bx HB.out hx370_7
           replace hx370_8 := Gv.bx HB.out hx370_8
           replace hx370_9 := Gv.bx HB.out hx370_9
           replace hx370_10 := Gv.bx HB.out hx370_10
           replace hx370_11 := Gv.bx HB.out hx370_11
           replace hx370_12 := Gv.bx HB.out hx370_12
           replace hx370_13 := Gv.bx HB.out hx370_13
           replace hx370_14 := Gv.bx HB.out hx370_14
           replace hx370_15 := Gv.bx HB.out hx370_15
           replace hx370_16 := Gv.bx HB.out hx370_16
           replace hx370_17 := Gv.bx HB.out hx370_17
           replace hx370_18 := Gv.bx HB.out hx370_18
           replace hx370_19 := Gv.bx HB.out hx370_19
           replace hx370_20 := Gv.bx HB.out hx370_20
           replace p370 := eq_true p370
           replace q370 := eq_true q370
           try go_wp2_with (first | ((with_reducible refine gate_dst (N := 4) rfl ?_); refine box_event ?hg (N := 4) ?hd (cs := #[.int .i64 0, .int .i64 0, .int .i64 0, .int .i64 0, .int .i64 0, .int .i64 0, .int .i64 0, .int .i64 0, .int .i64 0, .int .i64 0, .int .i64 0, .int .i64 0, .int .i64 0, .int .i64 0, .int .i64 0, .int .i64 0, .int .i64 0, .int .i64 0, .int .i64 0, .int .i64 0, .int .i64 0]) (t := 55) ?hr ?_; (case hd => rfl); (case hg => rfl); (case hr => first | (go_simp; done) | (go_simp; rfl)); intro gb371 hg w12 hbox hb; have n0_ := Gv.a0 (below_step Gv.bw hb); have n1_ := Gv.a0 (hbox); have n2_ := Gv.a0 ((Gv.ble hg Gv.bw : w.heap.size ≤ gb371)); have n3_ := Gv.a0 ((Gv.ble hg Gv.bw : w.heap.size ≤ gb371)); clear HB; have HB := n0_; have BK371 := n1_; have GW371 := n2_; have GE371 := n3_; clear n0_ n1_ n2_ n3_; clear hb hbox hg; obtain ⟨hcz13_0, hcz13_1, hcz13_2, hcz13_3, hcz13_4, hcz13_5, hcz13_6, hcz13_7, hcz13_8, hcz13_9, hcz13_10, hcz13_11, hcz13_12, hcz13_13, hcz13_14, hcz13_15, hcz13_16, hcz13_17, hcz13_18, hcz13_19, hcz13_20⟩ := Gv.c21 BK371.out; obtain ⟨hfz13_0, hfz13_1, hfz13_2, hfz13_3, hfz13_4, hfz13_5, hfz13_6, hfz13_7, hfz13_8, hfz13_9, hfz13_10, hfz13_11, hfz13_12, hfz13_13, hfz13_14, hfz13_15, hfz13_16, hfz13_17, hfz13_18, hfz13_19, hfz13_20⟩ := Gv.f21 BK371.out) | ((with_reducible refine gate_store (t := 55) (p := 4) rfl ?_); refine Gv.store_event rfl rfl rfl rfl rfl (Gv.kb BK371.out) (by kernel_rfl) rfl (by simp; and_intros <;> rfl) ?_; intro w12s hbox hoth hbel; have n0_ := Gv.a0 (hbox); have n1_ := Gv.a0 (hbel w Gv.bw GE371.out); clear BK371 HB; have BK371 := n0_; have HB := n1_; clear n0_ n1_ hbox hoth hbel; (try clear hcz13_0 hcz13_1 hcz13_2 hcz13_3 hcz13_4 hcz13_5 hcz13_6 hcz13_7 hcz13_8 hcz13_9 hcz13_10 hcz13_11 hcz13_12 hcz13_13 hcz13_14 hcz13_15 hcz13_16 hcz13_17 hcz13_18 hcz13_19 hcz13_20 hfz13_0 hfz13_1 hfz13_2 hfz13_3 hfz13_4 hfz13_5 hfz13_6 hfz13_7 hfz13_8 hfz13_9 hfz13_10 hfz13_11 hfz13_12 hfz13_13 hfz13_14 hfz13_15 hfz13_16 hfz13_17 hfz13_18 hfz13_19 hfz13_20); obtain ⟨hcz13_0, hcz13_1, hcz13_2, hcz13_3, hcz13_4, hcz13_5, hcz13_6, hcz13_7, hcz13_8, hcz13_9, hcz13_10, hcz13_11, hcz13_12, hcz13_13, hcz13_14, hcz13_15, hcz13_16, hcz13_17, hcz13_18, hcz13_19, hcz13_20⟩ := Gv.c21 BK371.out; obtain ⟨hfz13_0, hfz13_1, hfz13_2, hfz13_3, hfz13_4, hfz13_5, hfz13_6, hfz13_7, hfz13_8, hfz13_9, hfz13_10, hfz13_11, hfz13_12, hfz13_13, hfz13_14, hfz13_15, hfz13_16, hfz13_17, hfz13_18, hfz13_19, hfz13_20⟩ := Gv.f21 BK371.out) | ((with_reducible refine Gv.gate_load (t := 55) rfl ?_); (try (refine gate_guard (by rfl) ?_; dsimp only)); refine wpList_load_row rfl 55 _ rfl gb371 rfl 55 _ _ _ (by first | exact Gv.kb0 BK371.out | exact Gv.kb1 (Gv.kb0 BK371.out)) Try.underlying55 rfl (by kernel_rfl) ?_) | ((with_reducible refine Gv.gate_load (t := 55) rfl ?_); refine Gv.load_event (cs := [_, _, _, _, _, _, _, _, _, _, _, _, _, _, _, _, _, _, _, _, _]) rfl rfl rfl ⟨hx370_0, hx370_1, hx370_2, hx370_3, hx370_4, hx370_5, hx370_6, hx370_7, hx370_8, hx370_9, hx370_10, hx370_11, hx370_12, hx370_13, hx370_14, hx370_15, hx370_16, hx370_17, hx370_18, hx370_19, hx370_20, trivial⟩ Try.underlying55 rfl (by kernel_rfl) ?_))
           have n0_ := Gv.a0 (blk_drew BK371.out)
           have n1_ := Gv.a0 (below_drew1 HB.out)
           clear BK371
           clear HB
           have BK371 := n0_
           have HB := n1_
           clear n0_ n1_
           have p373 : 0 ≤ ((ji8) : Int) := of_decide_eq_true (by first | (with_reducible assumption) | assumption)
           have q373 : (ji8) < (l0.length : Int) := of_decide_eq_true (by first | (with_reducible assumption) | assumption)
           obtain ⟨ad373, e373, hx373_0, _, _, _, _, _, _, _, _, _, _, _, _, _, _, _, _, _, _, _, _⟩ := at_T55 HR0.out (ji8) p373 q373
           have hw373_0 := hx373_0
           obtain rfl : ad370 = ad373 := (by injection e373)
           replace hx373_0 := Gv.bx HB.out hx373_0
           replace p373 := eq_true p373
           replace q373 := eq_true q373
           refine start_ (n := 18) (S := fun w' => w'.cell? ⟨gb371, 0, none⟩ = some (.int .i64 ((rd_T55 l0 x7_1).f0)) ∧ w'.cell? ⟨gb371, 1, none⟩ = some (.int .i64 ((rd_T55 l0 x7_1).f1.f0.f0)) ∧ w'.cell? ⟨gb371, 2, none⟩ = some (.int .i64 ((rd_T55 l0 x7_1).f1.f0.f1)) ∧ w'.cell? ⟨gb371, 3, none⟩ = some (.int .i64 ((rd_T55 l0 x7_1).f1.f0.f2)) ∧ w'.cell? ⟨gb371, 4, none⟩ = some (.int .i64 ((rd_T55 l0 x7_1).f1.f0.f3)) ∧ w'.cell? ⟨gb371, 5, none⟩ = some (.int .i64 ((rd_T55 l0 x7_1).f1.f0.f4)) ∧ w'.cell? ⟨gb371, 6, none⟩ = some (.int .i64 ((rd_T55 l0 x7_1).f1.f1)) ∧ w'.cell? ⟨gb371, 7, none⟩ = some (.int .i64 ((rd_T55 l0 x7_1).f2.f0.f0)) ∧ w'.cell? ⟨gb371, 8, none⟩ = some (.int .i64 ((rd_T55 l0 x7_1).f2.f0.f1)) ∧ w'.cell? ⟨gb371, 9, none⟩ = some (.int .i64 ((rd_T55 l0 x7_1).f2.f0.f2)) ∧ w'.cell? ⟨gb371, 10, none⟩ = some (.int .i64 ((rd_T55 l0 x7_1).f2.f0.f3)) ∧ w'.cell? ⟨gb371, 11, none⟩ = some (.int .i64 ((rd_T55 l0 x7_1).f2.f0.f4)) ∧ w'.cell? ⟨gb371, 12, none⟩ = some (.int .i64 ((rd_T55 l0 x7_1).f2.f1)) ∧ w'.cell? ⟨gb371, 13, none⟩ = some (.int .i64 ((rd_T55 l0 x7_1).f3)) ∧ w'.cell? ⟨gb371, 14, none⟩ = some (.int .i64 ((rd_T55 l0 x7_1).f4)) ∧ w'.cell? ⟨gb371, 15, none⟩ = some (.int .i64 ((rd_T55 l0 x7_1).f5)) ∧ w'.cell? ⟨gb371, 16, none⟩ = some (.int .i64 ((rd_T55 l0 x7_1).f6)) ∧ w'.cell? ⟨gb371, 17, none⟩ = some (.int .i64 ((rd_T55 l0 x7_1).f7)) ∧ w'.cell? ⟨gb371, 18, none⟩ = some (.int .i64 ((rd_T55 l0 x7_1).f8)) ∧ w'.cell? ⟨gb371, 19, none⟩ = some (.int .i64 ((rd_T55 l0 x7_1).f9)) ∧ w'.cell? ⟨gb371, 20, none⟩ = some (.int .i64 ((rd_T55 l0 x7_1).f10)) ∧ w'.cell? (ad370.add (((ji8)).toNat * 21)) = some (.int .i64 ((rd_T55 l0 (ji8)).f0))) (ds := []) #[false, false, false, false, false, false, false, false, false, false, false, false, false, false, false, false, false, false] (by kernel_rfl) rfl rfl ⟨(blk_cell BK371.out 0).trans rfl, (blk_cell BK371.out 1).trans rfl, (blk_cell BK371.out 2).trans rfl, (blk_cell BK371.out 3).trans rfl, (blk_cell BK371.out 4).trans rfl, (blk_cell BK371.out 5).trans rfl, (blk_cell BK371.out 6).trans rfl, (blk_cell BK371.out 7).trans rfl, (blk_cell BK371.out 8).trans rfl, (blk_cell BK371.out 9).trans rfl, (blk_cell BK371.out 10).trans rfl, (blk_cell BK371.out 11).trans rfl, (blk_cell BK371.out 12).trans rfl, (blk_cell BK371.out 13).trans rfl, (blk_cell BK371.out 14).trans rfl, (blk_cell BK371.out 15).trans rfl, (blk_cell BK371.out 16).trans rfl, (blk_cell BK371.out 17).trans rfl, (blk_cell BK371.out 18).trans rfl, (blk_cell BK371.out 19).trans rfl, (blk_cell BK371.out 20).trans rfl, (Gv.bx HB.out hw373_0)⟩ (fun hHeld => ?_); refine with_tabW impl_RulesOk.tab4 impl_RulesOk.bits4 (fun HT_ HW_ => ?_)
           generalize w12s.drew = w15 at BK371 HB hx373_0 hHeld ⊢
           refine take_ (i := 0) (N := some 12) (v := ?_) (a' := ?_) #[true, false, false, false, false, false, false, false, false, false, false, false, false, false, false, false, false, false] rfl rfl (take_ofW HT_.out HW_.out (by kernel_rfl)) (fun _ _ _ h => h) (Or.inl ⟨by rfl, ?_⟩) hHeld ?_ ?_
           rotate_left
           ·rintro w' ⟨s0, s1, s2, s3, s4, s5, s6, s7, s8, s9, s10, s11, s12, s13, s14, s15, s16, s17, s18, s19, s20, s21⟩
            first | ((refine Gv.load_run (t := 55) (A := ⟨gb371, 0, none⟩) (cs := [_, _, _, _, _, _, _, _, _, _, _, _, _, _, _, _, _, _, _, _, _]) (x := ?xx23_) ?ho23_ ?hx23_ ⟨s0, s1, s2, s3, s4, s5, s6, s7, s8, s9, s10, s11, s12, s13, s14, s15, s16, s17, s18, s19, s20, trivial⟩ Try.underlying55 rfl (by kernel_rfl)); (case ho23_ => rfl); (case hx23_ => rfl)) | (go_simp; with_reducible rfl)
           rotate_left
           ·simp only [Act.put, List.setIfInBounds_toArray, List.set_cons_zero, List.set_cons_succ, i64_w, i32_w]
            rfl
           refine one_ (i := 1) (N := some 13) #[true, true, false, false, false, false, false, false, false, false, false, false, false, false, false, false, false, false] rfl rfl (one_of HT_.out (by kernel_rfl)) (by decide) (fun K hK => ?_)
           refine goes_ Try.func29 (by kernel_rfl) rfl #[.agg #[.int .i64 ((rd_T55 l0 x7_1).f0), .int .i64 ((rd_T55 l0 x7_1).f1.f0.f0), .int .i64 ((rd_T55 l0 x7_1).f1.f0.f1), .int .i64 ((rd_T55 l0 x7_1).f1.f0.f2), .int .i64 ((rd_T55 l0 x7_1).f1.f0.f3), .int .i64 ((rd_T55 l0 x7_1).f1.f0.f4), .int .i64 ((rd_T55 l0 x7_1).f1.f1), .int .i64 ((rd_T55 l0 x7_1).f2.f0.f0), .int .i64 ((rd_T55 l0 x7_1).f2.f0.f1), .int .i64 ((rd_T55 l0 x7_1).f2.f0.f2), .int .i64 ((rd_T55 l0 x7_1).f2.f0.f3), .int .i64 ((rd_T55 l0 x7_1).f2.f0.f4), .int .i64 ((rd_T55 l0 x7_1).f2.f1), .int .i64 ((rd_T55 l0 x7_1).f3), .int .i64 ((rd_T55 l0 x7_1).f4), .int .i64 ((rd_T55 l0 x7_1).f5), .int .i64 ((rd_T55 l0 x7_1).f6), .int .i64 ((rd_T55 l0 x7_1).f7), .int .i64 ((rd_T55 l0 x7_1).f8), .int .i64 ((rd_T55 l0 x7_1).f9), .int .i64 ((rd_T55 l0 x7_1).f10)]] (by rfl) rfl rfl Gv.lm ?_
           with_reducible refine (impl_RuleOk.calls k1 ((rd_T55 l0 x7_1).f0) ((rd_T55 l0 x7_1).f1.f0.f0) ((rd_T55 l0 x7_1).f1.f0.f1) ((rd_T55 l0 x7_1).f1.f0.f2) ((rd_T55 l0 x7_1).f1.f0.f3) ((rd_T55 l0 x7_1).f1.f0.f4) ((rd_T55 l0 x7_1).f1.f1) ((rd_T55 l0 x7_1).f2.f0.f0) ((rd_T55 l0 x7_1).f2.f0.f1) ((rd_T55 l0 x7_1).f2.f0.f2) ((rd_T55 l0 x7_1).f2.f0.f3) ((rd_T55 l0 x7_1).f2.f0.f4) ((rd_T55 l0 x7_1).f2.f1) ((rd_T55 l0 x7_1).f3) ((rd_T55 l0 x7_1).f4) ((rd_T55 l0 x7_1).f5) ((rd_T55 l0 x7_1).f6) ((rd_T55 l0 x7_1).f7) ((rd_T55 l0 x7_1).f8) ((rd_T55 l0 x7_1).f9) ((rd_T55 l0 x7_1).f10) true _ A5.out).mono ?_
           rintro e w16 ⟨rfl, hb⟩
           refine ⟨_, rfl, ?_⟩
           have n0_ := Gv.a0 (Gv.bb BK371.out hb)
           have n1_ := Gv.a0 (below_step Gv.bw hb)
           clear BK371
           clear HB
           have BK371 := n0_
           have HB := n1_
           clear n0_ n1_
           (try clear hb)
           (try clear hb2)
           (try clear hk)
           (try clear hi)
           refine hK.out _ _ ⟨(blk_cell BK371.out 0).trans rfl, (blk_cell BK371.out 1).trans rfl, (blk_cell BK371.out 2).trans rfl, (blk_cell BK371.out 3).trans rfl, (blk_cell BK371.out 4).trans rfl, (blk_cell BK371.out 5).trans rfl, (blk_cell BK371.out 6).trans rfl, (blk_cell BK371.out 7).trans rfl, (blk_cell BK371.out 8).trans rfl, (blk_cell BK371.out 9).trans rfl, (blk_cell BK371.out 10).trans rfl, (blk_cell BK371.out 11).trans rfl, (blk_cell BK371.out 12).trans rfl, (blk_cell BK371.out 13).trans rfl, (blk_cell BK371.out 14).trans rfl, (blk_cell BK371.out 15).trans rfl, (blk_cell BK371.out 16).trans rfl, (blk_cell BK371.out 17).trans rfl, (blk_cell BK371.out 18).trans rfl, (blk_cell BK371.out 19).trans rfl, (blk_cell BK371.out 20).trans rfl, (Gv.bx HB.out hw373_0)⟩ (fun hHeld => ?_)
           clear hK K
           refine norm_ (a' := ?_) ?_ ?_
           rotate_left
           ·show Act.put _ (some 13) _ = _
            simp only [Act.put, List.setIfInBounds_toArray, List.set_cons_zero, List.set_cons_succ, i64_w, i32_w]
            rfl
           refine Gv.pu 2 (some 14) HT_ ?_
           refine Gv.pu 3 (some 15) HT_ ?_
           refine Gv.pu 4 (some 16) HT_ ?_
           refine Gv.pu 5 (some 17) HT_ ?_
           refine Gv.pu 6 (some 18) HT_ ?_
           refine Gv.pu 7 (some 19) HT_ ?_
           refine Gv.pu 8 (some 20) HT_ ?_
           refine Gv.pu 9 (some 21) HT_ ?_
           refine Gv.pu 10 (some 22) HT_ ?_
           refine Gv.pu 11 (some 23) HT_ ?_
           refine Gv.pu 13 (some 25) HT_ ?_
           refine take_ (i := 12) (N := some 24) (v := ?_) (a' := ?_) #[true, true, true, true, true, true, true, true, true, true, true, true, true, true, false, false, false, false] rfl rfl (take_ofW HT_.out HW_.out (by kernel_rfl)) (fun _ _ _ h => h) (Or.inl ⟨by rfl, ?_⟩) hHeld ?_ ?_
           rotate_left
           ·rintro w' ⟨s0, s1, s2, s3, s4, s5, s6, s7, s8, s9, s10, s11, s12, s13, s14, s15, s16, s17, s18, s19, s20, s21⟩
            first | ((refine Gv.load_run (t := 55) (A := ⟨gb371, 0, none⟩) (cs := [_, _, _, _, _, _, _, _, _, _, _, _, _, _, _, _, _, _, _, _, _]) (x := ?xx25_) ?ho25_ ?hx25_ ⟨s0, s1, s2, s3, s4, s5, s6, s7, s8, s9, s10, s11, s12, s13, s14, s15, s16, s17, s18, s19, s20, trivial⟩ Try.underlying55 rfl (by kernel_rfl)); (case ho25_ => rfl); (case hx25_ => rfl)) | (go_simp; with_reducible rfl)
           rotate_left
           ·simp only [Act.put, List.setIfInBounds_toArray, List.set_cons_zero, List.set_cons_succ, i64_w, i32_w]
            rfl
           refine take_ (i := 14) (N := some 26) (v := ?_) (a' := ?_) #[true, true, true, true, true, true, true, true, true, true, true, true, true, true, true, false, false, false] rfl rfl (take_ofW HT_.out HW_.out (by kernel_rfl)) (fun _ _ _ h => h) (Or.inl ⟨by rfl, ?_⟩) hHeld ?_ ?_
           rotate_left
           ·rintro w' ⟨s0, s1, s2, s3, s4, s5, s6, s7, s8, s9, s10, s11, s12, s13, s14, s15, s16, s17, s18, s19, s20, s21⟩
            first | ((refine Gv.load_run (t := 55) (A := ⟨gb371, 0, none⟩) (cs := [_, _, _, _, _, _, _, _, _, _, _, _, _, _, _, _, _, _, _, _, _]) (x := ?xx27_) ?ho27_ ?hx27_ ⟨s0, s1, s2, s3, s4, s5, s6, s7, s8, s9, s10, s11, s12, s13, s14, s15, s16, s17, s18, s19, s20, trivial⟩ Try.underlying55 rfl (by kernel_rfl)); (case ho27_ => rfl); (case hx27_ => rfl)) | (go_simp; with_reducible rfl)
           rotate_left
           ·simp only [Act.put, List.setIfInBounds_toArray, List.set_cons_zero, List.set_cons_succ, i64_w, i32_w]
            rfl
           refine Gv.pu 15 (some 27) HT_ ?_
           refine Gv.pu 16 (some 28) HT_ ?_
           refine Gv.pu 17 (some 29) HT_ ?_
           refine done_ (done_of HT_.out (by kernel_rfl)) ?_
           try go_wp2
           go_ret
           exact ⟨by first | rfl | (simp [errW_none, errW_some] <;> rfl) | (simp only [← hji8]; first | rfl | (simp [errW_none, errW_some] <;> rfl)) | (simp [*, errW_none, errW_some] <;> rfl), Gv.bw⟩
          ·rw [if_neg c11] at H
           have c11b0 : decide (((rd_T55 l0 x7_1).f0) ≤ ((rd_T55 l0 (ji8)).f0)) = false := decide_eq_false c11
           clear c11
           have H' := Gv.a0 H
           clear H
           have p370 : 0 ≤ (x7_1 : Int) := of_decide_eq_true (by first | (with_reducible assumption) | assumption)
           have q370 : x7_1 < (l0.length : Int) := of_decide_eq_true (by first | (with_reducible assumption) | assumption)
           obtain ⟨ad370, e370, hx370_0, hx370_1, hx370_2, hx370_3, hx370_4, hx370_5, hx370_6, hx370_7, hx370_8, hx370_9, hx370_10, hx370_11, hx370_12, hx370_13, hx370_14, hx370_15, hx370_16, hx370_17, hx370_18, hx370_19, hx370_20⟩ := at_T55 HR0.out x7_1 p370 q370
           cases e370
           replace hx370_0 := Gv.bx HB.out hx370_0
           replace hx370_1 := Gv.bx HB.out hx370_1
           replace hx370_2 := Gv.bx HB.out hx370_2
           replace hx370_3 := Gv.bx HB.out hx370_3
           replace hx370_4 := Gv.bx HB.out hx370_4
           replace hx370_5 := Gv.bx HB.out hx370_5
           replace hx370_6 := Gv.bx HB.out hx370_6
           replace hx370_7 := Gv.bx HB.out hx370_7
           replace hx370_8 := Gv.bx HB.out hx370_8
           replace hx370_9 := Gv.bx HB.out hx370_9
           replace hx370_10 := Gv.bx HB.out hx370_10
           replace hx370_11 := Gv.bx HB.out hx370_11
           replace hx370_12 := Gv.bx HB.out hx370_12
           replace hx370_13 := Gv.bx HB.out hx370_13
           replace hx370_14 := Gv.bx HB.out hx370_14
           replace hx370_15 := Gv.bx HB.out hx370_15
           replace hx370_16 := Gv.bx HB.out hx370_16
           replace hx370_17 := Gv.bx HB.out hx370_17
           replace hx370_18 := Gv.bx HB.out hx370_18
           replace hx370_19 := Gv.bx HB.out hx370_19
           replace hx370_20 := Gv.bx HB.out hx370_20
           replace p370 := eq_true p370
           replace q370 := eq_true q370
           try go_wp2_with (first | ((with_reducible refine gate_dst (N := 4) rfl ?_); refine box_event ?hg (N := 4) ?hd (cs := #[.int .i64 0, .int .i64 0, .int .i64 0, .int .i64 0, .int .i64 0, .int .i64 0, .int .i64 0, .int .i64 0, .int .i64 0, .int .i64 0, .int .i64 0, .int .i64 0, .int .i64 0, .int .i64 0, .int .i64 0, .int .i64 0, .int .i64 0, .int .i64 0, .int .i64 0, .int .i64 0, .int .i64 0]) (t := 55) ?hr ?_; (case hd => rfl); (case hg => rfl); (case hr => first | (go_simp; done) | (go_simp; rfl)); intro gb371 hg w17 hbox hb; have n0_ := Gv.a0 (below_step Gv.bw hb); have n1_ := Gv.a0 (hbox); have n2_ := Gv.a0 ((Gv.ble hg Gv.bw : w.heap.size ≤ gb371)); have n3_ := Gv.a0 ((Gv.ble hg Gv.bw : w.heap.size ≤ gb371)); clear HB; have HB := n0_; have BK371 := n1_; have GW371 := n2_; have GE371 := n3_; clear n0_ n1_ n2_ n3_; clear hb hbox hg; obtain ⟨hcz18_0, hcz18_1, hcz18_2, hcz18_3, hcz18_4, hcz18_5, hcz18_6, hcz18_7, hcz18_8, hcz18_9, hcz18_10, hcz18_11, hcz18_12, hcz18_13, hcz18_14, hcz18_15, hcz18_16, hcz18_17, hcz18_18, hcz18_19, hcz18_20⟩ := Gv.c21 BK371.out; obtain ⟨hfz18_0, hfz18_1, hfz18_2, hfz18_3, hfz18_4, hfz18_5, hfz18_6, hfz18_7, hfz18_8, hfz18_9, hfz18_10, hfz18_11, hfz18_12, hfz18_13, hfz18_14, hfz18_15, hfz18_16, hfz18_17, hfz18_18, hfz18_19, hfz18_20⟩ := Gv.f21 BK371.out) | ((with_reducible refine gate_store (t := 55) (p := 4) rfl ?_); refine Gv.store_event rfl rfl rfl rfl rfl (Gv.kb BK371.out) (by kernel_rfl) rfl (by simp; and_intros <;> rfl) ?_; intro w17s hbox hoth hbel; have n0_ := Gv.a0 (hbox); have n1_ := Gv.a0 (hbel w Gv.bw GE371.out); clear BK371 HB; have BK371 := n0_; have HB := n1_; clear n0_ n1_ hbox hoth hbel; (try clear hcz18_0 hcz18_1 hcz18_2 hcz18_3 hcz18_4 hcz18_5 hcz18_6 hcz18_7 hcz18_8 hcz18_9 hcz18_10 hcz18_11 hcz18_12 hcz18_13 hcz18_14 hcz18_15 hcz18_16 hcz18_17 hcz18_18 hcz18_19 hcz18_20 hfz18_0 hfz18_1 hfz18_2 hfz18_3 hfz18_4 hfz18_5 hfz18_6 hfz18_7 hfz18_8 hfz18_9 hfz18_10 hfz18_11 hfz18_12 hfz18_13 hfz18_14 hfz18_15 hfz18_16 hfz18_17 hfz18_18 hfz18_19 hfz18_20); obtain ⟨hcz18_0, hcz18_1, hcz18_2, hcz18_3, hcz18_4, hcz18_5, hcz18_6, hcz18_7, hcz18_8, hcz18_9, hcz18_10, hcz18_11, hcz18_12, hcz18_13, hcz18_14, hcz18_15, hcz18_16, hcz18_17, hcz18_18, hcz18_19, hcz18_20⟩ := Gv.c21 BK371.out; obtain ⟨hfz18_0, hfz18_1, hfz18_2, hfz18_3, hfz18_4, hfz18_5, hfz18_6, hfz18_7, hfz18_8, hfz18_9, hfz18_10, hfz18_11, hfz18_12, hfz18_13, hfz18_14, hfz18_15, hfz18_16, hfz18_17, hfz18_18, hfz18_19, hfz18_20⟩ := Gv.f21 BK371.out) | ((with_reducible refine Gv.gate_load (t := 55) rfl ?_); (try (refine gate_guard (by rfl) ?_; dsimp only)); refine wpList_load_row rfl 55 _ rfl gb371 rfl 55 _ _ _ (by first | exact Gv.kb0 BK371.out | exact Gv.kb1 (Gv.kb0 BK371.out)) Try.underlying55 rfl (by kernel_rfl) ?_) | ((with_reducible refine Gv.gate_load (t := 55) rfl ?_); refine Gv.load_event (cs := [_, _, _, _, _, _, _, _, _, _, _, _, _, _, _, _, _, _, _, _, _]) rfl rfl rfl ⟨hx370_0, hx370_1, hx370_2, hx370_3, hx370_4, hx370_5, hx370_6, hx370_7, hx370_8, hx370_9, hx370_10, hx370_11, hx370_12, hx370_13, hx370_14, hx370_15, hx370_16, hx370_17, hx370_18, hx370_19, hx370_20, trivial⟩ Try.underlying55 rfl (by kernel_rfl) ?_))
           have n0_ := Gv.a0 (blk_drew BK371.out)
           have n1_ := Gv.a0 (below_drew1 HB.out)
           clear BK371
           clear HB
           have BK371 := n0_
           have HB := n1_
           clear n0_ n1_
           have p373 : 0 ≤ ((ji8) : Int) := of_decide_eq_true (by first | (with_reducible assumption) | assumption)
           have q373 : (ji8) < (l0.length : Int) := of_decide_eq_true (by first | (with_reducible assumption) | assumption)
           obtain ⟨ad373, e373, hx373_0, _, _, _, _, _, _, _, _, _, _, _, _, _, _, _, _, _, _, _, _⟩ := at_T55 HR0.out (ji8) p373 q373
           have hw373_0 := hx373_0
           obtain rfl : ad370 = ad373 := (by injection e373)
           replace hx373_0 := Gv.bx HB.out hx373_0
           replace p373 := eq_true p373
           replace q373 := eq_true q373
           refine start_ (n := 18) (S := fun w' => w'.cell? ⟨gb371, 0, none⟩ = some (.int .i64 ((rd_T55 l0 x7_1).f0)) ∧ w'.cell? ⟨gb371, 1, none⟩ = some (.int .i64 ((rd_T55 l0 x7_1).f1.f0.f0)) ∧ w'.cell? ⟨gb371, 2, none⟩ = some (.int .i64 ((rd_T55 l0 x7_1).f1.f0.f1)) ∧ w'.cell? ⟨gb371, 3, none⟩ = some (.int .i64 ((rd_T55 l0 x7_1).f1.f0.f2)) ∧ w'.cell? ⟨gb371, 4, none⟩ = some (.int .i64 ((rd_T55 l0 x7_1).f1.f0.f3)) ∧ w'.cell? ⟨gb371, 5, none⟩ = some (.int .i64 ((rd_T55 l0 x7_1).f1.f0.f4)) ∧ w'.cell? ⟨gb371, 6, none⟩ = some (.int .i64 ((rd_T55 l0 x7_1).f1.f1)) ∧ w'.cell? ⟨gb371, 7, none⟩ = some (.int .i64 ((rd_T55 l0 x7_1).f2.f0.f0)) ∧ w'.cell? ⟨gb371, 8, none⟩ = some (.int .i64 ((rd_T55 l0 x7_1).f2.f0.f1)) ∧ w'.cell? ⟨gb371, 9, none⟩ = some (.int .i64 ((rd_T55 l0 x7_1).f2.f0.f2)) ∧ w'.cell? ⟨gb371, 10, none⟩ = some (.int .i64 ((rd_T55 l0 x7_1).f2.f0.f3)) ∧ w'.cell? ⟨gb371, 11, none⟩ = some (.int .i64 ((rd_T55 l0 x7_1).f2.f0.f4)) ∧ w'.cell? ⟨gb371, 12, none⟩ = some (.int .i64 ((rd_T55 l0 x7_1).f2.f1)) ∧ w'.cell? ⟨gb371, 13, none⟩ = some (.int .i64 ((rd_T55 l0 x7_1).f3)) ∧ w'.cell? ⟨gb371, 14, none⟩ = some (.int .i64 ((rd_T55 l0 x7_1).f4)) ∧ w'.cell? ⟨gb371, 15, none⟩ = some (.int .i64 ((rd_T55 l0 x7_1).f5)) ∧ w'.cell? ⟨gb371, 16, none⟩ = some (.int .i64 ((rd_T55 l0 x7_1).f6)) ∧ w'.cell? ⟨gb371, 17, none⟩ = some (.int .i64 ((rd_T55 l0 x7_1).f7)) ∧ w'.cell? ⟨gb371, 18, none⟩ = some (.int .i64 ((rd_T55 l0 x7_1).f8)) ∧ w'.cell? ⟨gb371, 19, none⟩ = some (.int .i64 ((rd_T55 l0 x7_1).f9)) ∧ w'.cell? ⟨gb371, 20, none⟩ = some (.int .i64 ((rd_T55 l0 x7_1).f10)) ∧ w'.cell? (ad370.add (((ji8)).toNat * 21)) = some (.int .i64 ((rd_T55 l0 (ji8)).f0))) (ds := []) #[false, false, false, false, false, false, false, false, false, false, false, false, false, false, false, false, false, false] (by kernel_rfl) rfl rfl ⟨(blk_cell BK371.out 0).trans rfl, (blk_cell BK371.out 1).trans rfl, (blk_cell BK371.out 2).trans rfl, (blk_cell BK371.out 3).trans rfl, (blk_cell BK371.out 4).trans rfl, (blk_cell BK371.out 5).trans rfl, (blk_cell BK371.out 6).trans rfl, (blk_cell BK371.out 7).trans rfl, (blk_cell BK371.out 8).trans rfl, (blk_cell BK371.out 9).trans rfl, (blk_cell BK371.out 10).trans rfl, (blk_cell BK371.out 11).trans rfl, (blk_cell BK371.out 12).trans rfl, (blk_cell BK371.out 13).trans rfl, (blk_cell BK371.out 14).trans rfl, (blk_cell BK371.out 15).trans rfl, (blk_cell BK371.out 16).trans rfl, (blk_cell BK371.out 17).trans rfl, (blk_cell BK371.out 18).trans rfl, (blk_cell BK371.out 19).trans rfl, (blk_cell BK371.out 20).trans rfl, (Gv.bx HB.out hw373_0)⟩ (fun hHeld => ?_); refine with_tabW impl_RulesOk.tab4 impl_RulesOk.bits4 (fun HT_ HW_ => ?_)
           generalize w17s.drew = w20 at BK371 HB hx373_0 hHeld ⊢
           refine take_ (i := 0) (N := some 12) (v := ?_) (a' := ?_) #[true, false, false, false, false, false, false, false, false, false, false, false, false, false, false, false, false, false] rfl rfl (take_ofW HT_.out HW_.out (by kernel_rfl)) (fun _ _ _ h => h) (Or.inl ⟨by rfl, ?_⟩) hHeld ?_ ?_
           rotate_left
           ·rintro w' ⟨s0, s1, s2, s3, s4, s5, s6, s7, s8, s9, s10, s11, s12, s13, s14, s15, s16, s17, s18, s19, s20, s21⟩
            first | ((refine Gv.load_run (t := 55) (A := ⟨gb371, 0, none⟩) (cs := [_, _, _, _, _, _, _, _, _, _, _, _, _, _, _, _, _, _, _, _, _]) (x := ?xx29_) ?ho29_ ?hx29_ ⟨s0, s1, s2, s3, s4, s5, s6, s7, s8, s9, s10, s11, s12, s13, s14, s15, s16, s17, s18, s19, s20, trivial⟩ Try.underlying55 rfl (by kernel_rfl)); (case ho29_ => rfl); (case hx29_ => rfl)) | (go_simp; with_reducible rfl)
           rotate_left
           ·simp only [Act.put, List.setIfInBounds_toArray, List.set_cons_zero, List.set_cons_succ, i64_w, i32_w]
            rfl
           refine one_ (i := 1) (N := some 13) #[true, true, false, false, false, false, false, false, false, false, false, false, false, false, false, false, false, false] rfl rfl (one_of HT_.out (by kernel_rfl)) (by decide) (fun K hK => ?_)
           refine goes_ Try.func29 (by kernel_rfl) rfl #[.agg #[.int .i64 ((rd_T55 l0 x7_1).f0), .int .i64 ((rd_T55 l0 x7_1).f1.f0.f0), .int .i64 ((rd_T55 l0 x7_1).f1.f0.f1), .int .i64 ((rd_T55 l0 x7_1).f1.f0.f2), .int .i64 ((rd_T55 l0 x7_1).f1.f0.f3), .int .i64 ((rd_T55 l0 x7_1).f1.f0.f4), .int .i64 ((rd_T55 l0 x7_1).f1.f1), .int .i64 ((rd_T55 l0 x7_1).f2.f0.f0), .int .i64 ((rd_T55 l0 x7_1).f2.f0.f1), .int .i64 ((rd_T55 l0 x7_1).f2.f0.f2), .int .i64 ((rd_T55 l0 x7_1).f2.f0.f3), .int .i64 ((rd_T55 l0 x7_1).f2.f0.f4), .int .i64 ((rd_T55 l0 x7_1).f2.f1), .int .i64 ((rd_T55 l0 x7_1).f3), .int .i64 ((rd_T55 l0 x7_1).f4), .int .i64 ((rd_T55 l0 x7_1).f5), .int .i64 ((rd_T55 l0 x7_1).f6), .int .i64 ((rd_T55 l0 x7_1).f7), .int .i64 ((rd_T55 l0 x7_1).f8), .int .i64 ((rd_T55 l0 x7_1).f9), .int .i64 ((rd_T55 l0 x7_1).f10)]] (by rfl) rfl rfl Gv.lm ?_
           with_reducible refine (impl_RuleOk.calls k1 ((rd_T55 l0 x7_1).f0) ((rd_T55 l0 x7_1).f1.f0.f0) ((rd_T55 l0 x7_1).f1.f0.f1) ((rd_T55 l0 x7_1).f1.f0.f2) ((rd_T55 l0 x7_1).f1.f0.f3) ((rd_T55 l0 x7_1).f1.f0.f4) ((rd_T55 l0 x7_1).f1.f1) ((rd_T55 l0 x7_1).f2.f0.f0) ((rd_T55 l0 x7_1).f2.f0.f1) ((rd_T55 l0 x7_1).f2.f0.f2) ((rd_T55 l0 x7_1).f2.f0.f3) ((rd_T55 l0 x7_1).f2.f0.f4) ((rd_T55 l0 x7_1).f2.f1) ((rd_T55 l0 x7_1).f3) ((rd_T55 l0 x7_1).f4) ((rd_T55 l0 x7_1).f5) ((rd_T55 l0 x7_1).f6) ((rd_T55 l0 x7_1).f7) ((rd_T55 l0 x7_1).f8) ((rd_T55 l0 x7_1).f9) ((rd_T55 l0 x7_1).f10) true _ A5.out).mono ?_
           rintro e w21 ⟨rfl, hb⟩
           refine ⟨_, rfl, ?_⟩
           have n0_ := Gv.a0 (Gv.bb BK371.out hb)
           have n1_ := Gv.a0 (below_step Gv.bw hb)
           clear BK371
           clear HB
           have BK371 := n0_
           have HB := n1_
           clear n0_ n1_
           (try clear hb)
           (try clear hb2)
           (try clear hk)
           (try clear hi)
           refine hK.out _ _ ⟨(blk_cell BK371.out 0).trans rfl, (blk_cell BK371.out 1).trans rfl, (blk_cell BK371.out 2).trans rfl, (blk_cell BK371.out 3).trans rfl, (blk_cell BK371.out 4).trans rfl, (blk_cell BK371.out 5).trans rfl, (blk_cell BK371.out 6).trans rfl, (blk_cell BK371.out 7).trans rfl, (blk_cell BK371.out 8).trans rfl, (blk_cell BK371.out 9).trans rfl, (blk_cell BK371.out 10).trans rfl, (blk_cell BK371.out 11).trans rfl, (blk_cell BK371.out 12).trans rfl, (blk_cell BK371.out 13).trans rfl, (blk_cell BK371.out 14).trans rfl, (blk_cell BK371.out 15).trans rfl, (blk_cell BK371.out 16).trans rfl, (blk_cell BK371.out 17).trans rfl, (blk_cell BK371.out 18).trans rfl, (blk_cell BK371.out 19).trans rfl, (blk_cell BK371.out 20).trans rfl, (Gv.bx HB.out hw373_0)⟩ (fun hHeld => ?_)
           clear hK K
           refine norm_ (a' := ?_) ?_ ?_
           rotate_left
           ·show Act.put _ (some 13) _ = _
            simp only [Act.put, List.setIfInBounds_toArray, List.set_cons_zero, List.set_cons_succ, i64_w, i32_w]
            rfl
           refine Gv.pu 2 (some 14) HT_ ?_
           refine Gv.pu 3 (some 15) HT_ ?_
           refine Gv.pu 4 (some 16) HT_ ?_
           refine Gv.pu 5 (some 17) HT_ ?_
           refine Gv.pu 6 (some 18) HT_ ?_
           refine Gv.pu 7 (some 19) HT_ ?_
           refine Gv.pu 8 (some 20) HT_ ?_
           refine Gv.pu 9 (some 21) HT_ ?_
           refine Gv.pu 10 (some 22) HT_ ?_
           refine Gv.pu 11 (some 23) HT_ ?_
           refine Gv.pu 13 (some 25) HT_ ?_
           refine take_ (i := 12) (N := some 24) (v := ?_) (a' := ?_) #[true, true, true, true, true, true, true, true, true, true, true, true, true, true, false, false, false, false] rfl rfl (take_ofW HT_.out HW_.out (by kernel_rfl)) (fun _ _ _ h => h) (Or.inl ⟨by rfl, ?_⟩) hHeld ?_ ?_
           rotate_left
           ·rintro w' ⟨s0, s1, s2, s3, s4, s5, s6, s7, s8, s9, s10, s11, s12, s13, s14, s15, s16, s17, s18, s19, s20, s21⟩
            first | ((refine Gv.load_run (t := 55) (A := ⟨gb371, 0, none⟩) (cs := [_, _, _, _, _, _, _, _, _, _, _, _, _, _, _, _, _, _, _, _, _]) (x := ?xx31_) ?ho31_ ?hx31_ ⟨s0, s1, s2, s3, s4, s5, s6, s7, s8, s9, s10, s11, s12, s13, s14, s15, s16, s17, s18, s19, s20, trivial⟩ Try.underlying55 rfl (by kernel_rfl)); (case ho31_ => rfl); (case hx31_ => rfl)) | (go_simp; with_reducible rfl)
           rotate_left
           ·simp only [Act.put, List.setIfInBounds_toArray, List.set_cons_zero, List.set_cons_succ, i64_w, i32_w]
            rfl
           refine take_ (i := 14) (N := some 26) (v := ?_) (a' := ?_) #[true, true, true, true, true, true, true, true, true, true, true, true, true, true, true, false, false, false] rfl rfl (take_ofW HT_.out HW_.out (by kernel_rfl)) (fun _ _ _ h => h) (Or.inl ⟨by rfl, ?_⟩) hHeld ?_ ?_
           rotate_left
           ·rintro w' ⟨s0, s1, s2, s3, s4, s5, s6, s7, s8, s9, s10, s11, s12, s13, s14, s15, s16, s17, s18, s19, s20, s21⟩
            first | ((refine Gv.load_run (t := 55) (A := ⟨gb371, 0, none⟩) (cs := [_, _, _, _, _, _, _, _, _, _, _, _, _, _, _, _, _, _, _, _, _]) (x := ?xx33_) ?ho33_ ?hx33_ ⟨s0, s1, s2, s3, s4, s5, s6, s7, s8, s9, s10, s11, s12, s13, s14, s15, s16, s17, s18, s19, s20, trivial⟩ Try.underlying55 rfl (by kernel_rfl)); (case ho33_ => rfl); (case hx33_ => rfl)) | (go_simp; with_reducible rfl)
           rotate_left
           ·simp only [Act.put, List.setIfInBounds_toArray, List.set_cons_zero, List.set_cons_succ, i64_w, i32_w]
            rfl
           refine Gv.pu 15 (some 27) HT_ ?_
           refine Gv.pu 16 (some 28) HT_ ?_
           refine Gv.pu 17 (some 29) HT_ ?_
           refine done_ (done_of HT_.out (by kernel_rfl)) ?_
           try go_wp2
           go_roundg k1
           case measure => have := HK1.out; omega
           case rel => exact ⟨(wrap64 (x7_1 + 1)), Gv.rq, H', ⟨by have := HK1.out; omega⟩, ⟨Gv.bw⟩⟩
         ·rw [if_neg c10] at H
          exact absurd H (by simp)
        ·rw [if_neg c9] at H
         exact absurd H (by simp)
       ·rw [if_neg c7] at H
        have c7b0 : decide (0 < x7_1) = false := decide_eq_false c7
        clear c7
        have H' := Gv.a0 H
        clear H
        have p370 : 0 ≤ (x7_1 : Int) := of_decide_eq_true (by first | (with_reducible assumption) | assumption)
        have q370 : x7_1 < (l0.length : Int) := of_decide_eq_true (by first | (with_reducible assumption) | assumption)
        obtain ⟨ad370, e370, hx370_0, hx370_1, hx370_2, hx370_3, hx370_4, hx370_5, hx370_6, hx370_7, hx370_8, hx370_9, hx370_10, hx370_11, hx370_12, hx370_13, hx370_14, hx370_15, hx370_16, hx370_17, hx370_18, hx370_19, hx370_20⟩ := at_T55 HR0.out x7_1 p370 q370
        cases e370
        replace hx370_0 := Gv.bx HB.out hx370_0
        replace hx370_1 := Gv.bx HB.out hx370_1
        replace hx370_2 := Gv.bx HB.out hx370_2
        replace hx370_3 := Gv.bx HB.out hx370_3
        replace hx370_4 := Gv.bx HB.out hx370_4
        replace hx370_5 := Gv.bx HB.out hx370_5
        replace hx370_6 := Gv.bx HB.out hx370_6
        replace hx370_7 := Gv.bx HB.out hx370_7
        replace hx370_8 := Gv.bx HB.out hx370_8
        replace hx370_9 := Gv.bx HB.out hx370_9
        replace hx370_10 := Gv.bx HB.out hx370_10
        replace hx370_11 := Gv.bx HB.out hx370_11
        replace hx370_12 := Gv.bx HB.out hx370_12
        replace hx370_13 := Gv.bx HB.out hx370_13
        replace hx370_14 := Gv.bx HB.out hx370_14
        replace hx370_15 := Gv.bx HB.out hx370_15
        replace hx370_16 := Gv.bx HB.out hx370_16
        replace hx370_17 := Gv.bx HB.out hx370_17
        replace hx370_18 := Gv.bx HB.out hx370_18
        replace hx370_19 := Gv.bx HB.out hx370_19
        replace hx370_20 := Gv.bx HB.out hx370_20
        replace p370 := eq_true p370
        replace q370 := eq_true q370
        try go_wp2_with (first | ((with_reducible refine gate_dst (N := 4) rfl ?_); refine box_event ?hg (N := 4) ?hd (cs := #[.int .i64 0, .int .i64 0, .int .i64 0, .int .i64 0, .int .i64 0, .int .i64 0, .int .i64 0, .int .i64 0, .int .i64 0, .int .i64 0, .int .i64 0, .int .i64 0, .int .i64 0, .int .i64 0, .int .i64 0, .int .i64 0, .int .i64 0, .int .i64 0, .int .i64 0, .int .i64 0, .int .i64 0]) (t := 55) ?hr ?_; (case hd => rfl); (case hg => rfl); (case hr => first | (go_simp; done) | (go_simp; rfl)); intro gb371 hg w22 hbox hb; have n0_ := Gv.a0 (below_step Gv.bw hb); have n1_ := Gv.a0 (hbox); have n2_ := Gv.a0 ((Gv.ble hg Gv.bw : w.heap.size ≤ gb371)); have n3_ := Gv.a0 ((Gv.ble hg Gv.bw : w.heap.size ≤ gb371)); clear HB; have HB := n0_; have BK371 := n1_; have GW371 := n2_; have GE371 := n3_; clear n0_ n1_ n2_ n3_; clear hb hbox hg; obtain ⟨hcz23_0, hcz23_1, hcz23_2, hcz23_3, hcz23_4, hcz23_5, hcz23_6, hcz23_7, hcz23_8, hcz23_9, hcz23_10, hcz23_11, hcz23_12, hcz23_13, hcz23_14, hcz23_15, hcz23_16, hcz23_17, hcz23_18, hcz23_19, hcz23_20⟩ := Gv.c21 BK371.out; obtain ⟨hfz23_0, hfz23_1, hfz23_2, hfz23_3, hfz23_4, hfz23_5, hfz23_6, hfz23_7, hfz23_8, hfz23_9, hfz23_10, hfz23_11, hfz23_12, hfz23_13, hfz23_14, hfz23_15, hfz23_16, hfz23_17, hfz23_18, hfz23_19, hfz23_20⟩ := Gv.f21 BK371.out) | ((with_reducible refine gate_store (t := 55) (p := 4) rfl ?_); refine Gv.store_event rfl rfl rfl rfl rfl (Gv.kb BK371.out) (by kernel_rfl) rfl (by simp; and_intros <;> rfl) ?_; intro w22s hbox hoth hbel; have n0_ := Gv.a0 (hbox); have n1_ := Gv.a0 (hbel w Gv.bw GE371.out); clear BK371 HB; have BK371 := n0_; have HB := n1_; clear n0_ n1_ hbox hoth hbel; (try clear hcz23_0 hcz23_1 hcz23_2 hcz23_3 hcz23_4 hcz23_5 hcz23_6 hcz23_7 hcz23_8 hcz23_9 hcz23_10 hcz23_11 hcz23_12 hcz23_13 hcz23_14 hcz23_15 hcz23_16 hcz23_17 hcz23_18 hcz23_19 hcz23_20 hfz23_0 hfz23_1 hfz23_2 hfz23_3 hfz23_4 hfz23_5 hfz23_6 hfz23_7 hfz23_8 hfz23_9 hfz23_10 hfz23_11 hfz23_12 hfz23_13 hfz23_14 hfz23_15 hfz23_16 hfz23_17 hfz23_18 hfz23_19 hfz23_20); obtain ⟨hcz23_0, hcz23_1, hcz23_2, hcz23_3, hcz23_4, hcz23_5, hcz23_6, hcz23_7, hcz23_8, hcz23_9, hcz23_10, hcz23_11, hcz23_12, hcz23_13, hcz23_14, hcz23_15, hcz23_16, hcz23_17, hcz23_18, hcz23_19, hcz23_20⟩ := Gv.c21 BK371.out; obtain ⟨hfz23_0, hfz23_1, hfz23_2, hfz23_3, hfz23_4, hfz23_5, hfz23_6, hfz23_7, hfz23_8, hfz23_9, hfz23_10, hfz23_11, hfz23_12, hfz23_13, hfz23_14, hfz23_15, hfz23_16, hfz23_17, hfz23_18, hfz23_19, hfz23_20⟩ := Gv.f21 BK371.out) | ((with_reducible refine Gv.gate_load (t := 55) rfl ?_); (try (refine gate_guard (by rfl) ?_; dsimp only)); refine wpList_load_row rfl 55 _ rfl gb371 rfl 55 _ _ _ (by first | exact Gv.kb0 BK371.out | exact Gv.kb1 (Gv.kb0 BK371.out)) Try.underlying55 rfl (by kernel_rfl) ?_) | ((with_reducible refine Gv.gate_load (t := 55) rfl ?_); refine Gv.load_event (cs := [_, _, _, _, _, _, _, _, _, _, _, _, _, _, _, _, _, _, _, _, _]) rfl rfl rfl ⟨hx370_0, hx370_1, hx370_2, hx370_3, hx370_4, hx370_5, hx370_6, hx370_7, hx370_8, hx370_9, hx370_10, hx370_11, hx370_12, hx370_13, hx370_14, hx370_15, hx370_16, hx370_17, hx370_18, hx370_19, hx370_20, trivial⟩ Try.underlying55 rfl (by kernel_rfl) ?_))
        have n0_ := Gv.a0 (blk_drew BK371.out)
        have n1_ := Gv.a0 (below_drew1 HB.out)
        clear BK371
        clear HB
        have BK371 := n0_
        have HB := n1_
        clear n0_ n1_
        refine start_ (n := 18) (S := fun w' => w'.cell? ⟨gb371, 0, none⟩ = some (.int .i64 ((rd_T55 l0 x7_1).f0)) ∧ w'.cell? ⟨gb371, 1, none⟩ = some (.int .i64 ((rd_T55 l0 x7_1).f1.f0.f0)) ∧ w'.cell? ⟨gb371, 2, none⟩ = some (.int .i64 ((rd_T55 l0 x7_1).f1.f0.f1)) ∧ w'.cell? ⟨gb371, 3, none⟩ = some (.int .i64 ((rd_T55 l0 x7_1).f1.f0.f2)) ∧ w'.cell? ⟨gb371, 4, none⟩ = some (.int .i64 ((rd_T55 l0 x7_1).f1.f0.f3)) ∧ w'.cell? ⟨gb371, 5, none⟩ = some (.int .i64 ((rd_T55 l0 x7_1).f1.f0.f4)) ∧ w'.cell? ⟨gb371, 6, none⟩ = some (.int .i64 ((rd_T55 l0 x7_1).f1.f1)) ∧ w'.cell? ⟨gb371, 7, none⟩ = some (.int .i64 ((rd_T55 l0 x7_1).f2.f0.f0)) ∧ w'.cell? ⟨gb371, 8, none⟩ = some (.int .i64 ((rd_T55 l0 x7_1).f2.f0.f1)) ∧ w'.cell? ⟨gb371, 9, none⟩ = some (.int .i64 ((rd_T55 l0 x7_1).f2.f0.f2)) ∧ w'.cell? ⟨gb371, 10, none⟩ = some (.int .i64 ((rd_T55 l0 x7_1).f2.f0.f3)) ∧ w'.cell? ⟨gb371, 11, none⟩ = some (.int .i64 ((rd_T55 l0 x7_1).f2.f0.f4)) ∧ w'.cell? ⟨gb371, 12, none⟩ = some (.int .i64 ((rd_T55 l0 x7_1).f2.f1)) ∧ w'.cell? ⟨gb371, 13, none⟩ = some (.int .i64 ((rd_T55 l0 x7_1).f3)) ∧ w'.cell? ⟨gb371, 14, none⟩ = some (.int .i64 ((rd_T55 l0 x7_1).f4)) ∧ w'.cell? ⟨gb371, 15, none⟩ = some (.int .i64 ((rd_T55 l0 x7_1).f5)) ∧ w'.cell? ⟨gb371, 16, none⟩ = some (.int .i64 ((rd_T55 l0 x7_1).f6)) ∧ w'.cell? ⟨gb371, 17, none⟩ = some (.int .i64 ((rd_T55 l0 x7_1).f7)) ∧ w'.cell? ⟨gb371, 18, none⟩ = some (.int .i64 ((rd_T55 l0 x7_1).f8)) ∧ w'.cell? ⟨gb371, 19, none⟩ = some (.int .i64 ((rd_T55 l0 x7_1).f9)) ∧ w'.cell? ⟨gb371, 20, none⟩ = some (.int .i64 ((rd_T55 l0 x7_1).f10))) (ds := []) #[false, false, false, false, false, false, false, false, false, false, false, false, false, false, false, false, false, false] (by kernel_rfl) rfl rfl ⟨(blk_cell BK371.out 0).trans rfl, (blk_cell BK371.out 1).trans rfl, (blk_cell BK371.out 2).trans rfl, (blk_cell BK371.out 3).trans rfl, (blk_cell BK371.out 4).trans rfl, (blk_cell BK371.out 5).trans rfl, (blk_cell BK371.out 6).trans rfl, (blk_cell BK371.out 7).trans rfl, (blk_cell BK371.out 8).trans rfl, (blk_cell BK371.out 9).trans rfl, (blk_cell BK371.out 10).trans rfl, (blk_cell BK371.out 11).trans rfl, (blk_cell BK371.out 12).trans rfl, (blk_cell BK371.out 13).trans rfl, (blk_cell BK371.out 14).trans rfl, (blk_cell BK371.out 15).trans rfl, (blk_cell BK371.out 16).trans rfl, (blk_cell BK371.out 17).trans rfl, (blk_cell BK371.out 18).trans rfl, (blk_cell BK371.out 19).trans rfl, (blk_cell BK371.out 20).trans rfl⟩ (fun hHeld => ?_); refine with_tabW impl_RulesOk.tab4 impl_RulesOk.bits4 (fun HT_ HW_ => ?_)
        generalize w22s.drew = w25 at BK371 HB hHeld ⊢
        refine take_ (i := 0) (N := some 12) (v := ?_) (a' := ?_) #[true, false, false, false, false, false, false, false, false, false, false, false, false, false, false, false, false, false] rfl rfl (take_ofW HT_.out HW_.out (by kernel_rfl)) (fun _ _ _ h => h) (Or.inl ⟨by rfl, ?_⟩) hHeld ?_ ?_
        rotate_left
        ·rintro w' ⟨s0, s1, s2, s3, s4, s5, s6, s7, s8, s9, s10, s11, s12, s13, s14, s15, s16, s17, s18, s19, s20⟩
         first | ((refine Gv.load_run (t := 55) (A := ⟨gb371, 0, none⟩) (cs := [_, _, _, _, _, _, _, _, _, _, _, _, _, _, _, _, _, _, _, _, _]) (x := ?xx35_) ?ho35_ ?hx35_ ⟨s0, s1, s2, s3, s4, s5, s6, s7, s8, s9, s10, s11, s12, s13, s14, s15, s16, s17, s18, s19, s20, trivial⟩ Try.underlying55 rfl (by kernel_rfl)); (case ho35_ => rfl); (case hx35_ => rfl)) | (go_simp; with_reducible rfl)
        rotate_left
        ·simp only [Act.put, List.setIfInBounds_toArray, List.set_cons_zero, List.set_cons_succ, i64_w, i32_w]
         rfl
        refine one_ (i := 1) (N := some 13) #[true, true, false, false, false, false, false, false, false, false, false, false, false, false, false, false, false, false] rfl rfl (one_of HT_.out (by kernel_rfl)) (by decide) (fun K hK => ?_)
        refine goes_ Try.func29 (by kernel_rfl) rfl #[.agg #[.int .i64 ((rd_T55 l0 x7_1).f0), .int .i64 ((rd_T55 l0 x7_1).f1.f0.f0), .int .i64 ((rd_T55 l0 x7_1).f1.f0.f1), .int .i64 ((rd_T55 l0 x7_1).f1.f0.f2), .int .i64 ((rd_T55 l0 x7_1).f1.f0.f3), .int .i64 ((rd_T55 l0 x7_1).f1.f0.f4), .int .i64 ((rd_T55 l0 x7_1).f1.f1), .int .i64 ((rd_T55 l0 x7_1).f2.f0.f0), .int .i64 ((rd_T55 l0 x7_1).f2.f0.f1), .int .i64 ((rd_T55 l0 x7_1).f2.f0.f2), .int .i64 ((rd_T55 l0 x7_1).f2.f0.f3), .int .i64 ((rd_T55 l0 x7_1).f2.f0.f4), .int .i64 ((rd_T55 l0 x7_1).f2.f1), .int .i64 ((rd_T55 l0 x7_1).f3), .int .i64 ((rd_T55 l0 x7_1).f4), .int .i64 ((rd_T55 l0 x7_1).f5), .int .i64 ((rd_T55 l0 x7_1).f6), .int .i64 ((rd_T55 l0 x7_1).f7), .int .i64 ((rd_T55 l0 x7_1).f8), .int .i64 ((rd_T55 l0 x7_1).f9), .int .i64 ((rd_T55 l0 x7_1).f10)]] (by rfl) rfl rfl Gv.lm ?_
        with_reducible refine (impl_RuleOk.calls k1 ((rd_T55 l0 x7_1).f0) ((rd_T55 l0 x7_1).f1.f0.f0) ((rd_T55 l0 x7_1).f1.f0.f1) ((rd_T55 l0 x7_1).f1.f0.f2) ((rd_T55 l0 x7_1).f1.f0.f3) ((rd_T55 l0 x7_1).f1.f0.f4) ((rd_T55 l0 x7_1).f1.f1) ((rd_T55 l0 x7_1).f2.f0.f0) ((rd_T55 l0 x7_1).f2.f0.f1) ((rd_T55 l0 x7_1).f2.f0.f2) ((rd_T55 l0 x7_1).f2.f0.f3) ((rd_T55 l0 x7_1).f2.f0.f4) ((rd_T55 l0 x7_1).f2.f1) ((rd_T55 l0 x7_1).f3) ((rd_T55 l0 x7_1).f4) ((rd_T55 l0 x7_1).f5) ((rd_T55 l0 x7_1).f6) ((rd_T55 l0 x7_1).f7) ((rd_T55 l0 x7_1).f8) ((rd_T55 l0 x7_1).f9) ((rd_T55 l0 x7_1).f10) true _ A5.out).mono ?_
        rintro e w26 ⟨rfl, hb⟩
        refine ⟨_, rfl, ?_⟩
        have n0_ := Gv.a0 (Gv.bb BK371.out hb)
        have n1_ := Gv.a0 (below_step Gv.bw hb)
        clear BK371
        clear HB
        have BK371 := n0_
        have HB := n1_
        clear n0_ n1_
        (try clear hb)
        (try clear hb2)
        (try clear hk)
        (try clear hi)
        refine hK.out _ _ ⟨(blk_cell BK371.out 0).trans rfl, (blk_cell BK371.out 1).trans rfl, (blk_cell BK371.out 2).trans rfl, (blk_cell BK371.out 3).trans rfl, (blk_cell BK371.out 4).trans rfl, (blk_cell BK371.out 5).trans rfl, (blk_cell BK371.out 6).trans rfl, (blk_cell BK371.out 7).trans rfl, (blk_cell BK371.out 8).trans rfl, (blk_cell BK371.out 9).trans rfl, (blk_cell BK371.out 10).trans rfl, (blk_cell BK371.out 11).trans rfl, (blk_cell BK371.out 12).trans rfl, (blk_cell BK371.out 13).trans rfl, (blk_cell BK371.out 14).trans rfl, (blk_cell BK371.out 15).trans rfl, (blk_cell BK371.out 16).trans rfl, (blk_cell BK371.out 17).trans rfl, (blk_cell BK371.out 18).trans rfl, (blk_cell BK371.out 19).trans rfl, (blk_cell BK371.out 20).trans rfl⟩ (fun hHeld => ?_)
        clear hK K
        refine norm_ (a' := ?_) ?_ ?_
        rotate_left
        ·show Act.put _ (some 13) _ = _
         simp only [Act.put, List.setIfInBounds_toArray, List.set_cons_zero, List.set_cons_succ, i64_w, i32_w]
         rfl
        refine Gv.pu 2 (some 14) HT_ ?_
        refine Gv.pu 3 (some 15) HT_ ?_
        refine Gv.pu 4 (some 16) HT_ ?_
        refine Gv.pu 5 (some 17) HT_ ?_
        refine Gv.pu 6 (some 18) HT_ ?_
        refine Gv.pn 7 (some 19) HT_ ?_
        refine Gv.pn 8 (some 20) HT_ ?_
        refine Gv.pn 9 (some 21) HT_ ?_
        refine Gv.pn 10 (some 22) HT_ ?_
        refine Gv.pn 11 (some 23) HT_ ?_
        refine Gv.pn 12 (some 24) HT_ ?_
        refine Gv.pn 13 (some 25) HT_ ?_
        refine Gv.pn 14 (some 26) HT_ ?_
        refine Gv.pn 15 (some 27) HT_ ?_
        refine Gv.pu 16 (some 28) HT_ ?_
        refine Gv.pu 17 (some 29) HT_ ?_
        refine done_ (done_of HT_.out (by kernel_rfl)) ?_
        try go_wp2
        go_roundg k1
        case measure => have := HK1.out; omega
        case rel => exact ⟨(wrap64 (x7_1 + 1)), Gv.rq, H', ⟨by have := HK1.out; omega⟩, ⟨Gv.bw⟩⟩
      ·replace c6 := Bool.eq_false_iff.mpr c6
       subst c6
       have H1 : (some false) = some r := by rw [if_neg (show ¬ (false = true) by decide)] at H; exact H
       clear H
       have H := H1
       clear H1
       obtain rfl := Option.some.inj H
       have p370 : 0 ≤ (x7_1 : Int) := of_decide_eq_true (by first | (with_reducible assumption) | assumption)
       have q370 : x7_1 < (l0.length : Int) := of_decide_eq_true (by first | (with_reducible assumption) | assumption)
       obtain ⟨ad370, e370, hx370_0, hx370_1, hx370_2, hx370_3, hx370_4, hx370_5, hx370_6, hx370_7, hx370_8, hx370_9, hx370_10, hx370_11, hx370_12, hx370_13, hx370_14, hx370_15, hx370_16, hx370_17, hx370_18, hx370_19, hx370_20⟩ := at_T55 HR0.out x7_1 p370 q370
       cases e370
       replace hx370_0 := Gv.bx HB.out hx370_0
       replace hx370_1 := Gv.bx HB.out hx370_1
       replace hx370_2 := Gv.bx HB.out hx370_2
       replace hx370_3 := Gv.bx HB.out hx370_3
       replace hx370_4 := Gv.bx HB.out hx370_4
       replace hx370_5 := Gv.bx HB.out hx370_5
       replace hx370_6 := Gv.bx HB.out hx370_6
       replace hx370_7 := Gv.bx HB.out hx370_7
       replace hx370_8 := Gv.bx HB.out hx370_8
       replace hx370_9 := Gv.bx HB.out hx370_9
       replace hx370_10 := Gv.bx HB.out hx370_10
       replace hx370_11 := Gv.bx HB.out hx370_11
       replace hx370_12 := Gv.bx HB.out hx370_12
       replace hx370_13 := Gv.bx HB.out hx370_13
       replace hx370_14 := Gv.bx HB.out hx370_14
       replace hx370_15 := Gv.bx HB.out hx370_15
       replace hx370_16 := Gv.bx HB.out hx370_16
       replace hx370_17 := Gv.bx HB.out hx370_17
       replace hx370_18 := Gv.bx HB.out hx370_18
       replace hx370_19 := Gv.bx HB.out hx370_19
       replace hx370_20 := Gv.bx HB.out hx370_20
       replace p370 := eq_true p370
       replace q370 := eq_true q370
       try go_wp2_with (first | ((with_reducible refine gate_dst (N := 4) rfl ?_); refine box_event ?hg (N := 4) ?hd (cs := #[.int .i64 0, .int .i64 0, .int .i64 0, .int .i64 0, .int .i64 0, .int .i64 0, .int .i64 0, .int .i64 0, .int .i64 0, .int .i64 0, .int .i64 0, .int .i64 0, .int .i64 0, .int .i64 0, .int .i64 0, .int .i64 0, .int .i64 0, .int .i64 0, .int .i64 0, .int .i64 0, .int .i64 0]) (t := 55) ?hr ?_; (case hd => rfl); (case hg => rfl); (case hr => first | (go_simp; done) | (go_simp; rfl)); intro gb371 hg w27 hbox hb; have n0_ := Gv.a0 (below_step Gv.bw hb); have n1_ := Gv.a0 (hbox); have n2_ := Gv.a0 ((Gv.ble hg Gv.bw : w.heap.size ≤ gb371)); have n3_ := Gv.a0 ((Gv.ble hg Gv.bw : w.heap.size ≤ gb371)); clear HB; have HB := n0_; have BK371 := n1_; have GW371 := n2_; have GE371 := n3_; clear n0_ n1_ n2_ n3_; clear hb hbox hg; obtain ⟨hcz28_0, hcz28_1, hcz28_2, hcz28_3, hcz28_4, hcz28_5, hcz28_6, hcz28_7, hcz28_8, hcz28_9, hcz28_10, hcz28_11, hcz28_12, hcz28_13, hcz28_14, hcz28_15, hcz28_16, hcz28_17, hcz28_18, hcz28_19, hcz28_20⟩ := Gv.c21 BK371.out; obtain ⟨hfz28_0, hfz28_1, hfz28_2, hfz28_3, hfz28_4, hfz28_5, hfz28_6, hfz28_7, hfz28_8, hfz28_9, hfz28_10, hfz28_11, hfz28_12, hfz28_13, hfz28_14, hfz28_15, hfz28_16, hfz28_17, hfz28_18, hfz28_19, hfz28_20⟩ := Gv.f21 BK371.out) | ((with_reducible refine gate_store (t := 55) (p := 4) rfl ?_); refine Gv.store_event rfl rfl rfl rfl rfl (Gv.kb BK371.out) (by kernel_rfl) rfl (by simp; and_intros <;> rfl) ?_; intro w27s hbox hoth hbel; have n0_ := Gv.a0 (hbox); have n1_ := Gv.a0 (hbel w Gv.bw GE371.out); clear BK371 HB; have BK371 := n0_; have HB := n1_; clear n0_ n1_ hbox hoth hbel; (try clear hcz28_0 hcz28_1 hcz28_2 hcz28_3 hcz28_4 hcz28_5 hcz28_6 hcz28_7 hcz28_8 hcz28_9 hcz28_10 hcz28_11 hcz28_12 hcz28_13 hcz28_14 hcz28_15 hcz28_16 hcz28_17 hcz28_18 hcz28_19 hcz28_20 hfz28_0 hfz28_1 hfz28_2 hfz28_3 hfz28_4 hfz28_5 hfz28_6 hfz28_7 hfz28_8 hfz28_9 hfz28_10 hfz28_11 hfz28_12 hfz28_13 hfz28_14 hfz28_15 hfz28_16 hfz28_17 hfz28_18 hfz28_19 hfz28_20); obtain ⟨hcz28_0, hcz28_1, hcz28_2, hcz28_3, hcz28_4, hcz28_5, hcz28_6, hcz28_7, hcz28_8, hcz28_9, hcz28_10, hcz28_11, hcz28_12, hcz28_13, hcz28_14, hcz28_15, hcz28_16, hcz28_17, hcz28_18, hcz28_19, hcz28_20⟩ := Gv.c21 BK371.out; obtain ⟨hfz28_0, hfz28_1, hfz28_2, hfz28_3, hfz28_4, hfz28_5, hfz28_6, hfz28_7, hfz28_8, hfz28_9, hfz28_10, hfz28_11, hfz28_12, hfz28_13, hfz28_14, hfz28_15, hfz28_16, hfz28_17, hfz28_18, hfz28_19, hfz28_20⟩ := Gv.f21 BK371.out) | ((with_reducible refine Gv.gate_load (t := 55) rfl ?_); (try (refine gate_guard (by rfl) ?_; dsimp only)); refine wpList_load_row rfl 55 _ rfl gb371 rfl 55 _ _ _ (by first | exact Gv.kb0 BK371.out | exact Gv.kb1 (Gv.kb0 BK371.out)) Try.underlying55 rfl (by kernel_rfl) ?_) | ((with_reducible refine Gv.gate_load (t := 55) rfl ?_); refine Gv.load_event (cs := [_, _, _, _, _, _, _, _, _, _, _, _, _, _, _, _, _, _, _, _, _]) rfl rfl rfl ⟨hx370_0, hx370_1, hx370_2, hx370_3, hx370_4, hx370_5, hx370_6, hx370_7, hx370_8, hx370_9, hx370_10, hx370_11, hx370_12, hx370_13, hx370_14, hx370_15, hx370_16, hx370_17, hx370_18, hx370_19, hx370_20, trivial⟩ Try.underlying55 rfl (by kernel_rfl) ?_))
       have n0_ := Gv.a0 (blk_drew BK371.out)
       have n1_ := Gv.a0 (below_drew1 HB.out)
       clear BK371
       clear HB
       have BK371 := n0_
       have HB := n1_
       clear n0_ n1_
       refine start_ (n := 18) (S := fun w' => w'.cell? ⟨gb371, 0, none⟩ = some (.int .i64 ((rd_T55 l0 x7_1).f0)) ∧ w'.cell? ⟨gb371, 1, none⟩ = some (.int .i64 ((rd_T55 l0 x7_1).f1.f0.f0)) ∧ w'.cell? ⟨gb371, 2, none⟩ = some (.int .i64 ((rd_T55 l0 x7_1).f1.f0.f1)) ∧ w'.cell? ⟨gb371, 3, none⟩ = some (.int .i64 ((rd_T55 l0 x7_1).f1.f0.f2)) ∧ w'.cell? ⟨gb371, 4, none⟩ = some (.int .i64 ((rd_T55 l0 x7_1).f1.f0.f3)) ∧ w'.cell? ⟨gb371, 5, none⟩ = some (.int .i64 ((rd_T55 l0 x7_1).f1.f0.f4)) ∧ w'.cell? ⟨gb371, 6, none⟩ = some (.int .i64 ((rd_T55 l0 x7_1).f1.f1)) ∧ w'.cell? ⟨gb371, 7, none⟩ = some (.int .i64 ((rd_T55 l0 x7_1).f2.f0.f0)) ∧ w'.cell? ⟨gb371, 8, none⟩ = some (.int .i64 ((rd_T55 l0 x7_1).f2.f0.f1)) ∧ w'.cell? ⟨gb371, 9, none⟩ = some (.int .i64 ((rd_T55 l0 x7_1).f2.f0.f2)) ∧ w'.cell? ⟨gb371, 10, none⟩ = some (.int .i64 ((rd_T55 l0 x7_1).f2.f0.f3)) ∧ w'.cell? ⟨gb371, 11, none⟩ = some (.int .i64 ((rd_T55 l0 x7_1).f2.f0.f4)) ∧ w'.cell? ⟨gb371, 12, none⟩ = some (.int .i64 ((rd_T55 l0 x7_1).f2.f1)) ∧ w'.cell? ⟨gb371, 13, none⟩ = some (.int .i64 ((rd_T55 l0 x7_1).f3)) ∧ w'.cell? ⟨gb371, 14, none⟩ = some (.int .i64 ((rd_T55 l0 x7_1).f4)) ∧ w'.cell? ⟨gb371, 15, none⟩ = some (.int .i64 ((rd_T55 l0 x7_1).f5)) ∧ w'.cell? ⟨gb371, 16, none⟩ = some (.int .i64 ((rd_T55 l0 x7_1).f6)) ∧ w'.cell? ⟨gb371, 17, none⟩ = some (.int .i64 ((rd_T55 l0 x7_1).f7)) ∧ w'.cell? ⟨gb371, 18, none⟩ = some (.int .i64 ((rd_T55 l0 x7_1).f8)) ∧ w'.cell? ⟨gb371, 19, none⟩ = some (.int .i64 ((rd_T55 l0 x7_1).f9)) ∧ w'.cell? ⟨gb371, 20, none⟩ = some (.int .i64 ((rd_T55 l0 x7_1).f10))) (ds := []) #[false, false, false, false, false, false, false, false, false, false, false, false, false, false, false, false, false, false] (by kernel_rfl) rfl rfl ⟨(blk_cell BK371.out 0).trans rfl, (blk_cell BK371.out 1).trans rfl, (blk_cell BK371.out 2).trans rfl, (blk_cell BK371.out 3).trans rfl, (blk_cell BK371.out 4).trans rfl, (blk_cell BK371.out 5).trans rfl, (blk_cell BK371.out 6).trans rfl, (blk_cell BK371.out 7).trans rfl, (blk_cell BK371.out 8).trans rfl, (blk_cell BK371.out 9).trans rfl, (blk_cell BK371.out 10).trans rfl, (blk_cell BK371.out 11).trans rfl, (blk_cell BK371.out 12).trans rfl, (blk_cell BK371.out 13).trans rfl, (blk_cell BK371.out 14).trans rfl, (blk_cell BK371.out 15).trans rfl, (blk_cell BK371.out 16).trans rfl, (blk_cell BK371.out 17).trans rfl, (blk_cell BK371.out 18).trans rfl, (blk_cell BK371.out 19).trans rfl, (blk_cell BK371.out 20).trans rfl⟩ (fun hHeld => ?_); refine with_tabW impl_RulesOk.tab4 impl_RulesOk.bits4 (fun HT_ HW_ => ?_)
       generalize w27s.drew = w30 at BK371 HB hHeld ⊢
       refine take_ (i := 0) (N := some 12) (v := ?_) (a' := ?_) #[true, false, false, false, false, false, false, false, false, false, false, false, false, false, false, false, false, false] rfl rfl (take_ofW HT_.out HW_.out (by kernel_rfl)) (fun _ _ _ h => h) (Or.inl ⟨by rfl, ?_⟩) hHeld ?_ ?_
       rotate_left
       ·rintro w' ⟨s0, s1, s2, s3, s4, s5, s6, s7, s8, s9, s10, s11, s12, s13, s14, s15, s16, s17, s18, s19, s20⟩
        first | ((refine Gv.load_run (t := 55) (A := ⟨gb371, 0, none⟩) (cs := [_, _, _, _, _, _, _, _, _, _, _, _, _, _, _, _, _, _, _, _, _]) (x := ?xx37_) ?ho37_ ?hx37_ ⟨s0, s1, s2, s3, s4, s5, s6, s7, s8, s9, s10, s11, s12, s13, s14, s15, s16, s17, s18, s19, s20, trivial⟩ Try.underlying55 rfl (by kernel_rfl)); (case ho37_ => rfl); (case hx37_ => rfl)) | (go_simp; with_reducible rfl)
       rotate_left
       ·simp only [Act.put, List.setIfInBounds_toArray, List.set_cons_zero, List.set_cons_succ, i64_w, i32_w]
        rfl
       refine one_ (i := 1) (N := some 13) #[true, true, false, false, false, false, false, false, false, false, false, false, false, false, false, false, false, false] rfl rfl (one_of HT_.out (by kernel_rfl)) (by decide) (fun K hK => ?_)
       refine goes_ Try.func29 (by kernel_rfl) rfl #[.agg #[.int .i64 ((rd_T55 l0 x7_1).f0), .int .i64 ((rd_T55 l0 x7_1).f1.f0.f0), .int .i64 ((rd_T55 l0 x7_1).f1.f0.f1), .int .i64 ((rd_T55 l0 x7_1).f1.f0.f2), .int .i64 ((rd_T55 l0 x7_1).f1.f0.f3), .int .i64 ((rd_T55 l0 x7_1).f1.f0.f4), .int .i64 ((rd_T55 l0 x7_1).f1.f1), .int .i64 ((rd_T55 l0 x7_1).f2.f0.f0), .int .i64 ((rd_T55 l0 x7_1).f2.f0.f1), .int .i64 ((rd_T55 l0 x7_1).f2.f0.f2), .int .i64 ((rd_T55 l0 x7_1).f2.f0.f3), .int .i64 ((rd_T55 l0 x7_1).f2.f0.f4), .int .i64 ((rd_T55 l0 x7_1).f2.f1), .int .i64 ((rd_T55 l0 x7_1).f3), .int .i64 ((rd_T55 l0 x7_1).f4), .int .i64 ((rd_T55 l0 x7_1).f5), .int .i64 ((rd_T55 l0 x7_1).f6), .int .i64 ((rd_T55 l0 x7_1).f7), .int .i64 ((rd_T55 l0 x7_1).f8), .int .i64 ((rd_T55 l0 x7_1).f9), .int .i64 ((rd_T55 l0 x7_1).f10)]] (by rfl) rfl rfl Gv.lm ?_
       with_reducible refine (impl_RuleOk.calls k1 ((rd_T55 l0 x7_1).f0) ((rd_T55 l0 x7_1).f1.f0.f0) ((rd_T55 l0 x7_1).f1.f0.f1) ((rd_T55 l0 x7_1).f1.f0.f2) ((rd_T55 l0 x7_1).f1.f0.f3) ((rd_T55 l0 x7_1).f1.f0.f4) ((rd_T55 l0 x7_1).f1.f1) ((rd_T55 l0 x7_1).f2.f0.f0) ((rd_T55 l0 x7_1).f2.f0.f1) ((rd_T55 l0 x7_1).f2.f0.f2) ((rd_T55 l0 x7_1).f2.f0.f3) ((rd_T55 l0 x7_1).f2.f0.f4) ((rd_T55 l0 x7_1).f2.f1) ((rd_T55 l0 x7_1).f3) ((rd_T55 l0 x7_1).f4) ((rd_T55 l0 x7_1).f5) ((rd_T55 l0 x7_1).f6) ((rd_T55 l0 x7_1).f7) ((rd_T55 l0 x7_1).f8) ((rd_T55 l0 x7_1).f9) ((rd_T55 l0 x7_1).f10) false _ A5.out).mono ?_
       rintro e w31 ⟨rfl, hb⟩
       refine ⟨_, rfl, ?_⟩
       have n0_ := Gv.a0 (Gv.bb BK371.out hb)
       have n1_ := Gv.a0 (below_step Gv.bw hb)
       clear BK371
       clear HB
       have BK371 := n0_
       have HB := n1_
       clear n0_ n1_
       (try clear hb)
       (try clear hb2)
       (try clear hk)
       (try clear hi)
       refine hK.out _ _ ⟨(blk_cell BK371.out 0).trans rfl, (blk_cell BK371.out 1).trans rfl, (blk_cell BK371.out 2).trans rfl, (blk_cell BK371.out 3).trans rfl, (blk_cell BK371.out 4).trans rfl, (blk_cell BK371.out 5).trans rfl, (blk_cell BK371.out 6).trans rfl, (blk_cell BK371.out 7).trans rfl, (blk_cell BK371.out 8).trans rfl, (blk_cell BK371.out 9).trans rfl, (blk_cell BK371.out 10).trans rfl, (blk_cell BK371.out 11).trans rfl, (blk_cell BK371.out 12).trans rfl, (blk_cell BK371.out 13).trans rfl, (blk_cell BK371.out 14).trans rfl, (blk_cell BK371.out 15).trans rfl, (blk_cell BK371.out 16).trans rfl, (blk_cell BK371.out 17).trans rfl, (blk_cell BK371.out 18).trans rfl, (blk_cell BK371.out 19).trans rfl, (blk_cell BK371.out 20).trans rfl⟩ (fun hHeld => ?_)
       clear hK K
       refine norm_ (a' := ?_) ?_ ?_
       rotate_left
       ·show Act.put _ (some 13) _ = _
        simp only [Act.put, List.setIfInBounds_toArray, List.set_cons_zero, List.set_cons_succ, i64_w, i32_w]
        rfl
       refine Gv.pu 2 (some 14) HT_ ?_
       refine Gv.pu 3 (some 15) HT_ ?_
       refine Gv.pn 4 (some 16) HT_ ?_
       refine Gv.pn 5 (some 17) HT_ ?_
       refine Gv.pn 6 (some 18) HT_ ?_
       refine Gv.pn 7 (some 19) HT_ ?_
       refine Gv.pn 8 (some 20) HT_ ?_
       refine Gv.pn 9 (some 21) HT_ ?_
       refine Gv.pn 10 (some 22) HT_ ?_
       refine Gv.pn 11 (some 23) HT_ ?_
       refine Gv.pn 12 (some 24) HT_ ?_
       refine Gv.pn 13 (some 25) HT_ ?_
       refine Gv.pn 14 (some 26) HT_ ?_
       refine Gv.pn 15 (some 27) HT_ ?_
       refine Gv.pn 16 (some 28) HT_ ?_
       refine Gv.pu 17 (some 29) HT_ ?_
       refine done_ (done_of HT_.out (by kernel_rfl)) ?_
       try go_wp2
       go_ret
       exact ⟨Gv.rt, Gv.bw⟩
     ·rw [if_neg c4] at H
      exact absurd H (by simp)
    ·rw [if_neg c3] at H
     exact absurd H (by simp)
   ·rw [if_neg c2] at H
    have c2b0 : decide (x7_1 < (l0.length : Int)) = false := decide_eq_false c2
    clear c2
    obtain rfl := Option.some.inj H
    go_wp2_with (first | ((with_reducible refine Gv.gate_load (t := 55) rfl ?_); (try (refine gate_guard (by rfl) ?_; dsimp only)); refine wpList_load_row rfl 55 _ rfl gb371 rfl 55 _ _ _ (by first | exact Gv.kb0 BK371.out | exact Gv.kb1 (Gv.kb0 BK371.out)) Try.underlying55 rfl (by kernel_rfl) ?_))
    go_ret
    exact ⟨Gv.rt, Gv.bw⟩

/-! ### impl_Rule_c58: function 34 over a closure -/
set_option maxHeartbeats 8000000 in
set_option maxRecDepth 100000 in
theorem impl_Rule_c58.idx (g : Nat) (lb : Array Value) (eg : ∀ args w, (callFunc g args).run Try.prog w = .ok (.enter g args) w) (p : S55 → Option Bool) (A0 : Option Addr) (c0 : Nat) (l0 : List S55) (r : Int) (w : World) (hr0 : Kd.C k55 w A0 l0.length l0)
    (hp : ∀ (W : World) (x : S55) (b : Bool), p x = some b → Below w.heap.size w W → Calls Try.prog g (#[.agg #[.int .i64 x.f0, .int .i64 x.f1.f0.f0, .int .i64 x.f1.f0.f1, .int .i64 x.f1.f0.f2, .int .i64 x.f1.f0.f3, .int .i64 x.f1.f0.f4, .int .i64 x.f1.f1, .int .i64 x.f2.f0.f0, .int .i64 x.f2.f0.f1, .int .i64 x.f2.f0.f2, .int .i64 x.f2.f0.f3, .int .i64 x.f2.f0.f4, .int .i64 x.f2.f1, .int .i64 x.f3, .int .i64 x.f4, .int .i64 x.f5, .int .i64 x.f6, .int .i64 x.f7, .int .i64 x.f8, .int .i64 x.f9, .int .i64 x.f10]] ++ lb) W fun e w' => e = .returned (.bool b) ∧ Below W.heap.size W w') (h : Gv.idxO p l0 0 = some r) :
    Calls Try.prog 34 #[.slice A0 l0.length c0, .func (.func g) #[] lb] w fun e w' => e = .returned (.int .i64 r) ∧ Below w.heap.size w w' := by
  have hu55 := Try.underlying55
  have HR0 := Aside0.mk hr0
  have HP := Aside0.mk hp
  have hlm := hr0.2.1
  have H0 := Aside0.mk h
  clear hr0 hp h
  go_enter Try.func34, Try.ntmps34
  go_wp2
  go_loopg [5, 8] l0.length (fun gg _ s8 wr => ∃ kk : Nat, kk ≤ l0.length ∧ l0.length - kk ≤ gg ∧ s8 = .int .i64 kk ∧ Aside0 (Below w.heap.size w wr) ∧ Aside0 (Gv.idxO p (l0.drop kk) kk = some r))
  case atStart => exact ⟨0, Nat.zero_le _, by omega, rfl, ⟨Below.refl _ w⟩, ⟨H0.out⟩⟩
  case round =>
    obtain ⟨kk, hkk, hg, rfl, HB, HN⟩ := hrel
    by_cases hlt : kk < l0.length
    · have hltz : (kk : Int) < (l0.length : Int) := by omega
      have hk0 : 0 ≤ (kk : Int) := by omega
      obtain ⟨ad, e1, hx0, hx1, hx2, hx3, hx4, hx5, hx6, hx7, hx8, hx9, hx10, hx11, hx12, hx13, hx14, hx15, hx16, hx17, hx18, hx19, hx20⟩ := at_T55 (Kd.C_below HR0.out HB.out) (kk : Int) hk0 hltz
      cases e1
      obtain ⟨x_, hx_⟩ : ∃ x_, x_ = rd_T55 l0 kk := ⟨_, rfl⟩
      rw [← hx_, Int.toNat_natCast] at hx0 hx1 hx2 hx3 hx4 hx5 hx6 hx7 hx8 hx9 hx10 hx11 hx12 hx13 hx14 hx15 hx16 hx17 hx18 hx19 hx20
      have hN := HN.out
      have hget : l0.drop kk = x_ :: l0.drop (kk + 1) := by
        rw [hx_, List.drop_eq_getElem_cons hlt]
        congr 1
        unfold rd_T55
        rw [Int.toNat_natCast, List.getD_eq_getElem?_getD, List.getElem?_eq_getElem hlt]
        rfl
      rw [hget] at hN
      obtain ⟨b, hq, hN⟩ := Option.bind_eq_some_iff.mp hN
      have hcall := HP.out wr x_ b hq HB.out
      have HC := Aside0.mk hcall
      have HN2 := Aside0.mk hN
      clear hcall hN hq hget HN hx_
      cases b with
      | true =>
        have HRr := Aside0.mk (show (kk : Int) = r from Option.some.inj HN2.out)
        go_wp2_with (first | ((with_reducible refine Gv.gate_load (t := 55) rfl ?_); refine Gv.load_event (cs := [_, _, _, _, _, _, _, _, _, _, _, _, _, _, _, _, _, _, _, _, _]) rfl rfl rfl ⟨hx0, hx1, hx2, hx3, hx4, hx5, hx6, hx7, hx8, hx9, hx10, hx11, hx12, hx13, hx14, hx15, hx16, hx17, hx18, hx19, hx20, trivial⟩ Try.underlying55 rfl (by kernel_rfl) ?_))
        refine HC.out.mono ?_
        rintro e w' ⟨rfl, hb⟩
        have HB' := Aside0.mk (HB.out.trans (hb.mono HB.out.size))
        clear hb
        go_wp2_with fail
        go_ret
        exact ⟨by rw [← HRr.out]; rfl, HB'.out⟩
      | false =>
        go_wp2_with (first | ((with_reducible refine Gv.gate_load (t := 55) rfl ?_); refine Gv.load_event (cs := [_, _, _, _, _, _, _, _, _, _, _, _, _, _, _, _, _, _, _, _, _]) rfl rfl rfl ⟨hx0, hx1, hx2, hx3, hx4, hx5, hx6, hx7, hx8, hx9, hx10, hx11, hx12, hx13, hx14, hx15, hx16, hx17, hx18, hx19, hx20, trivial⟩ Try.underlying55 rfl (by kernel_rfl) ?_))
        refine HC.out.mono ?_
        rintro e w' ⟨rfl, hb⟩
        have HB' := Aside0.mk (HB.out.trans (hb.mono HB.out.size))
        clear hb
        go_wp2_with fail
        go_roundg (l0.length - (kk + 1))
        case measure => omega
        case rel =>
          have e_ : ((kk + 1 : Nat) : Int) = (kk : Int) + 1 := by omega
          exact ⟨kk + 1, by omega, by omega, by go_num, HB', ⟨by rw [e_]; exact HN2.out⟩⟩
    · have hltz : ¬ (kk : Int) < (l0.length : Int) := by omega
      have HRr := Aside0.mk (show (-1 : Int) = r from by
        have hN := HN.out
        rw [List.drop_eq_nil_of_le (by omega)] at hN
        exact Option.some.inj hN)
      go_wp2_with fail
      go_ret
      exact ⟨by rw [← HRr.out]; rfl, HB.out⟩
set_option maxHeartbeats 8000000 in
set_option maxRecDepth 100000 in
theorem impl_Rule_c58.clo (g0 : Nat) (c0_0 : Int) (x : S55) (b : Bool) (W : World) (hc0 : W.heap[g0]? = some (.cells #[.int .i64 c0_0] 3 (0, 0))) (h : (some (x.f0 == c0_0)) = some b) :
    Calls Try.prog 58 (#[.agg #[.int .i64 x.f0, .int .i64 x.f1.f0.f0, .int .i64 x.f1.f0.f1, .int .i64 x.f1.f0.f2, .int .i64 x.f1.f0.f3, .int .i64 x.f1.f0.f4, .int .i64 x.f1.f1, .int .i64 x.f2.f0.f0, .int .i64 x.f2.f0.f1, .int .i64 x.f2.f0.f2, .int .i64 x.f2.f0.f3, .int .i64 x.f2.f0.f4, .int .i64 x.f2.f1, .int .i64 x.f3, .int .i64 x.f4, .int .i64 x.f5, .int .i64 x.f6, .int .i64 x.f7, .int .i64 x.f8, .int .i64 x.f9, .int .i64 x.f10]] ++ #[.pointer (some ⟨g0, 0, none⟩)]) W fun e w' => e = .returned (.bool b) ∧ Below W.heap.size W w' := by
  obtain rfl := Option.some.inj h
  have HC0 := Aside0.mk hc0
  clear hc0
  go_enter Try.func58, Try.ntmps58
  go_wp2_with (first | ((with_reducible refine gate_dst (N := 2) rfl ?_); refine box_event ?hg (N := 2) ?hd (cs := #[.int .i64 x.f0, .int .i64 x.f1.f0.f0, .int .i64 x.f1.f0.f1, .int .i64 x.f1.f0.f2, .int .i64 x.f1.f0.f3, .int .i64 x.f1.f0.f4, .int .i64 x.f1.f1, .int .i64 x.f2.f0.f0, .int .i64 x.f2.f0.f1, .int .i64 x.f2.f0.f2, .int .i64 x.f2.f0.f3, .int .i64 x.f2.f0.f4, .int .i64 x.f2.f1, .int .i64 x.f3, .int .i64 x.f4, .int .i64 x.f5, .int .i64 x.f6, .int .i64 x.f7, .int .i64 x.f8, .int .i64 x.f9, .int .i64 x.f10]) (t := 55) ?hr ?_; (case hd => rfl); (case hg => rfl); (case hr => first | (go_simp; done) | (go_simp; rfl)); intro gbx hg w1 hbox hb; have n0_ := Aside0.mk (blk_below HC0.out hb); have HX := Aside0.mk hbox; have HB0 := Aside0.mk hb; clear HC0 hbox hb hg; have HC0 := n0_; clear n0_) | ((with_reducible refine Gv.gate_load (t := 3) rfl ?_); refine Gv.get_event (g := gbx) rfl rfl rfl HX.out rfl Try.underlying3 rfl ?_) | ((with_reducible refine Gv.gate_load (t := 3) rfl ?_); refine Gv.get_event (g := g0) rfl rfl rfl HC0.out rfl Try.underlying3 rfl ?_))
  all_goals go_ret
  all_goals exact ⟨by first | rfl | (simp; done) | (simp [eq_comm]; done), HB0.out⟩
def impl_Rule_c58.f (l0 : List S55) (c0_0 : Int) : Option Int := Gv.idxO (fun x : S55 => some (x.f0 == c0_0)) l0 0
set_option maxHeartbeats 8000000 in
set_option maxRecDepth 100000 in
theorem impl_Rule_c58.calls (A0 : Option Addr) (c0 : Nat) (l0 : List S55) (g0 : Nat) (c0_0 : Int) (r : Int) (w : World) (hr0 : Kd.C k55 w A0 l0.length l0) (hc0_ : l0.length ≤ c0) (hc0 : w.heap[g0]? = some (.cells #[.int .i64 c0_0] 3 (0, 0))) (h : impl_Rule_c58.f l0 c0_0 = some r) :
    Calls Try.prog 34 #[.slice A0 l0.length c0, .func (.func 58) #[] #[.pointer (some ⟨g0, 0, none⟩)]] w fun e w' => e = .returned (.int .i64 r) ∧ Below w.heap.size w w' := by
  exact impl_Rule_c58.idx 58 #[.pointer (some ⟨g0, 0, none⟩)] (enters_of Try.func58 (by kernel_rfl) rfl) (fun x => some (x.f0 == c0_0)) A0 c0 l0 r w hr0 (fun W x b hb hW => impl_Rule_c58.clo g0 c0_0 x b W (blk_below hc0 hW) hb) h

/-! ### impl_ruleAt: function 41 -/
def impl_ruleAt.f (l0 : List (S55)) (a1 : Int) : Option (Int) := (impl_Rule_c58.f l0 a1).bind fun t375 => (some t375)
set_option maxHeartbeats 8000000 in
set_option maxRecDepth 100000 in
theorem impl_ruleAt.calls (A0 : Option Addr) (c0 : Nat) (l0 : List (S55)) (a1 : Int) (r : Int) (w : World) (hr0 : Kd.C k55 w A0 l0.length l0) (hc0 : l0.length ≤ c0) (h : impl_ruleAt.f l0 a1 = some r) :
  Calls Try.prog 41 #[.slice A0 l0.length c0, .int .i64 a1] w fun e w' => e = .returned (.int .i64 r) ∧ Below w.heap.size w w' := by
 have HR0 := Gv.a0 hr0
 have HC0 := Gv.a0 hc0
 clear hr0 hc0
 have HB := Gv.a0 (Below.refl w.heap.size w)
 have H : ((impl_Rule_c58.f l0 a1).bind fun t375 => (some t375)) = some r := h
 clear h
 replace H := Option.bind_eq_some_iff.mp H
 obtain ⟨t375, A30, H⟩ := H
 replace H : (some t375) = some r := H
 have A3 := Gv.a0 A30
 clear A30
 obtain rfl := Option.some.inj H
 have hmf : ∀ (fn : Fn) (first cap : Array Value) (w : World), (Instr.makeFunc fn first cap).run Try.prog w = .ok (.func fn first cap) w := fun _ _ _ _ => rfl
 go_enter Try.func41, Try.ntmps41
 go_wp2_with (first | ((with_reducible refine gate_dst (N := 3) rfl ?_); refine box_event ?hg (N := 3) ?hd (cs := #[.int .i64 a1]) (t := 3) ?hr ?_; (case hd => rfl); (case hg => rfl); (case hr => first | (go_simp; done) | (go_simp; rfl)); intro gb374 hg w4 hbox hb; have n0_ := Gv.a0 (below_step Gv.bw hb); have n1_ := Gv.a0 (hbox); have n2_ := Gv.a0 ((Gv.ble hg Gv.bw : w.heap.size ≤ gb374)); have n3_ := Gv.a0 ((Gv.ble hg Gv.bw : w.heap.size ≤ gb374)); clear HB; have HB := n0_; have BK374 := n1_; have GW374 := n2_; have GE374 := n3_; clear n0_ n1_ n2_ n3_; clear hb hbox hg) | ((with_reducible refine gate_callee (f := 34) rfl ?_); refine goesL_ (some 7) rfl rfl Try.func34 (by kernel_rfl) rfl #[.slice A0 l0.length c0, .func (.func 58) #[] #[.pointer (some ⟨gb374, 0, none⟩)]] rfl Gv.lm ?_; (with_reducible refine (impl_Rule_c58.calls _ _ l0 gb374 a1 t375 _ ?side1 ?side2 ?side3 A3.out).mono ?_); (case side1 => repeat (first | exact (Kd.C_below HR0.out HB.out) | (with_reducible refine Kd.C_alloc ?_ _) | (with_reducible refine Kd.C_drewN ?_ _) | (with_reducible refine Kd.C_drew ?_))); (case side2 => exact HC0.out); (case side3 => exact Gv.bk); rintro e w5 ⟨rfl, hb⟩; refine ⟨_, rfl, ?_⟩; have n0_ := Gv.a0 (Gv.bb BK374.out hb); have n1_ := Gv.a0 (below_step Gv.bw hb); clear BK374; clear HB; have BK374 := n0_; have HB := n1_; clear n0_ n1_; (try clear hb); (try clear hb2); (try clear hk); (try clear hi)))
 go_ret
 exact ⟨Gv.rt, Gv.bw⟩

/-! ### impl_Rule_59: function 59 -/
def impl_Rule_59.f (a0 : Int) : Option ((List (S55))) := if 0 ≤ a0 ∧ a0 ≤ 1099511627776 then some ([] : List (S55)) else none
set_option maxHeartbeats 8000000 in
set_option maxRecDepth 100000 in
theorem impl_Rule_59.calls (a0 : Int) (r : List (S55)) (w : World) (h : impl_Rule_59.f a0 = some r) :
  Calls Try.prog 59 #[.slice none 0 0, .int .i64 a0] w fun e w' => ∃ v0_ : Value, e = .returned (v0_) ∧ Kd.R k55 55 w' w.heap.size (fun _ => True) v0_ r ∧ Below w.heap.size w w' := by
 unfold impl_Rule_59.f at h
 by_cases hn : 0 ≤ a0 ∧ a0 ≤ 1099511627776
 rotate_left
 ·rw [if_neg hn] at h
  cases h
 rw [if_pos hn] at h
 obtain rfl := Option.some.inj h
 clear h
 by_cases h0 : a0 = 0
 ·subst h0
  go_enter Try.func59, Try.ntmps59
  go_wp2
  go_ret
  exact ⟨_, rfl, Kd.R_nil _ _ _ _ _, Below.refl _ w⟩
 obtain ⟨n, rfl⟩ : ∃ n : Nat, a0 = n := ⟨a0.toNat, by omega⟩
 have hi := info55
 rw [Option.map_eq_some_iff] at hi
 obtain ⟨i, hi, hz⟩ := hi
 simp only [Prod.mk.injEq] at hz
 obtain ⟨hz, hs, hb⟩ := hz
 have hrz : ∀ ty, (Builtin.append_ #[25, 3] ty #[.slice none 0 0, .int .i64 (n : Int)]).run Try.prog w = _ := fun ty =>
  Lib.run_append_nil_zeros w 25 3 ty 55 i (.agg #[(.int .i64 0), (.int .i64 0), (.int .i64 0), (.int .i64 0), (.int .i64 0), (.int .i64 0), (.int .i64 0), (.int .i64 0), (.int .i64 0), (.int .i64 0), (.int .i64 0), (.int .i64 0), (.int .i64 0), (.int .i64 0), (.int .i64 0), (.int .i64 0), (.int .i64 0), (.int .i64 0), (.int .i64 0), (.int .i64 0), (.int .i64 0)]) .i64 .i64 Try.underlying25 Try.underlying3 hi hz n (by omega) (by omega) (by omega) (by rw [hb]; omega)
 have hG1 : n ≤ grownCap w n 0 55 := grownCap_ge w _ _ _
 have hG2 : grownCap w n 0 55 ≤ maxLen := grownCap_le_maxLen w n 0 55 (by unfold maxLen; omega)
 obtain ⟨G, hG⟩ : ∃ G, G = grownCap w n 0 55 := ⟨_, rfl⟩
 rw [← hG] at hrz hG1 hG2
 have h1 : ¬ ((n : Int) < 0) := by omega
 have h2 : wrap64 ((0 : Int) - 0) = 0 := by unfold wrap64; omega
 have h3 : wrap64 ((n : Int) - 0) = n := by unfold wrap64; omega
 have h4 : (n : Int) > 0 := by omega
 have hG63 : G ≤ 9223372036854775807 := by unfold maxLen at hG2; omega
 have hsz : (Builtin.zeroCells (Value.agg #[(.int .i64 0), (.int .i64 0), (.int .i64 0), (.int .i64 0), (.int .i64 0), (.int .i64 0), (.int .i64 0), (.int .i64 0), (.int .i64 0), (.int .i64 0), (.int .i64 0), (.int .i64 0), (.int .i64 0), (.int .i64 0), (.int .i64 0), (.int .i64 0), (.int .i64 0), (.int .i64 0), (.int .i64 0), (.int .i64 0), (.int .i64 0)]).cells n ++ Builtin.zeroCells (Value.agg #[(.int .i64 0), (.int .i64 0), (.int .i64 0), (.int .i64 0), (.int .i64 0), (.int .i64 0), (.int .i64 0), (.int .i64 0), (.int .i64 0), (.int .i64 0), (.int .i64 0), (.int .i64 0), (.int .i64 0), (.int .i64 0), (.int .i64 0), (.int .i64 0), (.int .i64 0), (.int .i64 0), (.int .i64 0), (.int .i64 0), (.int .i64 0)]).cells (G - n)).size = G * 21 := by
  rw [Array.size_append, size_zeroCells, size_zeroCells, show (Value.agg #[(.int .i64 0), (.int .i64 0), (.int .i64 0), (.int .i64 0), (.int .i64 0), (.int .i64 0), (.int .i64 0), (.int .i64 0), (.int .i64 0), (.int .i64 0), (.int .i64 0), (.int .i64 0), (.int .i64 0), (.int .i64 0), (.int .i64 0), (.int .i64 0), (.int .i64 0), (.int .i64 0), (.int .i64 0), (.int .i64 0), (.int .i64 0)]).cells.size = 21 from rfl]
  omega
 clear hG hz hs hb hi
 go_enter Try.func59, Try.ntmps59
 go_wp2_with (at_builtin; refine Lib.wpList_append_run _ rfl _ _ _ _ rfl _ _ rfl rfl _ _ (hrz _) ?_)
 go_ret
 refine ⟨_, rfl, ⟨fun _ _ => trivial, [], ⟨by simp, .inr ⟨w.heap.size, G, _, rfl, Nat.le_refl _, heap_alloc_new _ _, Nat.zero_le _, hG2, hsz, by simp⟩⟩, Reps.none _ _⟩, (below_alloc (below_drew1 (Below.refl _ w)) _)⟩

/-! ### impl_Rule_42: function 42 -/
mutual
def impl_Rule_42.l0 : Nat → List (List (S55)) → Int → List (List (S55)) → Int → Int → Option ((List (S55)))
 | 0, _, _, _, _, _ => none
 | k + 1, x0, x3, x9, x10, x11 => if x11 < x10 then (if 0 ≤ x11 then (if x11 < (x9.length : Int) then (if (wrap64 (x3 + ((rd_L9 x9 x11).length : Int))) < 0 then (none) else (impl_Rule_42.l0 k x0 (wrap64 (x3 + ((rd_L9 x9 x11).length : Int))) x9 x10 (wrap64 (x11 + 1)))) else (none)) else (none)) else ((impl_Rule_59.f x3).bind fun t380 => (impl_Rule_42.l1 k t380 x0 (x0.length : Int) 0))
def impl_Rule_42.l1 : Nat → List (S55) → List (List (S55)) → Int → Int → Option ((List (S55)))
 | 0, _, _, _, _ => none
 | k + 1, x6, x25, x26, x27 => if x27 < x26 then (if 0 ≤ x27 then (if x27 < (x25.length : Int) then (if x6.length + (rd_L9 x25 x27).length < 837723144972 then (impl_Rule_42.l1 k (x6 ++ (rd_L9 x25 x27)) x25 x26 (wrap64 (x27 + 1))) else (none)) else (none)) else (none)) else (some x6)
end
def impl_Rule_42.f (k : Nat) (l0 : List (List (S55))) : Option ((List (S55))) := impl_Rule_42.l0 k l0 0 l0 (l0.length : Int) 0
theorem impl_Rule_42.mono_l : ∀ k, (∀ y0 y1 y2 y3 y4, LeO (impl_Rule_42.l0 k y0 y1 y2 y3 y4) (impl_Rule_42.l0 (k + 1) y0 y1 y2 y3 y4)) ∧ (∀ y0 y1 y2 y3, LeO (impl_Rule_42.l1 k y0 y1 y2 y3) (impl_Rule_42.l1 (k + 1) y0 y1 y2 y3))
 | 0 => ⟨fun _ _ _ _ _ r h => by simp [impl_Rule_42.l0] at h, fun _ _ _ _ r h => by simp [impl_Rule_42.l1] at h⟩
 | k + 1 => by
  obtain ⟨ih0, ih1⟩ := impl_Rule_42.mono_l k
  refine ⟨?_, ?_⟩
  ·intro y0 y1 y2 y3 y4
   unfold impl_Rule_42.l0
   repeat' first
   | (with_reducible exact ih0 _ _ _ _ _)
   | (with_reducible exact ih1 _ _ _ _)
   | (with_reducible exact LeO.refl _)
   | (with_reducible exact LeO.none _)
   | (with_reducible refine LeO.ite ?_ ?_)
   | (with_reducible refine LeO.bind ?_ (fun _ => ?_))
   | exact ih0 _ _ _ _ _
   | exact ih1 _ _ _ _
   | exact LeO.none _
   | refine LeO.ite ?_ ?_
   | refine LeO.bind ?_ (fun _ => ?_)
  ·intro y0 y1 y2 y3
   unfold impl_Rule_42.l1
   repeat' first
   | (with_reducible exact ih0 _ _ _ _ _)
   | (with_reducible exact ih1 _ _ _ _)
   | (with_reducible exact LeO.refl _)
   | (with_reducible exact LeO.none _)
   | (with_reducible refine LeO.ite ?_ ?_)
   | (with_reducible refine LeO.bind ?_ (fun _ => ?_))
   | exact ih0 _ _ _ _ _
   | exact ih1 _ _ _ _
   | exact LeO.none _
   | refine LeO.ite ?_ ?_
   | refine LeO.bind ?_ (fun _ => ?_)
theorem impl_Rule_42.mono : ∀ a0 k, LeO (impl_Rule_42.f k a0) (impl_Rule_42.f (k + 1) a0) := by
 intro a0 k
 obtain ⟨ih0, ih1⟩ := impl_Rule_42.mono_l k
 unfold impl_Rule_42.f
 repeat' first
   | (with_reducible exact ih0 _ _ _ _ _)
   | (with_reducible exact ih1 _ _ _ _)
   | (with_reducible exact LeO.refl _)
   | (with_reducible exact LeO.none _)
   | (with_reducible refine LeO.ite ?_ ?_)
   | (with_reducible refine LeO.bind ?_ (fun _ => ?_))
   | exact ih0 _ _ _ _ _
   | exact ih1 _ _ _ _
   | exact LeO.none _
   | refine LeO.ite ?_ ?_
   | refine LeO.bind ?_ (fun _ => ?_)
set_option maxHeartbeats 8000000 in
set_option maxRecDepth 100000 in
theorem impl_Rule_42.calls (k : Nat) (A0 : Option Addr) (c0 : Nat) (l0 : List (List (S55))) (r : List (S55)) (w : World) (hr0 : Kd.C (Kd.slice 55 k55) w A0 l0.length l0) (hc0 : l0.length ≤ c0) (h : impl_Rule_42.f k l0 = some r) :
  Calls Try.prog 42 #[.slice A0 l0.length c0] w fun e w' => ∃ v0_ : Value, e = .returned (v0_) ∧ Kd.R k55 55 w' w.heap.size (fun _ => True) v0_ r ∧ Below w.heap.size w w' := by
 have HR0 := Gv.a0 hr0
 have HC0 := Gv.a0 hc0
 clear hr0 hc0
 have HB := Gv.a0 (Below.refl w.heap.size w)
 have H : (impl_Rule_42.l0 k l0 0 l0 (l0.length : Int) 0) = some r := h
 clear h
 have H' := Gv.a0 H
 clear H
 go_enter Try.func42, Try.ntmps42
 go_wp2
 go_loopg [3, 11] k (fun kq v3 v11 w' => ∃ (x3_1 : Int) (x11_1 : Int), v3 = .int .i64 x3_1 ∧ v11 = .int .i64 x11_1 ∧ Aside0 (impl_Rule_42.l0 kq l0 x3_1 l0 (l0.length : Int) x11_1 = some r) ∧ Aside0 (kq ≤ k) ∧ Aside0 (Below w.heap.size w w'))
 case atStart => exact ⟨(0), (0), Gv.rq, Gv.rq, H', ⟨Nat.le_refl _⟩, ⟨Gv.bw⟩⟩
 case round =>
  clear H'
  obtain ⟨x3_1, x11_1, rfl, rfl, HA, HK1, HB⟩ := hrel
  cases gk with
  | zero => exact absurd HA.out (by simp [impl_Rule_42.l0])
  | succ k1 =>
   have H := HA.out
   clear HA
   simp only [impl_Rule_42.l0] at H
   by_cases c2 : x11_1 < (l0.length : Int)
   ·rw [if_pos c2] at H
    have c2b0 : decide (x11_1 < (l0.length : Int)) = true := decide_eq_true c2
    clear c2
    by_cases c3 : 0 ≤ x11_1
    ·rw [if_pos c3] at H
     have c3b0 : decide (0 ≤ x11_1) = true := decide_eq_true c3
     clear c3
     by_cases c4 : x11_1 < (l0.length : Int)
     ·rw [if_pos c4] at H
      have c4b0 : decide (x11_1 < (l0.length : Int)) = true := decide_eq_true c4
      clear c4
      by_cases c5 : (wrap64 (x3_1 + ((rd_L9 l0 x11_1).length : Int))) < 0
      ·rw [if_pos c5] at H
       exact absurd H (by simp)
      ·rw [if_neg c5] at H
       have c5b0 : decide ((wrap64 (x3_1 + ((rd_L9 l0 x11_1).length : Int))) < 0) = false := decide_eq_false c5
       clear c5
       have H' := Gv.a0 H
       clear H
       have p379 : 0 ≤ (x11_1 : Int) := of_decide_eq_true (by first | (with_reducible assumption) | assumption)
       have q379 : x11_1 < (l0.length : Int) := of_decide_eq_true (by first | (with_reducible assumption) | assumption)
       obtain ⟨ad379, A379_0, c379_0, e379, hx379_0, hl379_0, hi379_0⟩ := at_L9 HR0.out x11_1 p379 q379
       cases e379
       replace hx379_0 := Gv.bx HB.out hx379_0
       have HR379_0 := Gv.a0 hi379_0
       have HC379_0 := Gv.a0 hl379_0
       clear hi379_0 hl379_0
       replace p379 := eq_true p379
       replace q379 := eq_true q379
       go_wp2
       go_roundg k1
       case measure => have := HK1.out; omega
       case rel => exact ⟨(wrap64 (x3_1 + ((rd_L9 l0 x11_1).length : Int))), (wrap64 (x11_1 + 1)), Gv.rq, Gv.rq, H', ⟨by have := HK1.out; omega⟩, ⟨Gv.bw⟩⟩
     ·rw [if_neg c4] at H
      exact absurd H (by simp)
    ·rw [if_neg c3] at H
     exact absurd H (by simp)
   ·rw [if_neg c2] at H
    have c2b0 : decide (x11_1 < (l0.length : Int)) = false := decide_eq_false c2
    clear c2
    replace H := Option.bind_eq_some_iff.mp H
    obtain ⟨t380, A60, H⟩ := H
    replace H : (impl_Rule_42.l1 k1 t380 l0 (l0.length : Int) 0) = some r := H
    have A6 := Gv.a0 A60
    clear A60
    have H' := Gv.a0 H
    clear H
    go_wp2_with (first | ((with_reducible refine gate_callee (f := 59) rfl ?_); refine goesL_ (some 24) rfl rfl Try.func59 (by kernel_rfl) rfl #[.slice none 0 0, .int .i64 x3_1] rfl Gv.lm ?_; (with_reducible refine (impl_Rule_59.calls x3_1 t380 _ A6.out).mono ?_); rintro e w7 ⟨v381, rfl, ho0, hb⟩; refine ⟨_, rfl, ?_⟩; have n0_ := Gv.a0 (Kd.R_lower ho0 (below_size Gv.bw)); have n1_ := Gv.a0 (below_step Gv.bw hb); clear HB; have HO382 := n0_; have HB := n1_; clear n0_ n1_; (try clear hb); (try clear hb2); (try clear hk); (try clear hi); (try clear ho0)))
    go_loopg [6, 27] k1 (fun kq v6 v27 w' => ∃ (x6_2 : List (S55)) (x27_2 : Int), v27 = .int .i64 x27_2 ∧ Aside0 (impl_Rule_42.l1 kq x6_2 l0 (l0.length : Int) x27_2 = some r) ∧ Aside0 (kq ≤ k1) ∧ Aside0 (Kd.R k55 55 w' w.heap.size (fun _ => True) v6 x6_2) ∧ Aside0 (Below w.heap.size w w'))
    case atStart => exact ⟨(t380), (0), Gv.rq, H', ⟨Nat.le_refl _⟩, ⟨Gv.kr HO382.out⟩, ⟨Gv.bw⟩⟩
    case round =>
     clear H'
     try clear c2
     try clear c2b0
     try clear p2
     try clear c3
     try clear c3b0
     try clear p3
     try clear q3
     try clear hx3
     try clear c4
     try clear c4b0
     try clear c5
     try clear c5b0
     try clear p6
     try clear hx379_0
     try clear p379
     try clear q379
     obtain ⟨x6_2, x27_2, rfl, HA, HK2, HO_6, HB⟩ := hrel
     cases gk with
     | zero => exact absurd HA.out (by simp [impl_Rule_42.l1])
     | succ k2 =>
      have H := HA.out
      clear HA
      simp only [impl_Rule_42.l1] at H
      by_cases c8 : x27_2 < (l0.length : Int)
      ·rw [if_pos c8] at H
       have c8b0 : decide (x27_2 < (l0.length : Int)) = true := decide_eq_true c8
       clear c8
       by_cases c9 : 0 ≤ x27_2
       ·rw [if_pos c9] at H
        have c9b0 : decide (0 ≤ x27_2) = true := decide_eq_true c9
        clear c9
        by_cases c10 : x27_2 < (l0.length : Int)
        ·rw [if_pos c10] at H
         have c10b0 : decide (x27_2 < (l0.length : Int)) = true := decide_eq_true c10
         clear c10
         by_cases c11 : x6_2.length + (rd_L9 l0 x27_2).length < 837723144972
         ·rw [if_pos c11] at H
          have LMc11 := Gv.a0 c11
          clear c11
          obtain ⟨y384, hy384⟩ : ∃ y_ : List (S55), y_ = (x6_2 ++ (rd_L9 l0 x27_2)) := ⟨_, rfl⟩
          replace H : (impl_Rule_42.l1 k2 y384 l0 (l0.length : Int) (wrap64 (x27_2 + 1))) = some r := by first | (rw [hy384]; with_reducible exact H) | (have H2_ := (Option.bind_some _ _).symm.trans H; rw [hy384]; with_reducible exact H2_) | (have H2_ := (Option.bind_some _ _).symm.trans H; with_reducible exact H2_) | with_reducible exact H | (rw [hy384]; exact H) | exact H
          have Ny384 := Gv.a0 hy384
          clear hy384
          have H' := Gv.a0 H
          clear H
          have p383 : 0 ≤ (x27_2 : Int) := of_decide_eq_true (by first | (with_reducible assumption) | assumption)
          have q383 : x27_2 < (l0.length : Int) := of_decide_eq_true (by first | (with_reducible assumption) | assumption)
          obtain ⟨ad383, A383_0, c383_0, e383, hx383_0, hl383_0, hi383_0⟩ := at_L9 HR0.out x27_2 p383 q383
          cases e383
          replace hx383_0 := Gv.bx HB.out hx383_0
          have HR383_0 := Gv.a0 hi383_0
          have HC383_0 := Gv.a0 hl383_0
          clear hi383_0 hl383_0
          replace p383 := eq_true p383
          replace q383 := eq_true q383
          go_wp2_with (first | ((with_reducible refine gate_builtin (b := .append) (xs := #[.tmp 31, .tmp 32]) rfl ?_); at_builtin; refine Kd.R_append_rows k55 (w0 := w) w.heap.size rfl (.tmp 31) (.tmp 32) 25 55 (.agg #[(.int .i64 0), (.int .i64 0), (.int .i64 0), (.int .i64 0), (.int .i64 0), (.int .i64 0), (.int .i64 0), (.int .i64 0), (.int .i64 0), (.int .i64 0), (.int .i64 0), (.int .i64 0), (.int .i64 0), (.int .i64 0), (.int .i64 0), (.int .i64 0), (.int .i64 0), (.int .i64 0), (.int .i64 0), (.int .i64 0), (.int .i64 0)]) 168 rfl Try.underlying25 info55 rfl (by decide) (by omega) u6 x6_2 (rd_L9 l0 x27_2) _ _ _ (fun _ => True) (fun _ => False) rfl rfl ?aO ?aR (fun _ _ h => h) (fun _ h => h.elim) ?aF ?aB ?aS ?aL ?_; (case aR => repeat (first | exact (Kd.C_below HR383_0.out HB.out) | (with_reducible refine Kd.C_alloc ?_ _) | (with_reducible refine Kd.C_drewN ?_ _) | (with_reducible refine Kd.C_drew ?_))); (case aB => exact Gv.bw); (case aF => exact (fun _ _ => trivial)); (case aO => exact (Gv.kr HO_6.out)); (case aS => exact (below_size Gv.bw)); (case aL => have := LMc11.out; omega); intro v385 w12 ho hb hg hat; rw [← Ny384.out] at ho; have n0_ := Gv.a0 (hb); have n1_ := Gv.a0 (ho); clear HB; clear HO_6; have HB := n0_; have HO386 := n1_; clear n0_ n1_; clear ho hb hg hat))
          go_roundg k2
          case measure => have := HK1.out; have := HK2.out; omega
          case rel => exact ⟨(y384), (wrap64 (x27_2 + 1)), Gv.rq, H', ⟨by have := HK1.out; have := HK2.out; omega⟩, ⟨Gv.kr HO386.out⟩, ⟨Gv.bw⟩⟩
         ·rw [if_neg c11] at H
          exact absurd H (by simp)
        ·rw [if_neg c10] at H
         exact absurd H (by simp)
       ·rw [if_neg c9] at H
        exact absurd H (by simp)
      ·rw [if_neg c8] at H
       have c8b0 : decide (x27_2 < (l0.length : Int)) = false := decide_eq_false c8
       clear c8
       obtain rfl := Option.some.inj H
       go_wp2
       go_ret
       exact ⟨_, Gv.rt, Gv.kr HO_6.out, Gv.bw⟩

/-! ### impl_RuleDrop: function 23 -/
def impl_RuleDrop.f (k : Nat) (l0 : List (S55)) (a1 : Int) : Option ((List (S55)) × Int) := (impl_ruleAt.f l0 a1).bind fun t387 => ((impl_RulesOk.f k l0).bind fun t388 => (if t388 = true then (if t387 < 0 then (some (([] : List (S55)), 4)) else (if 0 ≤ t387 then (if t387 ≤ (l0.length : Int) then (if 0 ≤ (wrap64 (t387 + 1)) then (if (wrap64 (t387 + 1)) ≤ (l0.length : Int) then ((impl_Rule_42.f k (([(l0.take (t387 : Int).toNat), (l0.drop ((wrap64 (t387 + 1)) : Int).toNat)] : List (List (S55))))).bind fun t402 => (some (t402, 0))) else (none)) else (none)) else (none)) else (none))) else (some (([] : List (S55)), 1))))
theorem impl_RuleDrop.mono : ∀ a0 a1 k, LeO (impl_RuleDrop.f k a0 a1) (impl_RuleDrop.f (k + 1) a0 a1) := by
 intro a0 a1 k
 unfold impl_RuleDrop.f
 repeat' first
   | (with_reducible exact impl_Rule_42.mono _ _)
   | (with_reducible exact impl_RulesOk.mono _ _)
   | (with_reducible exact LeO.refl _)
   | (with_reducible exact LeO.none _)
   | (with_reducible refine LeO.ite ?_ ?_)
   | (with_reducible refine LeO.bind ?_ (fun _ => ?_))
   | exact impl_Rule_42.mono _ _
   | exact impl_RulesOk.mono _ _
   | exact LeO.none _
   | refine LeO.ite ?_ ?_
   | refine LeO.bind ?_ (fun _ => ?_)
def impl_RuleDrop.T6 : Bool × List (List Nat × List Nat) := (true, [([], []), ([], []), ([0, 1], [0, 1]), ([], []), ([], []), ([4], [4]), ([3, 5], [3, 5]), ([2, 6], [2, 6]), ([7], [7]), ([8, 8, 0, 1, 2, 3, 4, 5, 6, 7, 8], [8]), ([9, 0, 1, 2, 3, 4, 5, 6, 7, 8, 9], [])])
def impl_RuleDrop.B6 : List Nat := [0, 0, 3, 0, 0, 16, 56, 127, 255, 511, 1023]
theorem impl_RuleDrop.tab6 : rtab .any (opsOf Try.f23 6) = impl_RuleDrop.T6 := by kernel_rfl
theorem impl_RuleDrop.bits6 : waitsOk impl_RuleDrop.T6.2 impl_RuleDrop.B6 = true := by kernel_rfl
set_option maxHeartbeats 8000000 in
set_option maxRecDepth 100000 in
theorem impl_RuleDrop.calls (k : Nat) (P0_ : Nat → Prop) (A0 : Option Addr) (c0 : Nat) (l0 : List (S55)) (a1 : Int) (r1 : List (S55)) (r2 : Int) (w : World) (hs0 : Kd.V k55 55 w w.heap.size (fun k_ => P0_ k_) (.slice A0 l0.length c0) l0) (h : impl_RuleDrop.f k l0 a1 = some (r1, r2)) :
  Calls Try.prog 23 #[.slice A0 l0.length c0, .int .i64 a1] w fun e w' => ∃ v0_ : Value, e = .returned (.tuple #[v0_, .int .i64 r2]) ∧ Kd.R k55 55 w' w.heap.size (fun k_ => (w.heap.size ≤ k_)) v0_ r1 ∧ Below w.heap.size w w' := by
 have HO0 := Gv.a0 (show Kd.V k55 55 w w.heap.size (fun k_ => (P0_ k_ ∨ w.heap.size ≤ k_)) (.slice A0 l0.length c0) l0 from Kd.V_mono hs0 (fun k_ hk => .inl hk))
 have HB := Gv.a0 (Below.refl w.heap.size w)
 have H : ((impl_ruleAt.f l0 a1).bind fun t387 => ((impl_RulesOk.f k l0).bind fun t388 => (if t388 = true then (if t387 < 0 then (some (([] : List (S55)), 4)) else (if 0 ≤ t387 then (if t387 ≤ (l0.length : Int) then (if 0 ≤ (wrap64 (t387 + 1)) then (if (wrap64 (t387 + 1)) ≤ (l0.length : Int) then ((impl_Rule_42.f k (([(l0.take (t387 : Int).toNat), (l0.drop ((wrap64 (t387 + 1)) : Int).toNat)] : List (List (S55))))).bind fun t402 => (some (t402, 0))) else (none)) else (none)) else (none)) else (none))) else (some (([] : List (S55)), 1))))) = some (r1, r2) := h
 clear h
 replace H := Option.bind_eq_some_iff.mp H
 obtain ⟨t387, A30, H⟩ := H
 replace H : ((impl_RulesOk.f k l0).bind fun t388 => (if t388 = true then (if t387 < 0 then (some (([] : List (S55)), 4)) else (if 0 ≤ t387 then (if t387 ≤ (l0.length : Int) then (if 0 ≤ (wrap64 (t387 + 1)) then (if (wrap64 (t387 + 1)) ≤ (l0.length : Int) then ((impl_Rule_42.f k (([(l0.take (t387 : Int).toNat), (l0.drop ((wrap64 (t387 + 1)) : Int).toNat)] : List (List (S55))))).bind fun t402 => (some (t402, 0))) else (none)) else (none)) else (none)) else (none))) else (some (([] : List (S55)), 1)))) = some (r1, r2) := H
 have A3 := Gv.a0 A30
 clear A30
 replace H := Option.bind_eq_some_iff.mp H
 obtain ⟨t388, A40, H⟩ := H
 replace H : (if t388 = true then (if t387 < 0 then (some (([] : List (S55)), 4)) else (if 0 ≤ t387 then (if t387 ≤ (l0.length : Int) then (if 0 ≤ (wrap64 (t387 + 1)) then (if (wrap64 (t387 + 1)) ≤ (l0.length : Int) then ((impl_Rule_42.f k (([(l0.take (t387 : Int).toNat), (l0.drop ((wrap64 (t387 + 1)) : Int).toNat)] : List (List (S55))))).bind fun t402 => (some (t402, 0))) else (none)) else (none)) else (none)) else (none))) else (some (([] : List (S55)), 1))) = some (r1, r2) := H
 have A4 := Gv.a0 A40
 clear A40
 by_cases c5 : t388 = true
 ·subst c5
  have H1 : (if t387 < 0 then (some (([] : List (S55)), 4)) else (if 0 ≤ t387 then (if t387 ≤ (l0.length : Int) then (if 0 ≤ (wrap64 (t387 + 1)) then (if (wrap64 (t387 + 1)) ≤ (l0.length : Int) then ((impl_Rule_42.f k (([(l0.take (t387 : Int).toNat), (l0.drop ((wrap64 (t387 + 1)) : Int).toNat)] : List (List (S55))))).bind fun t402 => (some (t402, 0))) else (none)) else (none)) else (none)) else (none))) = some (r1, r2) := by rw [if_pos rfl] at H; exact H
  clear H
  have H := H1
  clear H1
  by_cases c6 : t387 < 0
  ·rw [if_pos c6] at H
   have c6b0 : decide (t387 < 0) = true := decide_eq_true c6
   clear c6
   simp only [Option.some.injEq, Prod.mk.injEq] at H
   obtain ⟨rfl, rfl⟩ := H
   go_enter Try.func23, Try.ntmps23
   go_wp2_with (first | ((with_reducible refine gate_callee (f := 41) rfl ?_); refine goesL_ (some 9) rfl rfl Try.func41 (by kernel_rfl) rfl #[.slice A0 l0.length c0, .int .i64 a1] rfl Gv.lm ?_; (with_reducible refine (impl_ruleAt.calls _ _ l0 a1 t387 _ ?side1 ?side2 A3.out).mono ?_); (case side1 => repeat (first | exact (Kd.V_reads' HO0.out).2.2 | (with_reducible refine Kd.C_alloc ?_ _) | (with_reducible refine Kd.C_drewN ?_ _) | (with_reducible refine Kd.C_drew ?_))); (case side2 => exact (Kd.V_reads' HO0.out).2.1); rintro e w7 ⟨rfl, hb⟩; refine ⟨_, rfl, ?_⟩; have n0_ := Gv.a0 (Kd.V_below (by (with_reducible repeat (first | apply Kd.V_alloc | apply Kd.V_drewN | apply Kd.V_drew)); exact HO0.out) hb); have n1_ := Gv.a0 (below_step Gv.bw hb); clear HO0; clear HB; have HO0 := n0_; have HB := n1_; clear n0_ n1_; (try clear hb); (try clear hb2); (try clear hk); (try clear hi)) | ((with_reducible refine gate_callee (f := 11) rfl ?_); refine goesL_ (some 12) rfl rfl Try.func11 (by kernel_rfl) rfl #[.slice A0 l0.length c0] rfl Gv.lm ?_; (with_reducible refine (impl_RulesOk.calls k _ _ l0 true _ ?side1 ?side2 A4.out).mono ?_); (case side1 => repeat (first | exact (Kd.V_reads' HO0.out).2.2 | (with_reducible refine Kd.C_alloc ?_ _) | (with_reducible refine Kd.C_drewN ?_ _) | (with_reducible refine Kd.C_drew ?_))); (case side2 => exact (Kd.V_reads' HO0.out).2.1); rintro e w8 ⟨rfl, hb⟩; refine ⟨_, rfl, ?_⟩; have n0_ := Gv.a0 (Kd.V_below (by (with_reducible repeat (first | apply Kd.V_alloc | apply Kd.V_drewN | apply Kd.V_drew)); exact HO0.out) hb); have n1_ := Gv.a0 (below_step Gv.bw hb); clear HO0; clear HB; have HO0 := n0_; have HB := n1_; clear n0_ n1_; (try clear hb); (try clear hb2); (try clear hk); (try clear hi)))
   go_ret2
   exact ⟨_, Gv.rt, by first | exact Kd.R_nil _ _ _ _ _ | exact Kd.N_nil _ _ _ _ _ | exact Kd.V_nil _ _ _ _ _ | exact Kd.Q_nil _ _ _ _ _ | exact Kd.S_nil _ _ _ _ _, Gv.bw⟩
  ·rw [if_neg c6] at H
   have c6b0 : decide (t387 < 0) = false := decide_eq_false c6
   clear c6
   by_cases c9 : 0 ≤ t387
   ·rw [if_pos c9] at H
    have c9b0 := eq_true c9
    have c9b1 : decide (0 ≤ t387) = true := decide_eq_true c9
    clear c9
    by_cases c10 : t387 ≤ (l0.length : Int)
    ·rw [if_pos c10] at H
     have c10b0 := eq_true c10
     have c10b1 : decide (t387 ≤ (l0.length : Int)) = true := decide_eq_true c10
     clear c10
     obtain ⟨y389, hy389⟩ : ∃ y_ : List (S55), y_ = (l0.take (t387 : Int).toNat) := ⟨_, rfl⟩
     replace H : (if 0 ≤ (wrap64 (t387 + 1)) then (if (wrap64 (t387 + 1)) ≤ (l0.length : Int) then ((impl_Rule_42.f k (([y389, (l0.drop ((wrap64 (t387 + 1)) : Int).toNat)] : List (List (S55))))).bind fun t402 => (some (t402, 0))) else (none)) else (none)) = some (r1, r2) := by first | (rw [hy389]; with_reducible exact H) | (have H2_ := (Option.bind_some _ _).symm.trans H; rw [hy389]; with_reducible exact H2_) | (have H2_ := (Option.bind_some _ _).symm.trans H; with_reducible exact H2_) | with_reducible exact H | (rw [hy389]; exact H) | exact H
     have Ny389 := Gv.a0 hy389
     clear hy389
     obtain ⟨ji11, hji11⟩ : ∃ j_ : Int, (wrap64 (t387 + 1)) = j_ := ⟨_, rfl⟩
     replace H : (if 0 ≤ (ji11) then (if (ji11) ≤ (l0.length : Int) then ((impl_Rule_42.f k (([y389, (l0.drop ((ji11) : Int).toNat)] : List (List (S55))))).bind fun t402 => (some (t402, 0))) else (none)) else (none)) = some (r1, r2) := by first | (rw [hji11] at H; exact H) | (simp only [hji11] at H ⊢; exact H)
     (try rw [hji11] at A3)
     (try rw [hji11] at A4)
     have hji11w : (IntKind.i64.wrap (t387 + 1)) = ji11 := (i64_w _).trans hji11
     by_cases c12 : 0 ≤ (ji11)
     ·rw [if_pos c12] at H
      have c12b0 := eq_true c12
      have c12b1 : decide (0 ≤ (ji11)) = true := decide_eq_true c12
      clear c12
      by_cases c13 : (ji11) ≤ (l0.length : Int)
      ·rw [if_pos c13] at H
       have c13b0 := eq_true c13
       have c13b1 : decide ((ji11) ≤ (l0.length : Int)) = true := decide_eq_true c13
       clear c13
       obtain ⟨y394, hy394⟩ : ∃ y_ : List (S55), y_ = (l0.drop ((ji11) : Int).toNat) := ⟨_, rfl⟩
       replace H : ((impl_Rule_42.f k (([y389, y394] : List (List (S55))))).bind fun t402 => (some (t402, 0))) = some (r1, r2) := by first | (rw [hy394]; with_reducible exact H) | (have H2_ := (Option.bind_some _ _).symm.trans H; rw [hy394]; with_reducible exact H2_) | (have H2_ := (Option.bind_some _ _).symm.trans H; with_reducible exact H2_) | with_reducible exact H | (rw [hy394]; exact H) | exact H
       have Ny394 := Gv.a0 hy394
       clear hy394
       obtain ⟨y399, hy399⟩ : ∃ y_ : List (List (S55)), y_ = (([y389, y394] : List (List (S55)))) := ⟨_, rfl⟩
       replace H : ((impl_Rule_42.f k y399).bind fun t402 => (some (t402, 0))) = some (r1, r2) := by first | (rw [hy399]; with_reducible exact H) | (have H2_ := (Option.bind_some _ _).symm.trans H; rw [hy399]; with_reducible exact H2_) | (have H2_ := (Option.bind_some _ _).symm.trans H; with_reducible exact H2_) | with_reducible exact H | (rw [hy399]; exact H) | exact H
       have Ny399 := Gv.a0 hy399
       clear hy399
       replace H := Option.bind_eq_some_iff.mp H
       obtain ⟨t402, A140, H⟩ := H
       replace H : (some (t402, 0)) = some (r1, r2) := H
       have A14 := Gv.a0 A140
       clear A140
       simp only [Option.some.injEq, Prod.mk.injEq] at H
       obtain ⟨rfl, rfl⟩ := H
       go_enter Try.func23, Try.ntmps23
       try go_wp2_with (first | ((with_reducible refine gate_callee (f := 41) rfl ?_); refine goesL_ (some 9) rfl rfl Try.func41 (by kernel_rfl) rfl #[.slice A0 l0.length c0, .int .i64 a1] rfl Gv.lm ?_; (with_reducible refine (impl_ruleAt.calls _ _ l0 a1 t387 _ ?side1 ?side2 A3.out).mono ?_); (case side1 => repeat (first | exact (Kd.V_reads' HO0.out).2.2 | (with_reducible refine Kd.C_alloc ?_ _) | (with_reducible refine Kd.C_drewN ?_ _) | (with_reducible refine Kd.C_drew ?_))); (case side2 => exact (Kd.V_reads' HO0.out).2.1); rintro e w15 ⟨rfl, hb⟩; refine ⟨_, rfl, ?_⟩; have n0_ := Gv.a0 (Kd.V_below (by (with_reducible repeat (first | apply Kd.V_alloc | apply Kd.V_drewN | apply Kd.V_drew)); exact HO0.out) hb); have n1_ := Gv.a0 (below_step Gv.bw hb); clear HO0; clear HB; have HO0 := n0_; have HB := n1_; clear n0_ n1_; (try clear hb); (try clear hb2); (try clear hk); (try clear hi)) | ((with_reducible refine gate_callee (f := 11) rfl ?_); refine goesL_ (some 12) rfl rfl Try.func11 (by kernel_rfl) rfl #[.slice A0 l0.length c0] rfl Gv.lm ?_; (with_reducible refine (impl_RulesOk.calls k _ _ l0 true _ ?side1 ?side2 A4.out).mono ?_); (case side1 => repeat (first | exact (Kd.V_reads' HO0.out).2.2 | (with_reducible refine Kd.C_alloc ?_ _) | (with_reducible refine Kd.C_drewN ?_ _) | (with_reducible refine Kd.C_drew ?_))); (case side2 => exact (Kd.V_reads' HO0.out).2.1); rintro e w16 ⟨rfl, hb⟩; refine ⟨_, rfl, ?_⟩; have n0_ := Gv.a0 (Kd.V_below (by (with_reducible repeat (first | apply Kd.V_alloc | apply Kd.V_drewN | apply Kd.V_drew)); exact HO0.out) hb); have n1_ := Gv.a0 (below_step Gv.bw hb); clear HO0; clear HB; have HO0 := n0_; have HB := n1_; clear n0_ n1_; (try clear hb); (try clear hb2); (try clear hk); (try clear hi)))
       have n0_ := Gv.a0 (Kd.V_drew HO0.out)
       have n1_ := Gv.a0 (below_drew1 HB.out)
       clear HO0
       clear HB
       have HO0 := n0_
       have HB := n1_
       clear n0_ n1_
       have q18 : (t387 : Int) ≤ ((l0.length : Int) : Int) := of_decide_eq_true (by first | (with_reducible assumption) | assumption)
       obtain ⟨i018, hi018, _, hsz18, _⟩ := info_parts info55
       have hroom18 : l0.length ≤ c0 := (Kd.V_reads' HO0.out).2.1
       have hC18 : Kd.F k55 _ _ A0 l0.length l0 := (Kd.V_at (base := w.heap.size) HO0.out).2.2
       have hcut18 := cut_to (P := Try.prog) 25 55 .i64 Try.underlying25 hi018 A0 l0.length c0 t387 (of_decide_eq_true (by first | (with_reducible assumption) | assumption)) q18 hroom18
       have hr18 := Kd.F_take (m := (t387 : Int).toNat) hC18 (by omega)
       have hy18 : y389.length = (t387 : Int).toNat := (by rw [Ny389.out, List.length_take]; omega)
       rw [← Ny389.out] at hr18
       rw [← hy18] at hcut18
       have HO393 := Gv.a0 (show Kd.V k55 55 _ w.heap.size _ (.slice A0 y389.length c0) y389 from Kd.V_mk (by omega) hr18)
       have HC393 := Gv.a0 (show y389.length ≤ c0 from by omega)
       clear hr18 hC18 hroom18 hi018 hsz18
       have KY18 := Gv.a0 hy18
       clear hy18
       replace q18 := eq_true q18
       have q19 : ((ji11) : Int) ≤ ((l0.length : Int) : Int) := of_decide_eq_true (by first | (with_reducible assumption) | assumption)
       obtain ⟨i019, hi019, _, hsz19, _⟩ := info_parts info55
       have hroom19 : l0.length ≤ c0 := (Kd.V_reads' HO0.out).2.1
       have hC19 : Kd.F k55 _ _ A0 l0.length l0 := (Kd.V_at (base := w.heap.size) HO0.out).2.2
       have q019 : (0 : Int) ≤ ((ji11) : Int) := of_decide_eq_true (by first | (with_reducible assumption) | assumption)
       have hcut19 := cut_from (P := Try.prog) 25 55 .i64 Try.underlying25 hi019 21 hsz19 A0 l0.length c0 (ji11) q019 q19
       have hr19 := Kd.F_cut (m := ((ji11) : Int).toNat) (c := c0) hC19 (by omega) hroom19
       obtain ⟨A19, hA19⟩ : ∃ A1, A1 = (if c0 = ((ji11) : Int).toNat then A0 else (A0 : Option Addr).map (·.add (((ji11) : Int).toNat * 21))) := ⟨_, rfl⟩
       obtain ⟨c19, hc19⟩ : ∃ c1, c1 = c0 - ((ji11) : Int).toNat := ⟨_, rfl⟩
       have hy19 : y394.length = l0.length - ((ji11) : Int).toNat := (by rw [Ny394.out, List.length_drop] <;> omega)
       rw [show (l0).drop ((ji11) : Int).toNat = y394 from Ny394.out.symm] at hr19
       replace hr19 : Kd.F k55 _ _ A19 y394.length y394 := (by rw [hA19]; exact hr19)
       rw [← hy19, ← hA19, ← hc19] at hcut19
       have HO398 := Gv.a0 (show Kd.V k55 55 _ w.heap.size _ (.slice A19 y394.length c19) y394 from Kd.V_mk (by rw [hy19, hc19]; exact Nat.sub_le_sub_right hroom19 _) hr19)
       have HC398 := Gv.a0 (show y394.length ≤ c19 from by rw [hy19, hc19]; exact Nat.sub_le_sub_right hroom19 _)
       clear hr19 hC19 hroom19 hi019 hsz19 hc19
       have KY19 := Gv.a0 hy19
       have KA19 := Gv.a0 hA19
       clear hy19 hA19
       replace q19 := eq_true q19
       refine start_ (n := 11) (S := fun w' => True) (ds := []) #[false, false, false, false, false, false, false, false, false, false, false] (by kernel_rfl) rfl rfl trivial (fun hHeld => ?_); refine with_tabW impl_RuleDrop.tab6 impl_RuleDrop.bits6 (fun HT_ HW_ => ?_)
       generalize w16.drew = w17 at HO0 HB HO393 HO398 hHeld ⊢
       refine Gv.pu 0 (some 17) HT_ ?_
       refine Gv.pu 1 (some 18) HT_ ?_
       refine Gv.pu 2 (some 19) HT_ ?_
       refine Gv.pu 3 (some 20) HT_ ?_
       refine Gv.pu 4 (some 21) HT_ ?_
       refine Gv.pu 5 (some 22) HT_ ?_
       refine Gv.pu 6 (some 23) HT_ ?_
       refine one_ (i := 7) (N := some 24) #[true, true, true, true, true, true, true, true, false, false, false] rfl rfl (one_of HT_.out (by kernel_rfl)) (by decide) (fun K hK => ?_)
       refine Kd.N_lit_step (Kd.slice 55 k55) _ 25 ?hg (N' := 24) ?hd (xs := ([y389, y394] : List (List (S55)))) (inner := [.slice A0 y389.length c0, .slice A19 y394.length c19]) (ok := (fun k_ => (P0_ k_ ∨ w.heap.size ≤ k_))) (okp := (fun k_ => (P0_ k_ ∨ w.heap.size ≤ k_))) ?hr ?hp (fun _ hk => hk) ((show ∀ k_, w17.heap.size ≤ k_ → (fun k_ => (P0_ k_ ∨ w.heap.size ≤ k_)) k_ from fun k_ hk => (.inr (Nat.le_trans (below_size Gv.bw) hk))) _ (Nat.le_refl _)) (Below.refl _ _) (Nat.le_refl _) (by simp) ?_; (case hd => rfl); (case hg => rfl); (case hr => first | (go_simp; done) | (go_simp; rfl)); (case hp => exact (Reps.one (show Kd.FK (Kd.slice 55 k55) _ _ y389 [.slice A0 y389.length c0] from (Kd.FK_slice_mk (Kd.V_reads' (Kd.V_mono (ok' := (fun k_ => (P0_ k_ ∨ w.heap.size ≤ k_))) (HO393.out) (fun k_ hk => hk))).2.1 (Kd.V_F (Kd.V_mono (ok' := (fun k_ => (P0_ k_ ∨ w.heap.size ≤ k_))) (HO393.out) (fun k_ hk => hk))))) (Reps.one (show Kd.FK (Kd.slice 55 k55) _ _ y394 [.slice A19 y394.length c19] from (Kd.FK_slice_mk (Kd.V_reads' (Kd.V_mono (ok' := (fun k_ => (P0_ k_ ∨ w.heap.size ≤ k_))) (HO398.out) (fun k_ hk => hk))).2.1 (Kd.V_F (Kd.V_mono (ok' := (fun k_ => (P0_ k_ ∨ w.heap.size ≤ k_))) (HO398.out) (fun k_ hk => hk))))) (Reps.none _ _))))
       intro v400 w20 ho21 hb hg_ hnew_
       clear hg_ hnew_
       (first | rw [← Ny399.out] at ho21 | (simp only [Int.reduceToNat] at ho21; rw [← Ny399.out] at ho21))
       have n0_ := Gv.a0 (Kd.V_elder' (by (with_reducible repeat (first | apply Kd.V_alloc | apply Kd.V_drewN | apply Kd.V_drew)); exact HO0.out) (Kd.N_base ho21) hb)
       have n1_ := Gv.a0 (Kd.V_elder' (by (with_reducible repeat (first | apply Kd.V_alloc | apply Kd.V_drewN | apply Kd.V_drew)); exact HO393.out) (Kd.N_base ho21) hb)
       have n2_ := Gv.a0 (Kd.V_elder' (by (with_reducible repeat (first | apply Kd.V_alloc | apply Kd.V_drewN | apply Kd.V_drew)); exact HO398.out) (Kd.N_base ho21) hb)
       have n3_ := Gv.a0 (Kd.N_lower ho21 (below_size Gv.bw))
       have n4_ := Gv.a0 (below_step Gv.bw hb)
       clear HO0
       clear HO393
       clear HO398
       clear HB
       have HO0 := n0_
       have HO393 := n1_
       have HO398 := n2_
       have HO401 := n3_
       have HB := n4_
       clear n0_ n1_ n2_ n3_ n4_
       clear hb ho21
       obtain ⟨Ao22, co22, eo22⟩ := Kd.N_slice HO401.out
       (first | subst eo22 | (injection eo22 with f1_ f2_ f3_; have f4_ := f1_.symm; have f5_ := f3_.symm; clear f1_ f2_ f3_; subst f4_; subst f5_))
       refine hK.out _ _ trivial (fun hHeld => ?_)
       clear hK K
       refine norm_ (a' := ?_) ?_ ?_
       rotate_left
       ·show Act.put _ (some 24) _ = _
        simp only [Act.put, List.setIfInBounds_toArray, List.set_cons_zero, List.set_cons_succ, i64_w, i32_w]
        rfl
       refine one_ (i := 8) (N := some 25) #[true, true, true, true, true, true, true, true, true, false, false] rfl rfl (one_of HT_.out (by kernel_rfl)) (by decide) (fun K hK => ?_)
       refine goes_ Try.func42 (by kernel_rfl) rfl #[.slice Ao22 y399.length co22] (by rfl) rfl rfl Gv.lm ?_
       with_reducible refine (impl_Rule_42.calls k _ _ y399 t402 _ ?side1 ?side2 A14.out).mono ?_
       (case side1 => repeat (first | exact (Kd.N_reads' HO401.out).2.2 | (with_reducible refine Kd.C_alloc ?_ _) | (with_reducible refine Kd.C_drewN ?_ _) | (with_reducible refine Kd.C_drew ?_)))
       (case side2 => exact (Kd.N_reads' HO401.out).2.1)
       rintro e w23 ⟨v403, rfl, ho0, hb⟩
       refine ⟨_, rfl, ?_⟩
       have n0_ := Gv.a0 (Kd.V_elder' (by (with_reducible repeat (first | apply Kd.V_alloc | apply Kd.V_drewN | apply Kd.V_drew)); exact HO0.out) (Kd.R_base ho0) hb)
       have n1_ := Gv.a0 (Kd.V_elder' (by (with_reducible repeat (first | apply Kd.V_alloc | apply Kd.V_drewN | apply Kd.V_drew)); exact HO393.out) (Kd.R_base ho0) hb)
       have n2_ := Gv.a0 (Kd.V_elder' (by (with_reducible repeat (first | apply Kd.V_alloc | apply Kd.V_drewN | apply Kd.V_drew)); exact HO398.out) (Kd.R_base ho0) hb)
       have n3_ := Gv.a0 (Kd.N_elder' (by (with_reducible repeat (first | apply Kd.N_alloc | apply Kd.N_drewN | apply Kd.N_drew)); exact HO401.out) (Kd.R_base ho0) hb)
       have n4_ := Gv.a0 (Kd.R_lower (Kd.R_newM (M := fun k_ => (w.heap.size ≤ k_)) ho0 (below_size Gv.bw) (fun k_ h_ => h_)) (below_size Gv.bw))
       have n5_ := Gv.a0 (below_step Gv.bw hb)
       clear HO0
       clear HO393
       clear HO398
       clear HO401
       clear HB
       have HO0 := n0_
       have HO393 := n1_
       have HO398 := n2_
       have HO401 := n3_
       have HO404 := n4_
       have HB := n5_
       clear n0_ n1_ n2_ n3_ n4_ n5_
       (try clear hb)
       (try clear hb2)
       (try clear hk)
       (try clear hi)
       (try clear ho0)
       refine hK.out _ _ trivial (fun hHeld => ?_)
       clear hK K
       refine norm_ (a' := ?_) ?_ ?_
       rotate_left
       ·show Act.put _ (some 25) _ = _
        simp only [Act.put, List.setIfInBounds_toArray, List.set_cons_zero, List.set_cons_succ, i64_w, i32_w]
        rfl
       refine Gv.pu 9 (some 4) HT_ ?_
       refine Gv.pu 10 (some 5) HT_ ?_
       refine done_ (done_of HT_.out (by kernel_rfl)) ?_
       try go_wp2
       go_ret2
       exact ⟨_, by first | rfl | (simp [errW_none, errW_some] <;> rfl) | (simp only [← hji11]; first | rfl | (simp [errW_none, errW_some] <;> rfl)) | (simp [*, errW_none, errW_some] <;> rfl), by (with_reducible repeat (first | apply Kd.R_alloc | apply Kd.R_drewN | apply Kd.R_drew)); exact Kd.R_mono HO404.out (fun _ hk => hk.1), Gv.bw⟩
      ·rw [if_neg c13] at H
       exact absurd H (by simp)
     ·rw [if_neg c12] at H
      exact absurd H (by simp)
    ·rw [if_neg c10] at H
     exact absurd H (by simp)
   ·rw [if_neg c9] at H
    exact absurd H (by simp)
 ·replace c5 := Bool.eq_false_iff.mpr c5
  subst c5
  have H1 : (some (([] : List (S55)), 1)) = some (r1, r2) := by rw [if_neg (show ¬ (false = true) by decide)] at H; exact H
  clear H
  have H := H1
  clear H1
  simp only [Option.some.injEq, Prod.mk.injEq] at H
  obtain ⟨rfl, rfl⟩ := H
  go_enter Try.func23, Try.ntmps23
  go_wp2_with (first | ((with_reducible refine gate_callee (f := 41) rfl ?_); refine goesL_ (some 9) rfl rfl Try.func41 (by kernel_rfl) rfl #[.slice A0 l0.length c0, .int .i64 a1] rfl Gv.lm ?_; (with_reducible refine (impl_ruleAt.calls _ _ l0 a1 t387 _ ?side1 ?side2 A3.out).mono ?_); (case side1 => repeat (first | exact (Kd.V_reads' HO0.out).2.2 | (with_reducible refine Kd.C_alloc ?_ _) | (with_reducible refine Kd.C_drewN ?_ _) | (with_reducible refine Kd.C_drew ?_))); (case side2 => exact (Kd.V_reads' HO0.out).2.1); rintro e w24 ⟨rfl, hb⟩; refine ⟨_, rfl, ?_⟩; have n0_ := Gv.a0 (Kd.V_below (by (with_reducible repeat (first | apply Kd.V_alloc | apply Kd.V_drewN | apply Kd.V_drew)); exact HO0.out) hb); have n1_ := Gv.a0 (below_step Gv.bw hb); clear HO0; clear HB; have HO0 := n0_; have HB := n1_; clear n0_ n1_; (try clear hb); (try clear hb2); (try clear hk); (try clear hi)) | ((with_reducible refine gate_callee (f := 11) rfl ?_); refine goesL_ (some 12) rfl rfl Try.func11 (by kernel_rfl) rfl #[.slice A0 l0.length c0] rfl Gv.lm ?_; (with_reducible refine (impl_RulesOk.calls k _ _ l0 false _ ?side1 ?side2 A4.out).mono ?_); (case side1 => repeat (first | exact (Kd.V_reads' HO0.out).2.2 | (with_reducible refine Kd.C_alloc ?_ _) | (with_reducible refine Kd.C_drewN ?_ _) | (with_reducible refine Kd.C_drew ?_))); (case side2 => exact (Kd.V_reads' HO0.out).2.1); rintro e w25 ⟨rfl, hb⟩; refine ⟨_, rfl, ?_⟩; have n0_ := Gv.a0 (Kd.V_below (by (with_reducible repeat (first | apply Kd.V_alloc | apply Kd.V_drewN | apply Kd.V_drew)); exact HO0.out) hb); have n1_ := Gv.a0 (below_step Gv.bw hb); clear HO0; clear HB; have HO0 := n0_; have HB := n1_; clear n0_ n1_; (try clear hb); (try clear hb2); (try clear hk); (try clear hi)))
  go_ret2
  exact ⟨_, Gv.rt, by first | exact Kd.R_nil _ _ _ _ _ | exact Kd.N_nil _ _ _ _ _ | exact Kd.V_nil _ _ _ _ _ | exact Kd.Q_nil _ _ _ _ _ | exact Kd.S_nil _ _ _ _ _, Gv.bw⟩

/-! ### laws_heldRuleS: function 24 -/
def laws_heldRuleS.f (l0 : List (S55)) (a1 : Int) : Option (Int) := Gv.heldL (fun (x : S55) (a : Int) => decide (x.f0 = Gv.stepN Gv.nx 0 a) && (decide (x.f1.f0.f0 = Gv.stepN Gv.nx 1 a) && (decide (x.f1.f0.f1 = Gv.stepN Gv.nx 2 a) && (decide (x.f1.f0.f2 = Gv.stepN Gv.nx 3 a) && (decide (x.f1.f0.f3 = Gv.stepN Gv.nx 4 a) && (decide (x.f1.f0.f4 = Gv.stepN Gv.nx 5 a) && (decide (x.f1.f1 = Gv.stepN Gv.nx 6 a) && (decide (x.f2.f0.f0 = Gv.stepN Gv.nx 7 a) && (decide (x.f2.f0.f1 = Gv.stepN Gv.nx 8 a) && (decide (x.f2.f0.f2 = Gv.stepN Gv.nx 9 a) && (decide (x.f2.f0.f3 = Gv.stepN Gv.nx 10 a) && (decide (x.f2.f0.f4 = Gv.stepN Gv.nx 11 a) && (decide (x.f2.f1 = Gv.stepN Gv.nx 12 a) && (decide (x.f3 = Gv.stepN Gv.nx 13 a) && (decide (x.f4 = Gv.stepN Gv.nx 14 a) && (decide (x.f5 = Gv.stepN Gv.nx 15 a) && (decide (x.f6 = Gv.stepN Gv.nx 16 a) && (decide (x.f7 = Gv.stepN Gv.nx 17 a) && (decide (x.f8 = Gv.stepN Gv.nx 18 a) && (decide (x.f9 = Gv.stepN Gv.nx 19 a) && (decide (x.f10 = Gv.stepN Gv.nx 20 a)))))))))))))))))))))) (Gv.stepN Gv.nx 21) l0 a1
set_option maxHeartbeats 8000000 in
set_option maxRecDepth 100000 in
theorem laws_heldRuleS.calls (A0 : Option Addr) (c0 : Nat) (l0 : List (S55)) (a1 : Int) (r : Int) (w : World) (hr0 : Kd.C k55 w A0 l0.length l0) (hc0 : l0.length ≤ c0) (h : laws_heldRuleS.f l0 a1 = some r) :
  Calls Try.prog 24 #[.slice A0 l0.length c0, .int .i64 a1] w fun e w' => e = .returned (.int .i64 r) ∧ Below w.heap.size w w' := by
 have hlm := hr0.2.1
 have HR0 := Gv.a0 hr0
 have H0 := Gv.a0 h
 clear hr0 h hc0
 go_enter Try.func24, Try.ntmps24
 go_wp2
 go_loopg [1, 5] l0.length (fun gg s1 s5 wr => ∃ (kk : Nat) (x_ : Int), kk ≤ l0.length ∧ l0.length - kk ≤ gg ∧ s1 = .int .i64 x_ ∧ s5 = .int .i64 kk ∧ Aside0 (Gv.heldL (fun (x : S55) (a : Int) => decide (x.f0 = Gv.stepN Gv.nx 0 a) && (decide (x.f1.f0.f0 = Gv.stepN Gv.nx 1 a) && (decide (x.f1.f0.f1 = Gv.stepN Gv.nx 2 a) && (decide (x.f1.f0.f2 = Gv.stepN Gv.nx 3 a) && (decide (x.f1.f0.f3 = Gv.stepN Gv.nx 4 a) && (decide (x.f1.f0.f4 = Gv.stepN Gv.nx 5 a) && (decide (x.f1.f1 = Gv.stepN Gv.nx 6 a) && (decide (x.f2.f0.f0 = Gv.stepN Gv.nx 7 a) && (decide (x.f2.f0.f1 = Gv.stepN Gv.nx 8 a) && (decide (x.f2.f0.f2 = Gv.stepN Gv.nx 9 a) && (decide (x.f2.f0.f3 = Gv.stepN Gv.nx 10 a) && (decide (x.f2.f0.f4 = Gv.stepN Gv.nx 11 a) && (decide (x.f2.f1 = Gv.stepN Gv.nx 12 a) && (decide (x.f3 = Gv.stepN Gv.nx 13 a) && (decide (x.f4 = Gv.stepN Gv.nx 14 a) && (decide (x.f5 = Gv.stepN Gv.nx 15 a) && (decide (x.f6 = Gv.stepN Gv.nx 16 a) && (decide (x.f7 = Gv.stepN Gv.nx 17 a) && (decide (x.f8 = Gv.stepN Gv.nx 18 a) && (decide (x.f9 = Gv.stepN Gv.nx 19 a) && (decide (x.f10 = Gv.stepN Gv.nx 20 a)))))))))))))))))))))) (Gv.stepN Gv.nx 21) (l0.drop kk) x_ = some r) ∧ Aside0 (Drawn0 w wr))
 case atStart => exact ⟨0, a1, Nat.zero_le _, by omega, rfl, rfl, ⟨H0.out⟩, ⟨Drawn0.refl w⟩⟩
 case round =>
  obtain ⟨kk, z0, hkk, hg, rfl, rfl, HN, HD⟩ := hrel
  by_cases hlt : kk < l0.length
  ·have hltz : (kk : Int) < (l0.length : Int) := by omega
   have hk0 : 0 ≤ (kk : Int) := by omega
   obtain ⟨ad, e1, hx0, hx1, hx2, hx3, hx4, hx5, hx6, hx7, hx8, hx9, hx10, hx11, hx12, hx13, hx14, hx15, hx16, hx17, hx18, hx19, hx20⟩ := at_T55 (Kd.C_below HR0.out HD.out.below) (kk : Int) hk0 hltz
   cases e1
   obtain ⟨y_, hy_⟩ : ∃ y_, y_ = rd_T55 l0 kk := ⟨_, rfl⟩
   rw [← hy_, Int.toNat_natCast] at hx0 hx1 hx2 hx3 hx4 hx5 hx6 hx7 hx8 hx9 hx10 hx11 hx12 hx13 hx14 hx15 hx16 hx17 hx18 hx19 hx20
   have hN := HN.out
   have hget : l0.drop kk = y_ :: l0.drop (kk + 1) := by
    rw [hy_, List.drop_eq_getElem_cons hlt]
    congr 1
    unfold rd_T55
    rw [Int.toNat_natCast, List.getD_eq_getElem?_getD, List.getElem?_eq_getElem hlt]
    rfl
   rw [hget, Gv.heldL] at hN
   clear hget hy_ HN
   by_cases hq : (fun (x : S55) (a : Int) => decide (x.f0 = Gv.stepN Gv.nx 0 a) && (decide (x.f1.f0.f0 = Gv.stepN Gv.nx 1 a) && (decide (x.f1.f0.f1 = Gv.stepN Gv.nx 2 a) && (decide (x.f1.f0.f2 = Gv.stepN Gv.nx 3 a) && (decide (x.f1.f0.f3 = Gv.stepN Gv.nx 4 a) && (decide (x.f1.f0.f4 = Gv.stepN Gv.nx 5 a) && (decide (x.f1.f1 = Gv.stepN Gv.nx 6 a) && (decide (x.f2.f0.f0 = Gv.stepN Gv.nx 7 a) && (decide (x.f2.f0.f1 = Gv.stepN Gv.nx 8 a) && (decide (x.f2.f0.f2 = Gv.stepN Gv.nx 9 a) && (decide (x.f2.f0.f3 = Gv.stepN Gv.nx 10 a) && (decide (x.f2.f0.f4 = Gv.stepN Gv.nx 11 a) && (decide (x.f2.f1 = Gv.stepN Gv.nx 12 a) && (decide (x.f3 = Gv.stepN Gv.nx 13 a) && (decide (x.f4 = Gv.stepN Gv.nx 14 a) && (decide (x.f5 = Gv.stepN Gv.nx 15 a) && (decide (x.f6 = Gv.stepN Gv.nx 16 a) && (decide (x.f7 = Gv.stepN Gv.nx 17 a) && (decide (x.f8 = Gv.stepN Gv.nx 18 a) && (decide (x.f9 = Gv.stepN Gv.nx 19 a) && (decide (x.f10 = Gv.stepN Gv.nx 20 a)))))))))))))))))))))) y_ z0 = true
   ·rw [if_pos hq] at hN
    simp only [Bool.and_eq_true, decide_eq_true_eq] at hq
    obtain ⟨q0, q1, q2, q3, q4, q5, q6, q7, q8, q9, q10, q11, q12, q13, q14, q15, q16, q17, q18, q19, q20⟩ := hq
    have e0 : Gv.stepN Gv.nx 0 z0 = z0 := rfl
    obtain ⟨z1, hw1⟩ : ∃ z_, IntKind.i64.wrap (z0 + 1) = z_ := ⟨_, rfl⟩
    have e1 : Gv.stepN Gv.nx 1 z0 = z1 := by rw [Gv.stepN, e0]; first | exact hw1 | exact (i64_w _).symm.trans hw1
    obtain ⟨z2, hw2⟩ : ∃ z_, IntKind.i64.wrap (z1 + 1) = z_ := ⟨_, rfl⟩
    have e2 : Gv.stepN Gv.nx 2 z0 = z2 := by rw [Gv.stepN, e1]; first | exact hw2 | exact (i64_w _).symm.trans hw2
    obtain ⟨z3, hw3⟩ : ∃ z_, IntKind.i64.wrap (z2 + 1) = z_ := ⟨_, rfl⟩
    have e3 : Gv.stepN Gv.nx 3 z0 = z3 := by rw [Gv.stepN, e2]; first | exact hw3 | exact (i64_w _).symm.trans hw3
    obtain ⟨z4, hw4⟩ : ∃ z_, IntKind.i64.wrap (z3 + 1) = z_ := ⟨_, rfl⟩
    have e4 : Gv.stepN Gv.nx 4 z0 = z4 := by rw [Gv.stepN, e3]; first | exact hw4 | exact (i64_w _).symm.trans hw4
    obtain ⟨z5, hw5⟩ : ∃ z_, IntKind.i64.wrap (z4 + 1) = z_ := ⟨_, rfl⟩
    have e5 : Gv.stepN Gv.nx 5 z0 = z5 := by rw [Gv.stepN, e4]; first | exact hw5 | exact (i64_w _).symm.trans hw5
    obtain ⟨z6, hw6⟩ : ∃ z_, IntKind.i64.wrap (z5 + 1) = z_ := ⟨_, rfl⟩
    have e6 : Gv.stepN Gv.nx 6 z0 = z6 := by rw [Gv.stepN, e5]; first | exact hw6 | exact (i64_w _).symm.trans hw6
    obtain ⟨z7, hw7⟩ : ∃ z_, IntKind.i64.wrap (z6 + 1) = z_ := ⟨_, rfl⟩
    have e7 : Gv.stepN Gv.nx 7 z0 = z7 := by rw [Gv.stepN, e6]; first | exact hw7 | exact (i64_w _).symm.trans hw7
    obtain ⟨z8, hw8⟩ : ∃ z_, IntKind.i64.wrap (z7 + 1) = z_ := ⟨_, rfl⟩
    have e8 : Gv.stepN Gv.nx 8 z0 = z8 := by rw [Gv.stepN, e7]; first | exact hw8 | exact (i64_w _).symm.trans hw8
    obtain ⟨z9, hw9⟩ : ∃ z_, IntKind.i64.wrap (z8 + 1) = z_ := ⟨_, rfl⟩
    have e9 : Gv.stepN Gv.nx 9 z0 = z9 := by rw [Gv.stepN, e8]; first | exact hw9 | exact (i64_w _).symm.trans hw9
    obtain ⟨z10, hw10⟩ : ∃ z_, IntKind.i64.wrap (z9 + 1) = z_ := ⟨_, rfl⟩
    have e10 : Gv.stepN Gv.nx 10 z0 = z10 := by rw [Gv.stepN, e9]; first | exact hw10 | exact (i64_w _).symm.trans hw10
    obtain ⟨z11, hw11⟩ : ∃ z_, IntKind.i64.wrap (z10 + 1) = z_ := ⟨_, rfl⟩
    have e11 : Gv.stepN Gv.nx 11 z0 = z11 := by rw [Gv.stepN, e10]; first | exact hw11 | exact (i64_w _).symm.trans hw11
    obtain ⟨z12, hw12⟩ : ∃ z_, IntKind.i64.wrap (z11 + 1) = z_ := ⟨_, rfl⟩
    have e12 : Gv.stepN Gv.nx 12 z0 = z12 := by rw [Gv.stepN, e11]; first | exact hw12 | exact (i64_w _).symm.trans hw12
    obtain ⟨z13, hw13⟩ : ∃ z_, IntKind.i64.wrap (z12 + 1) = z_ := ⟨_, rfl⟩
    have e13 : Gv.stepN Gv.nx 13 z0 = z13 := by rw [Gv.stepN, e12]; first | exact hw13 | exact (i64_w _).symm.trans hw13
    obtain ⟨z14, hw14⟩ : ∃ z_, IntKind.i64.wrap (z13 + 1) = z_ := ⟨_, rfl⟩
    have e14 : Gv.stepN Gv.nx 14 z0 = z14 := by rw [Gv.stepN, e13]; first | exact hw14 | exact (i64_w _).symm.trans hw14
    obtain ⟨z15, hw15⟩ : ∃ z_, IntKind.i64.wrap (z14 + 1) = z_ := ⟨_, rfl⟩
    have e15 : Gv.stepN Gv.nx 15 z0 = z15 := by rw [Gv.stepN, e14]; first | exact hw15 | exact (i64_w _).symm.trans hw15
    obtain ⟨z16, hw16⟩ : ∃ z_, IntKind.i64.wrap (z15 + 1) = z_ := ⟨_, rfl⟩
    have e16 : Gv.stepN Gv.nx 16 z0 = z16 := by rw [Gv.stepN, e15]; first | exact hw16 | exact (i64_w _).symm.trans hw16
    obtain ⟨z17, hw17⟩ : ∃ z_, IntKind.i64.wrap (z16 + 1) = z_ := ⟨_, rfl⟩
    have e17 : Gv.stepN Gv.nx 17 z0 = z17 := by rw [Gv.stepN, e16]; first | exact hw17 | exact (i64_w _).symm.trans hw17
    obtain ⟨z18, hw18⟩ : ∃ z_, IntKind.i64.wrap (z17 + 1) = z_ := ⟨_, rfl⟩
    have e18 : Gv.stepN Gv.nx 18 z0 = z18 := by rw [Gv.stepN, e17]; first | exact hw18 | exact (i64_w _).symm.trans hw18
    obtain ⟨z19, hw19⟩ : ∃ z_, IntKind.i64.wrap (z18 + 1) = z_ := ⟨_, rfl⟩
    have e19 : Gv.stepN Gv.nx 19 z0 = z19 := by rw [Gv.stepN, e18]; first | exact hw19 | exact (i64_w _).symm.trans hw19
    obtain ⟨z20, hw20⟩ : ∃ z_, IntKind.i64.wrap (z19 + 1) = z_ := ⟨_, rfl⟩
    have e20 : Gv.stepN Gv.nx 20 z0 = z20 := by rw [Gv.stepN, e19]; first | exact hw20 | exact (i64_w _).symm.trans hw20
    obtain ⟨z21, hw21⟩ : ∃ z_, IntKind.i64.wrap (z20 + 1) = z_ := ⟨_, rfl⟩
    have e21 : Gv.stepN Gv.nx 21 z0 = z21 := by rw [Gv.stepN, e20]; first | exact hw21 | exact (i64_w _).symm.trans hw21
    rw [q0, e0] at hx0
    rw [q1, e1] at hx1
    rw [q2, e2] at hx2
    rw [q3, e3] at hx3
    rw [q4, e4] at hx4
    rw [q5, e5] at hx5
    rw [q6, e6] at hx6
    rw [q7, e7] at hx7
    rw [q8, e8] at hx8
    rw [q9, e9] at hx9
    rw [q10, e10] at hx10
    rw [q11, e11] at hx11
    rw [q12, e12] at hx12
    rw [q13, e13] at hx13
    rw [q14, e14] at hx14
    rw [q15, e15] at hx15
    rw [q16, e16] at hx16
    rw [q17, e17] at hx17
    rw [q18, e18] at hx18
    rw [q19, e19] at hx19
    rw [q20, e20] at hx20
    rw [e21] at hN
    have HN2 := Gv.a0 hN
    clear hN q0 q1 q2 q3 q4 q5 q6 q7 q8 q9 q10 q11 q12 q13 q14 q15 q16 q17 q18 q19 q20
    go_wp2_with fail
    go_roundg (l0.length - (kk + 1))
    case measure => omega
    case rel => exact ⟨kk + 1, z21, by omega, by omega, by simp [*], by go_num, HN2, HD⟩
   ·rw [if_neg hq] at hN
    cases hN
  ·have hltz : ¬ (kk : Int) < (l0.length : Int) := by omega
   have hN := HN.out
   rw [List.drop_eq_nil_of_le (by omega), Gv.heldL] at hN
   have HN2 := Gv.a0 (Option.some.inj hN)
   clear hN
   go_wp2_with fail
   go_ret
   exact ⟨by rw [← HN2.out]; rfl, by first | exact HD.out | exact HD.out.below⟩

/-! ### laws_FnExactRuleDrop: function 6 -/
def laws_FnExactRuleDrop.f (k : Nat) (l0 : List (S50)) (a1 : Int) : Option (Bool) := (laws_szRuleS.f l0 1048576).bind fun t405 => (if t405 < 0 then (some true) else ((laws_toRuleS.f k l0).bind fun t406 => ((spec_RuleDrop.f k t406 a1).bind fun bt409 => ((laws_toRuleS.f k l0).bind fun t413 => ((impl_RuleDrop.f k t413 a1).bind fun bt416 => ((laws_eqRuleS.f k bt416.1 bt409.1).bind fun t420 => (if t420 = true then (if bt416.2 = bt409.2 then ((laws_toRuleS.f k l0).bind fun t421 => ((laws_eqRuleS.f k t413 t421).bind fun t424 => (if t424 = true then ((laws_markRuleS.f t413 1).bind fun bt425 => (if bt425.1 < 0 then (none) else ((laws_eqRuleS.f k bt416.1 bt409.1).bind fun t427 => (if t427 = true then ((laws_markRuleS.f bt416.1 1).bind fun bt428 => ((laws_heldRuleS.f bt428.2 1).bind fun t430 => (if t430 < 0 then (none) else (if t430 = bt428.1 then ((laws_toRuleS.f k l0).bind fun t431 => ((impl_RuleDrop.f k t431 a1).bind fun bt434 => ((laws_eqRuleS.f k bt434.1 bt409.1).bind fun t438 => (if t438 = true then (if bt434.2 = bt409.2 then ((laws_heldRuleS.f bt428.2 1).bind fun t439 => (if t439 < 0 then (none) else (if t439 = bt428.1 then (some true) else (none)))) else (none)) else (none))))) else (none))))) else (none))))) else (none)))) else (none)) else (none))))))))
theorem laws_FnExactRuleDrop.mono : ∀ a0 a1 k, LeO (laws_FnExactRuleDrop.f k a0 a1) (laws_FnExactRuleDrop.f (k + 1) a0 a1) := by
 intro a0 a1 k
 unfold laws_FnExactRuleDrop.f
 repeat' first
   | (with_reducible exact impl_RuleDrop.mono _ _ _)
   | (with_reducible exact laws_eqRuleS.mono _ _ _)
   | (with_reducible exact laws_toRuleS.mono _ _)
   | (with_reducible exact spec_RuleDrop.mono _ _ _)
   | (with_reducible exact LeO.refl _)
   | (with_reducible exact LeO.none _)
   | (with_reducible refine LeO.ite ?_ ?_)
   | (with_reducible refine LeO.bind ?_ (fun _ => ?_))
   | exact impl_RuleDrop.mono _ _ _
   | exact laws_eqRuleS.mono _ _ _
   | exact laws_toRuleS.mono _ _
   | exact spec_RuleDrop.mono _ _ _
   | exact LeO.none _
   | refine LeO.ite ?_ ?_
   | refine LeO.bind ?_ (fun _ => ?_)
set_option maxHeartbeats 8000000 in
set_option maxRecDepth 100000 in
theorem laws_FnExactRuleDrop.calls (k : Nat) (A0 : Option Addr) (c0 : Nat) (l0 : List (S50)) (a1 : Int) (r : Bool) (w : World) (hr0 : Kd.C k50 w A0 l0.length l0) (hc0 : l0.length ≤ c0) (h : laws_FnExactRuleDrop.f k l0 a1 = some r) :
  Calls Try.prog 6 #[.slice A0 l0.length c0, .int .i64 a1] w fun e w' => e = .returned (.bool r) ∧ Below w.heap.size w w' := by
 have HR0 := Gv.a0 hr0
 have HC0 := Gv.a0 hc0
 clear hr0 hc0
 have HB := Gv.a0 (Below.refl w.heap.size w)
 have H : ((laws_szRuleS.f l0 1048576).bind fun t405 => (if t405 < 0 then (some true) else ((laws_toRuleS.f k l0).bind fun t406 => ((spec_RuleDrop.f k t406 a1).bind fun bt409 => ((laws_toRuleS.f k l0).bind fun t413 => ((impl_RuleDrop.f k t413 a1).bind fun bt416 => ((laws_eqRuleS.f k bt416.1 bt409.1).bind fun t420 => (if t420 = true then (if bt416.2 = bt409.2 then ((laws_toRuleS.f k l0).bind fun t421 => ((laws_eqRuleS.f k t413 t421).bind fun t424 => (if t424 = true then ((laws_markRuleS.f t413 1).bind fun bt425 => (if bt425.1 < 0 then (none) else ((laws_eqRuleS.f k bt416.1 bt409.1).bind fun t427 => (if t427 = true then ((laws_markRuleS.f bt416.1 1).bind fun bt428 => ((laws_heldRuleS.f bt428.2 1).bind fun t430 => (if t430 < 0 then (none) else (if t430 = bt428.1 then ((laws_toRuleS.f k l0).bind fun t431 => ((impl_RuleDrop.f k t431 a1).bind fun bt434 => ((laws_eqRuleS.f k bt434.1 bt409.1).bind fun t438 => (if t438 = true then (if bt434.2 = bt409.2 then ((laws_heldRuleS.f bt428.2 1).bind fun t439 => (if t439 < 0 then (none) else (if t439 = bt428.1 then (some true) else (none)))) else (none)) else (none))))) else (none))))) else (none))))) else (none)))) else (none)) else (none))))))))) = some r := h
 clear h
 replace H := Option.bind_eq_some_iff.mp H
 obtain ⟨t405, A30, H⟩ := H
 replace H : (if t405 < 0 then (some true) else ((laws_toRuleS.f k l0).bind fun t406 => ((spec_RuleDrop.f k t406 a1).bind fun bt409 => ((laws_toRuleS.f k l0).bind fun t413 => ((impl_RuleDrop.f k t413 a1).bind fun bt416 => ((laws_eqRuleS.f k bt416.1 bt409.1).bind fun t420 => (if t420 = true then (if bt416.2 = bt409.2 then ((laws_toRuleS.f k l0).bind fun t421 => ((laws_eqRuleS.f k t413 t421).bind fun t424 => (if t424 = true then ((laws_markRuleS.f t413 1).bind fun bt425 => (if bt425.1 < 0 then (none) else ((laws_eqRuleS.f k bt416.1 bt409.1).bind fun t427 => (if t427 = true then ((laws_markRuleS.f bt416.1 1).bind fun bt428 => ((laws_heldRuleS.f bt428.2 1).bind fun t430 => (if t430 < 0 then (none) else (if t430 = bt428.1 then ((laws_toRuleS.f k l0).bind fun t431 => ((impl_RuleDrop.f k t431 a1).bind fun bt434 => ((laws_eqRuleS.f k bt434.1 bt409.1).bind fun t438 => (if t438 = true then (if bt434.2 = bt409.2 then ((laws_heldRuleS.f bt428.2 1).bind fun t439 => (if t439 < 0 then (none) else (if t439 = bt428.1 then (some true) else (none)))) else (none)) else (none))))) else (none))))) else (none))))) else (none)))) else (none)) else (none)))))))) = some r := H
 have A3 := Gv.a0 A30
 clear A30
 by_cases c4 : t405 < 0
 ·rw [if_pos c4] at H
  have c4b0 : decide (t405 < 0) = true := decide_eq_true c4
  clear c4
  obtain rfl := Option.some.inj H
  go_enter Try.func6, Try.ntmps6
  go_wp2_with (first | ((with_reducible refine gate_callee (f := 8) rfl ?_); refine goesL_ (some 18) rfl rfl Try.func8 (by kernel_rfl) rfl #[.slice A0 l0.length c0, .int .i64 1048576] rfl Gv.lm ?_; (with_reducible refine (laws_szRuleS.calls _ _ l0 1048576 t405 _ ?side1 ?side2 A3.out).mono ?_); (case side1 => repeat (first | exact HR0.out | (with_reducible refine Kd.C_alloc ?_ _) | (with_reducible refine Kd.C_drewN ?_ _) | (with_reducible refine Kd.C_drew ?_))); (case side2 => exact HC0.out); rintro e w' ⟨rfl, ⟨nd, rfl⟩⟩; refine ⟨_, rfl, ?_⟩))
  go_ret
  exact ⟨Gv.rt, Gv.bw⟩
 ·rw [if_neg c4] at H
  have c4b0 : decide (t405 < 0) = false := decide_eq_false c4
  clear c4
  replace H := Option.bind_eq_some_iff.mp H
  obtain ⟨t406, A50, H⟩ := H
  replace H : ((spec_RuleDrop.f k t406 a1).bind fun bt409 => ((laws_toRuleS.f k l0).bind fun t413 => ((impl_RuleDrop.f k t413 a1).bind fun bt416 => ((laws_eqRuleS.f k bt416.1 bt409.1).bind fun t420 => (if t420 = true then (if bt416.2 = bt409.2 then ((laws_toRuleS.f k l0).bind fun t421 => ((laws_eqRuleS.f k t413 t421).bind fun t424 => (if t424 = true then ((laws_markRuleS.f t413 1).bind fun bt425 => (if bt425.1 < 0 then (none) else ((laws_eqRuleS.f k bt416.1 bt409.1).bind fun t427 => (if t427 = true then ((laws_markRuleS.f bt416.1 1).bind fun bt428 => ((laws_heldRuleS.f bt428.2 1).bind fun t430 => (if t430 < 0 then (none) else (if t430 = bt428.1 then ((laws_toRuleS.f k l0).bind fun t431 => ((impl_RuleDrop.f k t431 a1).bind fun bt434 => ((laws_eqRuleS.f k bt434.1 bt409.1).bind fun t438 => (if t438 = true then (if bt434.2 = bt409.2 then ((laws_heldRuleS.f bt428.2 1).bind fun t439 => (if t439 < 0 then (none) else (if t439 = bt428.1 then (some true) else (none)))) else (none)) else (none))))) else (none))))) else (none))))) else (none)))) else (none)) else (none)))))) = some r := H
  have A5 := Gv.a0 A50
  clear A50
  replace H := Option.bind_eq_some_iff.mp H
  obtain ⟨⟨t409, t410⟩, A60, H⟩ := H
  replace H : ((laws_toRuleS.f k l0).bind fun t413 => ((impl_RuleDrop.f k t413 a1).bind fun bt416 => ((laws_eqRuleS.f k bt416.1 t409).bind fun t420 => (if t420 = true then (if bt416.2 = t410 then ((laws_toRuleS.f k l0).bind fun t421 => ((laws_eqRuleS.f k t413 t421).bind fun t424 => (if t424 = true then ((laws_markRuleS.f t413 1).bind fun bt425 => (if bt425.1 < 0 then (none) else ((laws_eqRuleS.f k bt416.1 t409).bind fun t427 => (if t427 = true then ((laws_markRuleS.f bt416.1 1).bind fun bt428 => ((laws_heldRuleS.f bt428.2 1).bind fun t430 => (if t430 < 0 then (none) else (if t430 = bt428.1 then ((laws_toRuleS.f k l0).bind fun t431 => ((impl_RuleDrop.f k t431 a1).bind fun bt434 => ((laws_eqRuleS.f k bt434.1 t409).bind fun t438 => (if t438 = true then (if bt434.2 = t410 then ((laws_heldRuleS.f bt428.2 1).bind fun t439 => (if t439 < 0 then (none) else (if t439 = bt428.1 then (some true) else (none)))) else (none)) else (none))))) else (none))))) else (none))))) else (none)))) else (none)) else (none))))) = some r := H
  have A6 := Gv.a0 A60
  clear A60
  replace H := Option.bind_eq_some_iff.mp H
  obtain ⟨t413, A70, H⟩ := H
  replace H : ((impl_RuleDrop.f k t413 a1).bind fun bt416 => ((laws_eqRuleS.f k bt416.1 t409).bind fun t420 => (if t420 = true then (if bt416.2 = t410 then ((laws_toRuleS.f k l0).bind fun t421 => ((laws_eqRuleS.f k t413 t421).bind fun t424 => (if t424 = true then ((laws_markRuleS.f t413 1).bind fun bt425 => (if bt425.1 < 0 then (none) else ((laws_eqRuleS.f k bt416.1 t409).bind fun t427 => (if t427 = true then ((laws_markRuleS.f bt416.1 1).bind fun bt428 => ((laws_heldRuleS.f bt428.2 1).bind fun t430 => (if t430 < 0 then (none) else (if t430 = bt428.1 then ((laws_toRuleS.f k l0).bind fun t431 => ((impl_RuleDrop.f k t431 a1).bind fun bt434 => ((laws_eqRuleS.f k bt434.1 t409).bind fun t438 => (if t438 = true then (if bt434.2 = t410 then ((laws_heldRuleS.f bt428.2 1).bind fun t439 => (if t439 < 0 then (none) else (if t439 = bt428.1 then (some true) else (none)))) else (none)) else (none))))) else (none))))) else (none))))) else (none)))) else (none)) else (none)))) = some r := H
  have A7 := Gv.a0 A70
  clear A70
  replace H := Option.bind_eq_some_iff.mp H
  obtain ⟨⟨t416, t419⟩, A80, H⟩ := H
  replace H : ((laws_eqRuleS.f k t416 t409).bind fun t420 => (if t420 = true then (if t419 = t410 then ((laws_toRuleS.f k l0).bind fun t421 => ((laws_eqRuleS.f k t413 t421).bind fun t424 => (if t424 = true then ((laws_markRuleS.f t413 1).bind fun bt425 => (if bt425.1 < 0 then (none) else ((laws_eqRuleS.f k t416 t409).bind fun t427 => (if t427 = true then ((laws_markRuleS.f t416 1).bind fun bt428 => ((laws_heldRuleS.f bt428.2 1).bind fun t430 => (if t430 < 0 then (none) else (if t430 = bt428.1 then ((laws_toRuleS.f k l0).bind fun t431 => ((impl_RuleDrop.f k t431 a1).bind fun bt434 => ((laws_eqRuleS.f k bt434.1 t409).bind fun t438 => (if t438 = true then (if bt434.2 = t410 then ((laws_heldRuleS.f bt428.2 1).bind fun t439 => (if t439 < 0 then (none) else (if t439 = bt428.1 then (some true) else (none)))) else (none)) else (none))))) else (none))))) else (none))))) else (none)))) else (none)) else (none))) = some r := H
  have A8 := Gv.a0 A80
  clear A80
  replace H := Option.bind_eq_some_iff.mp H
  obtain ⟨t420, A90, H⟩ := H
  replace H : (if t420 = true then (if t419 = t410 then ((laws_toRuleS.f k l0).bind fun t421 => ((laws_eqRuleS.f k t413 t421).bind fun t424 => (if t424 = true then ((laws_markRuleS.f t413 1).bind fun bt425 => (if bt425.1 < 0 then (none) else ((laws_eqRuleS.f k t416 t409).bind fun t427 => (if t427 = true then ((laws_markRuleS.f t416 1).bind fun bt428 => ((laws_heldRuleS.f bt428.2 1).bind fun t430 => (if t430 < 0 then (none) else (if t430 = bt428.1 then ((laws_toRuleS.f k l0).bind fun t431 => ((impl_RuleDrop.f k t431 a1).bind fun bt434 => ((laws_eqRuleS.f k bt434.1 t409).bind fun t438 => (if t438 = true then (if bt434.2 = t410 then ((laws_heldRuleS.f bt428.2 1).bind fun t439 => (if t439 < 0 then (none) else (if t439 = bt428.1 then (some true) else (none)))) else (none)) else (none))))) else (none))))) else (none))))) else (none)))) else (none)) else (none)) = some r := H
  have A9 := Gv.a0 A90
  clear A90
  by_cases c10 : t420 = true
  ·subst c10
   have H1 : (if t419 = t410 then ((laws_toRuleS.f k l0).bind fun t421 => ((laws_eqRuleS.f k t413 t421).bind fun t424 => (if t424 = true then ((laws_markRuleS.f t413 1).bind fun bt425 => (if bt425.1 < 0 then (none) else ((laws_eqRuleS.f k t416 t409).bind fun t427 => (if t427 = true then ((laws_markRuleS.f t416 1).bind fun bt428 => ((laws_heldRuleS.f bt428.2 1).bind fun t430 => (if t430 < 0 then (none) else (if t430 = bt428.1 then ((laws_toRuleS.f k l0).bind fun t431 => ((impl_RuleDrop.f k t431 a1).bind fun bt434 => ((laws_eqRuleS.f k bt434.1 t409).bind fun t438 => (if t438 = true then (if bt434.2 = t410 then ((laws_heldRuleS.f bt428.2 1).bind fun t439 => (if t439 < 0 then (none) else (if t439 = bt428.1 then (some true) else (none)))) else (none)) else (none))))) else (none))))) else (none))))) else (none)))) else (none)) = some r := by rw [if_pos rfl] at H; exact H
   clear H
   have H := H1
   clear H1
   by_cases c11 : t419 = t410
   ·rw [if_pos c11] at H
    have c11b0 : (t419 == t410) = true := beq_iff_eq.mpr c11
    have c11b1 : (t419 != t410) = false := bne_eq_false_iff_eq.mpr c11
    clear c11
    replace H := Option.bind_eq_some_iff.mp H
    obtain ⟨t421, A120, H⟩ := H
    replace H : ((laws_eqRuleS.f k t413 t421).bind fun t424 => (if t424 = true then ((laws_markRuleS.f t413 1).bind fun bt425 => (if bt425.1 < 0 then (none) else ((laws_eqRuleS.f k t416 t409).bind fun t427 => (if t427 = true then ((laws_markRuleS.f t416 1).bind fun bt428 => ((laws_heldRuleS.f bt428.2 1).bind fun t430 => (if t430 < 0 then (none) else (if t430 = bt428.1 then ((laws_toRuleS.f k l0).bind fun t431 => ((impl_RuleDrop.f k t431 a1).bind fun bt434 => ((laws_eqRuleS.f k bt434.1 t409).bind fun t438 => (if t438 = true then (if bt434.2 = t410 then ((laws_heldRuleS.f bt428.2 1).bind fun t439 => (if t439 < 0 then (none) else (if t439 = bt428.1 then (some true) else (none)))) else (none)) else (none))))) else (none))))) else (none))))) else (none))) = some r := H
    have A12 := Gv.a0 A120
    clear A120
    replace H := Option.bind_eq_some_iff.mp H
    obtain ⟨t424, A130, H⟩ := H
    replace H : (if t424 = true then ((laws_markRuleS.f t413 1).bind fun bt425 => (if bt425.1 < 0 then (none) else ((laws_eqRuleS.f k t416 t409).bind fun t427 => (if t427 = true then ((laws_markRuleS.f t416 1).bind fun bt428 => ((laws_heldRuleS.f bt428.2 1).bind fun t430 => (if t430 < 0 then (none) else (if t430 = bt428.1 then ((laws_toRuleS.f k l0).bind fun t431 => ((impl_RuleDrop.f k t431 a1).bind fun bt434 => ((laws_eqRuleS.f k bt434.1 t409).bind fun t438 => (if t438 = true then (if bt434.2 = t410 then ((laws_heldRuleS.f bt428.2 1).bind fun t439 => (if t439 < 0 then (none) else (if t439 = bt428.1 then (some true) else (none)))) else (none)) else (none))))) else (none))))) else (none))))) else (none)) = some r := H
    have A13 := Gv.a0 A130
    clear A130
    by_cases c14 : t424 = true
    ·subst c14
     have H1 : ((laws_markRuleS.f t413 1).bind fun bt425 => (if bt425.1 < 0 then (none) else ((laws_eqRuleS.f k t416 t409).bind fun t427 => (if t427 = true then ((laws_markRuleS.f t416 1).bind fun bt428 => ((laws_heldRuleS.f bt428.2 1).bind fun t430 => (if t430 < 0 then (none) else (if t430 = bt428.1 then ((laws_toRuleS.f k l0).bind fun t431 => ((impl_RuleDrop.f k t431 a1).bind fun bt434 => ((laws_eqRuleS.f k bt434.1 t409).bind fun t438 => (if t438 = true then (if bt434.2 = t410 then ((laws_heldRuleS.f bt428.2 1).bind fun t439 => (if t439 < 0 then (none) else (if t439 = bt428.1 then (some true) else (none)))) else (none)) else (none))))) else (none))))) else (none))))) = some r := by rw [if_pos rfl] at H; exact H
     clear H
     have H := H1
     clear H1
     replace H := Option.bind_eq_some_iff.mp H
     obtain ⟨⟨t425, t426⟩, A150, H⟩ := H
     replace H : (if t425 < 0 then (none) else ((laws_eqRuleS.f k t416 t409).bind fun t427 => (if t427 = true then ((laws_markRuleS.f t416 1).bind fun bt428 => ((laws_heldRuleS.f bt428.2 1).bind fun t430 => (if t430 < 0 then (none) else (if t430 = bt428.1 then ((laws_toRuleS.f k l0).bind fun t431 => ((impl_RuleDrop.f k t431 a1).bind fun bt434 => ((laws_eqRuleS.f k bt434.1 t409).bind fun t438 => (if t438 = true then (if bt434.2 = t410 then ((laws_heldRuleS.f bt428.2 1).bind fun t439 => (if t439 < 0 then (none) else (if t439 = bt428.1 then (some true) else (none)))) else (none)) else (none))))) else (none))))) else (none)))) = some r := H
     have A15 := Gv.a0 A150
     clear A150
     by_cases c16 : t425 < 0
     ·rw [if_pos c16] at H
      exact absurd H (by simp)
     ·rw [if_neg c16] at H
      have c16b0 : decide (t425 < 0) = false := decide_eq_false c16
      clear c16
      replace H := Option.bind_eq_some_iff.mp H
      obtain ⟨t427, A170, H⟩ := H
      replace H : (if t427 = true then ((laws_markRuleS.f t416 1).bind fun bt428 => ((laws_heldRuleS.f bt428.2 1).bind fun t430 => (if t430 < 0 then (none) else (if t430 = bt428.1 then ((laws_toRuleS.f k l0).bind fun t431 => ((impl_RuleDrop.f k t431 a1).bind fun bt434 => ((laws_eqRuleS.f k bt434.1 t409).bind fun t438 => (if t438 = true then (if bt434.2 = t410 then ((laws_heldRuleS.f bt428.2 1).bind fun t439 => (if t439 < 0 then (none) else (if t439 = bt428.1 then (some true) else (none)))) else (none)) else (none))))) else (none))))) else (none)) = some r := H
      have A17 := Gv.a0 A170
      clear A170
      by_cases c18 : t427 = true
      ·subst c18
       have H1 : ((laws_markRuleS.f t416 1).bind fun bt428 => ((laws_heldRuleS.f bt428.2 1).bind fun t430 => (if t430 < 0 then (none) else (if t430 = bt428.1 then ((laws_toRuleS.f k l0).bind fun t431 => ((impl_RuleDrop.f k t431 a1).bind fun bt434 => ((laws_eqRuleS.f k bt434.1 t409).bind fun t438 => (if t438 = true then (if bt434.2 = t410 then ((laws_heldRuleS.f bt428.2 1).bind fun t439 => (if t439 < 0 then (none) else (if t439 = bt428.1 then (some true) else (none)))) else (none)) else (none))))) else (none))))) = some r := by rw [if_pos rfl] at H; exact H
       clear H
       have H := H1
       clear H1
       replace H := Option.bind_eq_some_iff.mp H
       obtain ⟨⟨t428, t429⟩, A190, H⟩ := H
       replace H : ((laws_heldRuleS.f t429 1).bind fun t430 => (if t430 < 0 then (none) else (if t430 = t428 then ((laws_toRuleS.f k l0).bind fun t431 => ((impl_RuleDrop.f k t431 a1).bind fun bt434 => ((laws_eqRuleS.f k bt434.1 t409).bind fun t438 => (if t438 = true then (if bt434.2 = t410 then ((laws_heldRuleS.f t429 1).bind fun t439 => (if t439 < 0 then (none) else (if t439 = t428 then (some true) else (none)))) else (none)) else (none))))) else (none)))) = some r := H
       have A19 := Gv.a0 A190
       clear A190
       replace H := Option.bind_eq_some_iff.mp H
       obtain ⟨t430, A200, H⟩ := H
       replace H : (if t430 < 0 then (none) else (if t430 = t428 then ((laws_toRuleS.f k l0).bind fun t431 => ((impl_RuleDrop.f k t431 a1).bind fun bt434 => ((laws_eqRuleS.f k bt434.1 t409).bind fun t438 => (if t438 = true then (if bt434.2 = t410 then ((laws_heldRuleS.f t429 1).bind fun t439 => (if t439 < 0 then (none) else (if t439 = t428 then (some true) else (none)))) else (none)) else (none))))) else (none))) = some r := H
       have A20 := Gv.a0 A200
       clear A200
       by_cases c21 : t430 < 0
       ·rw [if_pos c21] at H
        exact absurd H (by simp)
       ·rw [if_neg c21] at H
        have c21b0 : decide (t430 < 0) = false := decide_eq_false c21
        clear c21
        by_cases c22 : t430 = t428
        ·rw [if_pos c22] at H
         have c22b0 : (t430 == t428) = true := beq_iff_eq.mpr c22
         have c22b1 : (t430 != t428) = false := bne_eq_false_iff_eq.mpr c22
         clear c22
         replace H := Option.bind_eq_some_iff.mp H
         obtain ⟨t431, A230, H⟩ := H
         replace H : ((impl_RuleDrop.f k t431 a1).bind fun bt434 => ((laws_eqRuleS.f k bt434.1 t409).bind fun t438 => (if t438 = true then (if bt434.2 = t410 then ((laws_heldRuleS.f t429 1).bind fun t439 => (if t439 < 0 then (none) else (if t439 = t428 then (some true) else (none)))) else (none)) else (none)))) = some r := H
         have A23 := Gv.a0 A230
         clear A230
         replace H := Option.bind_eq_some_iff.mp H
         obtain ⟨⟨t434, t437⟩, A240, H⟩ := H
         replace H : ((laws_eqRuleS.f k t434 t409).bind fun t438 => (if t438 = true then (if t437 = t410 then ((laws_heldRuleS.f t429 1).bind fun t439 => (if t439 < 0 then (none) else (if t439 = t428 then (some true) else (none)))) else (none)) else (none))) = some r := H
         have A24 := Gv.a0 A240
         clear A240
         replace H := Option.bind_eq_some_iff.mp H
         obtain ⟨t438, A250, H⟩ := H
         replace H : (if t438 = true then (if t437 = t410 then ((laws_heldRuleS.f t429 1).bind fun t439 => (if t439 < 0 then (none) else (if t439 = t428 then (some true) else (none)))) else (none)) else (none)) = some r := H
         have A25 := Gv.a0 A250
         clear A250
         by_cases c26 : t438 = true
         ·subst c26
          have H1 : (if t437 = t410 then ((laws_heldRuleS.f t429 1).bind fun t439 => (if t439 < 0 then (none) else (if t439 = t428 then (some true) else (none)))) else (none)) = some r := by rw [if_pos rfl] at H; exact H
          clear H
          have H := H1
          clear H1
          by_cases c27 : t437 = t410
          ·rw [if_pos c27] at H
           have c27b0 : (t437 == t410) = true := beq_iff_eq.mpr c27
           have c27b1 : (t437 != t410) = false := bne_eq_false_iff_eq.mpr c27
           clear c27
           replace H := Option.bind_eq_some_iff.mp H
           obtain ⟨t439, A280, H⟩ := H
           replace H : (if t439 < 0 then (none) else (if t439 = t428 then (some true) else (none))) = some r := H
           have A28 := Gv.a0 A280
           clear A280
           by_cases c29 : t439 < 0
           ·rw [if_pos c29] at H
            exact absurd H (by simp)
           ·rw [if_neg c29] at H
            have c29b0 : decide (t439 < 0) = false := decide_eq_false c29
            clear c29
            by_cases c30 : t439 = t428
            ·rw [if_pos c30] at H
             have c30b0 : (t439 == t428) = true := beq_iff_eq.mpr c30
             have c30b1 : (t439 != t428) = false := bne_eq_false_iff_eq.mpr c30
             clear c30
             obtain rfl := Option.some.inj H
             go_enter Try.func6, Try.ntmps6
             go_wp2_with (first | ((with_reducible refine gate_callee (f := 8) rfl ?_); refine goesL_ (some 18) rfl rfl Try.func8 (by kernel_rfl) rfl #[.slice A0 l0.length c0, .int .i64 1048576] rfl Gv.lm ?_; (with_reducible refine (laws_szRuleS.calls _ _ l0 1048576 t405 _ ?side1 ?side2 A3.out).mono ?_); (case side1 => repeat (first | exact HR0.out | (with_reducible refine Kd.C_alloc ?_ _) | (with_reducible refine Kd.C_drewN ?_ _) | (with_reducible refine Kd.C_drew ?_))); (case side2 => exact HC0.out); rintro e w' ⟨rfl, ⟨nd, rfl⟩⟩; refine ⟨_, rfl, ?_⟩) | ((with_reducible refine gate_callee (f := 10) rfl ?_); refine goesL_ (some 23) rfl rfl Try.func10 (by kernel_rfl) rfl #[.slice A0 l0.length c0] rfl Gv.lm ?_; (with_reducible refine (laws_toRuleS.calls k _ _ l0 t406 _ ?side1 ?side2 A5.out).mono ?_); (case side1 => repeat (first | exact HR0.out | (with_reducible refine Kd.C_alloc ?_ _) | (with_reducible refine Kd.C_drewN ?_ _) | (with_reducible refine Kd.C_drew ?_))); (case side2 => exact HC0.out); rintro e w31 ⟨v407, rfl, ho0, hb⟩; refine ⟨_, rfl, ?_⟩; have n0_ := Gv.a0 (Kd.R_lower ho0 (below_size Gv.bw)); have n1_ := Gv.a0 (below_step Gv.bw hb); clear HB; have HO408 := n0_; have HB := n1_; clear n0_ n1_; (try clear hb); (try clear hb2); (try clear hk); (try clear hi); (try clear ho0); obtain ⟨Ao32, co32, eo32⟩ := Kd.R_slice HO408.out; subst eo32) | ((with_reducible refine gate_callee (f := 22) rfl ?_); refine goesL_ (some 25) rfl rfl Try.func22 (by kernel_rfl) rfl #[.slice Ao32 t406.length co32, .int .i64 a1] rfl Gv.lm ?_; (with_reducible refine (spec_RuleDrop.calls k _ _ t406 a1 t409 t410 _ ?side1 ?side2 A6.out).mono ?_); (case side1 => repeat (first | exact (Kd.R_reads' HO408.out).2.2 | (with_reducible refine Kd.C_alloc ?_ _) | (with_reducible refine Kd.C_drewN ?_ _) | (with_reducible refine Kd.C_drew ?_))); (case side2 => exact (Kd.R_reads' HO408.out).2.1); rintro e w33 ⟨v411, rfl, ho0, hb⟩; refine ⟨_, rfl, ?_⟩; have n0_ := Gv.a0 (Kd.R_elder' (Gv.kr HO408.out) (Kd.R_base ho0) hb); have n1_ := Gv.a0 (Kd.R_lower (Kd.R_new' ho0 (Kd.R_lt (Gv.kr HO408.out))) (below_size Gv.bw)); have n2_ := Gv.a0 (below_step Gv.bw hb); clear HO408; clear HB; have HO408 := n0_; have HO412 := n1_; have HB := n2_; clear n0_ n1_ n2_; (try clear hb); (try clear hb2); (try clear hk); (try clear hi); (try clear ho0)) | ((with_reducible refine gate_callee (f := 10) rfl ?_); refine goesL_ (some 29) rfl rfl Try.func10 (by kernel_rfl) rfl #[.slice A0 l0.length c0] rfl Gv.lm ?_; (with_reducible refine (laws_toRuleS.calls k _ _ l0 t413 _ ?side1 ?side2 A7.out).mono ?_); (case side1 => repeat (first | exact (Kd.C_below HR0.out HB.out) | (with_reducible refine Kd.C_alloc ?_ _) | (with_reducible refine Kd.C_drewN ?_ _) | (with_reducible refine Kd.C_drew ?_))); (case side2 => exact HC0.out); rintro e w34 ⟨v414, rfl, ho0, hb⟩; refine ⟨_, rfl, ?_⟩; have n0_ := Gv.a0 (Kd.R_elder' (Gv.kr HO408.out) (Kd.R_base ho0) hb); have n1_ := Gv.a0 (Kd.R_elder' (Gv.kr HO412.out) (Kd.R_base ho0) hb); have n2_ := Gv.a0 (Kd.R_lower (Kd.R_new' (Kd.R_new' ho0 (Kd.R_lt (Gv.kr HO408.out))) (Kd.R_lt (Gv.kr HO412.out))) (below_size Gv.bw)); have n3_ := Gv.a0 (below_step Gv.bw hb); clear HO408; clear HO412; clear HB; have HO408 := n0_; have HO412 := n1_; have HO415 := n2_; have HB := n3_; clear n0_ n1_ n2_ n3_; (try clear hb); (try clear hb2); (try clear hk); (try clear hi); (try clear ho0); obtain ⟨Ao35, co35, eo35⟩ := Kd.R_slice HO415.out; subst eo35) | ((with_reducible refine gate_callee (f := 23) rfl ?_); refine goesL_ (some 33) rfl rfl Try.func23 (by kernel_rfl) rfl #[.slice Ao35 t413.length co35, .int .i64 a1] rfl Gv.lm ?_; (with_reducible refine (impl_RuleDrop.calls k (fun k_ => some k_ = (.slice Ao35 t413.length co35 : Value).ownBlock) _ _ t413 a1 t416 t419 _ ?side1 A8.out).mono ?_); (case side1 => exact Kd.R_V (Kd.R_tight rfl (HO415.out))); rintro e w36 ⟨v417, rfl, ho0, hb⟩; refine ⟨_, rfl, ?_⟩; have n0_ := Gv.a0 (Kd.R_elder' (Gv.kr HO408.out) (Kd.R_base ho0) hb); have n1_ := Gv.a0 (Kd.R_elder' (Gv.kr HO412.out) (Kd.R_base ho0) hb); have n2_ := Gv.a0 (Kd.R_elder' (Gv.kr HO415.out) (Kd.R_base ho0) hb); have n3_ := Gv.a0 (Kd.R_lower (Kd.R_new' (Kd.R_new' (Kd.R_new' (Kd.R_mono (ok' := fun k_ => True) ho0 (fun _ hk_ => trivial)) (Kd.R_lt (Gv.kr HO408.out))) (Kd.R_lt (Gv.kr HO412.out))) (Kd.R_lt (Gv.kr HO415.out))) (below_size Gv.bw)); have n4_ := Gv.a0 (below_step Gv.bw hb); clear HO408; clear HO412; clear HO415; clear HB; have HO408 := n0_; have HO412 := n1_; have HO415 := n2_; have HO418 := n3_; have HB := n4_; clear n0_ n1_ n2_ n3_ n4_; (try clear hb); (try clear hb2); (try clear hk); (try clear hi); (try clear ho0); obtain ⟨Ao37, co37, eo37⟩ := Kd.R_slice HO418.out; subst eo37; obtain ⟨Ao38, co38, eo38⟩ := Kd.R_slice HO412.out; subst eo38) | ((with_reducible refine gate_callee (f := 12) rfl ?_); refine goesL_ (some 38) rfl rfl Try.func12 (by kernel_rfl) rfl #[.slice Ao37 t416.length co37, .slice Ao38 t409.length co38] rfl Gv.lm ?_; (with_reducible refine (laws_eqRuleS.calls k _ _ t416 _ _ t409 true _ ?side1 ?side2 ?side3 ?side4 A9.out).mono ?_); (case side1 => repeat (first | exact (Kd.R_reads' HO418.out).2.2 | (with_reducible refine Kd.C_alloc ?_ _) | (with_reducible refine Kd.C_drewN ?_ _) | (with_reducible refine Kd.C_drew ?_))); (case side2 => exact (Kd.R_reads' HO418.out).2.1); (case side3 => repeat (first | exact (Kd.R_reads' HO412.out).2.2 | (with_reducible refine Kd.C_alloc ?_ _) | (with_reducible refine Kd.C_drewN ?_ _) | (with_reducible refine Kd.C_drew ?_))); (case side4 => exact (Kd.R_reads' HO412.out).2.1); rintro e w39 ⟨rfl, hb⟩; refine ⟨_, rfl, ?_⟩; have n0_ := Gv.a0 (Kd.R_below (Gv.kr HO408.out) hb); have n1_ := Gv.a0 (Kd.R_below (Gv.kr HO412.out) hb); have n2_ := Gv.a0 (Kd.R_below (Gv.kr HO415.out) hb); have n3_ := Gv.a0 (Kd.R_below (Gv.kr HO418.out) hb); have n4_ := Gv.a0 (below_step Gv.bw hb); clear HO408; clear HO412; clear HO415; clear HO418; clear HB; have HO408 := n0_; have HO412 := n1_; have HO415 := n2_; have HO418 := n3_; have HB := n4_; clear n0_ n1_ n2_ n3_ n4_; (try clear hb); (try clear hb2); (try clear hk); (try clear hi)) | ((with_reducible refine gate_callee (f := 10) rfl ?_); refine goesL_ (some 47) rfl rfl Try.func10 (by kernel_rfl) rfl #[.slice A0 l0.length c0] rfl Gv.lm ?_; (with_reducible refine (laws_toRuleS.calls k _ _ l0 t421 _ ?side1 ?side2 A12.out).mono ?_); (case side1 => repeat (first | exact (Kd.C_below HR0.out HB.out) | (with_reducible refine Kd.C_alloc ?_ _) | (with_reducible refine Kd.C_drewN ?_ _) | (with_reducible refine Kd.C_drew ?_))); (case side2 => exact HC0.out); rintro e w40 ⟨v422, rfl, ho0, hb⟩; refine ⟨_, rfl, ?_⟩; have n0_ := Gv.a0 (Kd.R_elder' (Gv.kr HO408.out) (Kd.R_base ho0) hb); have n1_ := Gv.a0 (Kd.R_elder' (Gv.kr HO412.out) (Kd.R_base ho0) hb); have n2_ := Gv.a0 (Kd.R_elder' (Gv.kr HO415.out) (Kd.R_base ho0) hb); have n3_ := Gv.a0 (Kd.R_elder' (Gv.kr HO418.out) (Kd.R_base ho0) hb); have n4_ := Gv.a0 (Kd.R_lower (Kd.R_new' (Kd.R_new' (Kd.R_new' (Kd.R_new' ho0 (Kd.R_lt (Gv.kr HO408.out))) (Kd.R_lt (Gv.kr HO412.out))) (Kd.R_lt (Gv.kr HO415.out))) (Kd.R_lt (Gv.kr HO418.out))) (below_size Gv.bw)); have n5_ := Gv.a0 (below_step Gv.bw hb); clear HO408; clear HO412; clear HO415; clear HO418; clear HB; have HO408 := n0_; have HO412 := n1_; have HO415 := n2_; have HO418 := n3_; have HO423 := n4_; have HB := n5_; clear n0_ n1_ n2_ n3_ n4_ n5_; (try clear hb); (try clear hb2); (try clear hk); (try clear hi); (try clear ho0); obtain ⟨Ao41, co41, eo41⟩ := Kd.R_slice HO423.out; subst eo41) | ((with_reducible refine gate_callee (f := 12) rfl ?_); refine goesL_ (some 48) rfl rfl Try.func12 (by kernel_rfl) rfl #[.slice Ao35 t413.length co35, .slice Ao41 t421.length co41] rfl Gv.lm ?_; (with_reducible refine (laws_eqRuleS.calls k _ _ t413 _ _ t421 true _ ?side1 ?side2 ?side3 ?side4 A13.out).mono ?_); (case side1 => repeat (first | exact (Kd.R_reads' HO415.out).2.2 | (with_reducible refine Kd.C_alloc ?_ _) | (with_reducible refine Kd.C_drewN ?_ _) | (with_reducible refine Kd.C_drew ?_))); (case side2 => exact (Kd.R_reads' HO415.out).2.1); (case side3 => repeat (first | exact (Kd.R_reads' HO423.out).2.2 | (with_reducible refine Kd.C_alloc ?_ _) | (with_reducible refine Kd.C_drewN ?_ _) | (with_reducible refine Kd.C_drew ?_))); (case side4 => exact (Kd.R_reads' HO423.out).2.1); rintro e w42 ⟨rfl, hb⟩; refine ⟨_, rfl, ?_⟩; have n0_ := Gv.a0 (Kd.R_below (Gv.kr HO408.out) hb); have n1_ := Gv.a0 (Kd.R_below (Gv.kr HO412.out) hb); have n2_ := Gv.a0 (Kd.R_below (Gv.kr HO415.out) hb); have n3_ := Gv.a0 (Kd.R_below (Gv.kr HO418.out) hb); have n4_ := Gv.a0 (Kd.R_below (Gv.kr HO423.out) hb); have n5_ := Gv.a0 (below_step Gv.bw hb); clear HO408; clear HO412; clear HO415; clear HO418; clear HO423; clear HB; have HO408 := n0_; have HO412 := n1_; have HO415 := n2_; have HO418 := n3_; have HO423 := n4_; have HB := n5_; clear n0_ n1_ n2_ n3_ n4_ n5_; (try clear hb); (try clear hb2); (try clear hk); (try clear hi)) | ((with_reducible refine gate_callee (f := 19) rfl ?_); refine goesL_ (some 52) rfl rfl Try.func19 (by kernel_rfl) rfl #[.slice Ao35 t413.length co35, .int .i64 1] rfl Gv.lm ?_; (with_reducible refine (laws_markRuleS.calls (fun k_ => some k_ = (.slice Ao35 t413.length co35 : Value).ownBlock) (.slice Ao35 t413.length co35) t413 1 t425 t426 w _ ?side1 ?side2 A15.out).mono ?_); (case side1 => repeat (first | (with_reducible first | exact HB.out | apply below_alloc | apply pw_below_drewN | apply below_drew1) | exact HB.out)); (case side2 => exact Kd.R_tight rfl HO415.out); rintro e w43 ⟨rfl, hy0, hb, hkp⟩; refine ⟨_, rfl, ?_⟩; have n0_ := Gv.a0 (Kd.R_mono (ok' := fun k_ => some k_ ≠ (.slice Ao38 t409.length co38 : Value).ownBlock ∧ some k_ ≠ (.slice Ao35 t413.length co35 : Value).ownBlock ∧ some k_ ≠ (.slice Ao37 t416.length co37 : Value).ownBlock ∧ some k_ ≠ (.slice Ao41 t421.length co41 : Value).ownBlock) (Kd.R_keptB (HO408.out) hkp (fun k_ hk_ hs_ => (hk_.1.1.2) hs_)) (fun k_ hk_ => ⟨hk_.1.1.1.1.2, hk_.1.1.1.2, hk_.1.1.2, hk_.1.2⟩)); have n1_ := Gv.a0 (Kd.R_mono (ok' := fun k_ => some k_ ≠ (.slice Ao32 t406.length co32 : Value).ownBlock ∧ some k_ ≠ (.slice Ao35 t413.length co35 : Value).ownBlock ∧ some k_ ≠ (.slice Ao37 t416.length co37 : Value).ownBlock ∧ some k_ ≠ (.slice Ao41 t421.length co41 : Value).ownBlock) (Kd.R_keptB (HO412.out) hkp (fun k_ hk_ hs_ => (hk_.1.1.2) hs_)) (fun k_ hk_ => ⟨hk_.1.1.1.1.2, hk_.1.1.1.2, hk_.1.1.2, hk_.1.2⟩)); have n2_ := Gv.a0 (Kd.R_reok rfl hy0 (fun k_ e_ => HO415.out.1 k_ e_)); have n3_ := Gv.a0 (Kd.R_mono (ok' := fun k_ => some k_ ≠ (.slice Ao32 t406.length co32 : Value).ownBlock ∧ some k_ ≠ (.slice Ao38 t409.length co38 : Value).ownBlock ∧ some k_ ≠ (.slice Ao35 t413.length co35 : Value).ownBlock ∧ some k_ ≠ (.slice Ao41 t421.length co41 : Value).ownBlock) (Kd.R_keptB (HO418.out) hkp (fun k_ hk_ hs_ => (hk_.1.2) hs_)) (fun k_ hk_ => ⟨hk_.1.1.1.1.2, hk_.1.1.1.2, hk_.1.1.2, hk_.1.2⟩)); have n4_ := Gv.a0 (Kd.R_mono (ok' := fun k_ => some k_ ≠ (.slice Ao32 t406.length co32 : Value).ownBlock ∧ some k_ ≠ (.slice Ao38 t409.length co38 : Value).ownBlock ∧ some k_ ≠ (.slice Ao35 t413.length co35 : Value).ownBlock ∧ some k_ ≠ (.slice Ao37 t416.length co37 : Value).ownBlock) (Kd.R_keptB (HO423.out) hkp (fun k_ hk_ hs_ => (hk_.1.2) hs_)) (fun k_ hk_ => ⟨hk_.1.1.1.1.2, hk_.1.1.1.2, hk_.1.1.2, hk_.1.2⟩)); have n5_ := Gv.a0 (hb); clear HO408; clear HO412; clear HO415; clear HO418; clear HO423; clear HB; have HO408 := n0_; have HO412 := n1_; have HO415 := n2_; have HO418 := n3_; have HO423 := n4_; have HB := n5_; clear n0_ n1_ n2_ n3_ n4_ n5_; (try clear hb); (try clear hkp); (try clear hy0)) | (go_at_call 12; (with_reducible refine (laws_eqRuleS.calls k _ _ t416 _ _ t409 true _ ?side1 ?side2 ?side3 ?side4 A17.out).mono ?_); (case side1 => repeat (first | exact (Kd.R_reads' HO418.out).2.2 | (with_reducible refine Kd.C_alloc ?_ _) | (with_reducible refine Kd.C_drewN ?_ _) | (with_reducible refine Kd.C_drew ?_))); (case side2 => exact (Kd.R_reads' HO418.out).2.1); (case side3 => repeat (first | exact (Kd.R_reads' HO412.out).2.2 | (with_reducible refine Kd.C_alloc ?_ _) | (with_reducible refine Kd.C_drewN ?_ _) | (with_reducible refine Kd.C_drew ?_))); (case side4 => exact (Kd.R_reads' HO412.out).2.1); rintro e w44 ⟨rfl, hb⟩; have n0_ := Gv.a0 (Kd.R_below (Gv.kr HO408.out) hb); have n1_ := Gv.a0 (Kd.R_below (Gv.kr HO412.out) hb); have n2_ := Gv.a0 (Kd.R_below (Gv.kr HO415.out) hb); have n3_ := Gv.a0 (Kd.R_below (Gv.kr HO418.out) hb); have n4_ := Gv.a0 (Kd.R_below (Gv.kr HO423.out) hb); have n5_ := Gv.a0 (below_step Gv.bw hb); clear HO408; clear HO412; clear HO415; clear HO418; clear HO423; clear HB; have HO408 := n0_; have HO412 := n1_; have HO415 := n2_; have HO418 := n3_; have HO423 := n4_; have HB := n5_; clear n0_ n1_ n2_ n3_ n4_ n5_; (try clear hb); (try clear hb2); (try clear hk); (try clear hi)) | ((with_reducible refine gate_callee (f := 19) rfl ?_); refine goesL_ (some 68) rfl rfl Try.func19 (by kernel_rfl) rfl #[.slice Ao37 t416.length co37, .int .i64 1] rfl Gv.lm ?_; (with_reducible refine (laws_markRuleS.calls (fun k_ => some k_ = (.slice Ao37 t416.length co37 : Value).ownBlock) (.slice Ao37 t416.length co37) t416 1 t428 t429 w _ ?side1 ?side2 A19.out).mono ?_); (case side1 => repeat (first | (with_reducible first | exact HB.out | apply below_alloc | apply pw_below_drewN | apply below_drew1) | exact HB.out)); (case side2 => exact Kd.R_tight rfl HO418.out); rintro e w45 ⟨rfl, hy0, hb, hkp⟩; refine ⟨_, rfl, ?_⟩; have n0_ := Gv.a0 (Kd.R_mono (ok' := fun k_ => some k_ ≠ (.slice Ao38 t409.length co38 : Value).ownBlock ∧ some k_ ≠ (.slice Ao35 t413.length co35 : Value).ownBlock ∧ some k_ ≠ (.slice Ao37 t416.length co37 : Value).ownBlock ∧ some k_ ≠ (.slice Ao41 t421.length co41 : Value).ownBlock) (Kd.R_keptB (HO408.out) hkp (fun k_ hk_ hs_ => (hk_.2.2.1) hs_)) (fun k_ hk_ => ⟨hk_.1.1, hk_.1.2.1, hk_.1.2.2.1, hk_.1.2.2.2⟩)); have n1_ := Gv.a0 (Kd.R_mono (ok' := fun k_ => some k_ ≠ (.slice Ao32 t406.length co32 : Value).ownBlock ∧ some k_ ≠ (.slice Ao35 t413.length co35 : Value).ownBlock ∧ some k_ ≠ (.slice Ao37 t416.length co37 : Value).ownBlock ∧ some k_ ≠ (.slice Ao41 t421.length co41 : Value).ownBlock) (Kd.R_keptB (HO412.out) hkp (fun k_ hk_ hs_ => (hk_.2.2.1) hs_)) (fun k_ hk_ => ⟨hk_.1.1, hk_.1.2.1, hk_.1.2.2.1, hk_.1.2.2.2⟩)); have n2_ := Gv.a0 (Kd.R_mono (ok' := fun k_ => some k_ ≠ (.slice Ao32 t406.length co32 : Value).ownBlock ∧ some k_ ≠ (.slice Ao38 t409.length co38 : Value).ownBlock ∧ some k_ ≠ (.slice Ao37 t416.length co37 : Value).ownBlock ∧ some k_ ≠ (.slice Ao41 t421.length co41 : Value).ownBlock) (Kd.R_keptB (HO415.out) hkp (fun k_ hk_ hs_ => (hk_.1.2) hs_)) (fun k_ hk_ => ⟨hk_.1.1.1.1.2, hk_.1.1.1.2, hk_.1.1.2, hk_.1.2⟩)); have n3_ := Gv.a0 (Kd.R_reok rfl hy0 (fun k_ e_ => HO418.out.1 k_ e_)); have n4_ := Gv.a0 (Kd.R_mono (ok' := fun k_ => some k_ ≠ (.slice Ao32 t406.length co32 : Value).ownBlock ∧ some k_ ≠ (.slice Ao38 t409.length co38 : Value).ownBlock ∧ some k_ ≠ (.slice Ao35 t413.length co35 : Value).ownBlock ∧ some k_ ≠ (.slice Ao37 t416.length co37 : Value).ownBlock) (Kd.R_keptB (HO423.out) hkp (fun k_ hk_ hs_ => (hk_.2.2.2) hs_)) (fun k_ hk_ => ⟨hk_.1.1, hk_.1.2.1, hk_.1.2.2.1, hk_.1.2.2.2⟩)); have n5_ := Gv.a0 (hb); clear HO408; clear HO412; clear HO415; clear HO418; clear HO423; clear HB; have HO408 := n0_; have HO412 := n1_; have HO415 := n2_; have HO418 := n3_; have HO423 := n4_; have HB := n5_; clear n0_ n1_ n2_ n3_ n4_ n5_; (try clear hb); (try clear hkp); (try clear hy0)) | ((with_reducible refine gate_callee (f := 24) rfl ?_); refine goesL_ (some 71) rfl rfl Try.func24 (by kernel_rfl) rfl #[.slice Ao37 t429.length co37, .int .i64 1] rfl (by (try simp only [List.map_toArray, List.map_cons, List.map_nil]); first | done | (rw [show t429.length = t416.length from (Kd.R_reads' HO418.out).1.symm] <;> rfl) | rfl | (simp only [List.length_drop, List.length_take]; rfl)) ?_; (with_reducible refine (laws_heldRuleS.calls _ _ t429 1 t430 _ ?side1 ?side2 A20.out).mono ?_); (case side1 => repeat (first | exact (Kd.R_reads' HO418.out).2.2 | (with_reducible refine Kd.C_alloc ?_ _) | (with_reducible refine Kd.C_drewN ?_ _) | (with_reducible refine Kd.C_drew ?_))); (case side2 => rw [show t429.length = t416.length from (Kd.R_reads' HO418.out).1.symm]; exact (Kd.R_reads' HO418.out).2.1); rintro e w46 ⟨rfl, hb⟩; refine ⟨_, rfl, ?_⟩; have n0_ := Gv.a0 (Kd.R_below (Gv.kr HO408.out) hb); have n1_ := Gv.a0 (Kd.R_below (Gv.kr HO412.out) hb); have n2_ := Gv.a0 (Kd.R_below (Gv.kr HO415.out) hb); have n3_ := Gv.a0 (Kd.R_below (Gv.kr HO418.out) hb); have n4_ := Gv.a0 (Kd.R_below (Gv.kr HO423.out) hb); have n5_ := Gv.a0 (below_step Gv.bw hb); clear HO408; clear HO412; clear HO415; clear HO418; clear HO423; clear HB; have HO408 := n0_; have HO412 := n1_; have HO415 := n2_; have HO418 := n3_; have HO423 := n4_; have HB := n5_; clear n0_ n1_ n2_ n3_ n4_ n5_; (try clear hb); (try clear hb2); (try clear hk); (try clear hi)) | ((with_reducible refine gate_callee (f := 10) rfl ?_); refine goesL_ (some 79) rfl rfl Try.func10 (by kernel_rfl) rfl #[.slice A0 l0.length c0] rfl Gv.lm ?_; (with_reducible refine (laws_toRuleS.calls k _ _ l0 t431 _ ?side1 ?side2 A23.out).mono ?_); (case side1 => repeat (first | exact (Kd.C_below HR0.out HB.out) | (with_reducible refine Kd.C_alloc ?_ _) | (with_reducible refine Kd.C_drewN ?_ _) | (with_reducible refine Kd.C_drew ?_))); (case side2 => exact HC0.out); rintro e w47 ⟨v432, rfl, ho0, hb⟩; refine ⟨_, rfl, ?_⟩; have n0_ := Gv.a0 (Kd.R_elder' (Gv.kr HO408.out) (Kd.R_base ho0) hb); have n1_ := Gv.a0 (Kd.R_elder' (Gv.kr HO412.out) (Kd.R_base ho0) hb); have n2_ := Gv.a0 (Kd.R_elder' (Gv.kr HO415.out) (Kd.R_base ho0) hb); have n3_ := Gv.a0 (Kd.R_elder' (Gv.kr HO418.out) (Kd.R_base ho0) hb); have n4_ := Gv.a0 (Kd.R_elder' (Gv.kr HO423.out) (Kd.R_base ho0) hb); have n5_ := Gv.a0 (Kd.R_lower (Kd.R_new' (Kd.R_new' (Kd.R_new' (Kd.R_new' (Kd.R_new' ho0 (Kd.R_lt (Gv.kr HO408.out))) (Kd.R_lt (Gv.kr HO412.out))) (Kd.R_lt (Gv.kr HO415.out))) (Kd.R_lt (Gv.kr HO418.out))) (Kd.R_lt (Gv.kr HO423.out))) (below_size Gv.bw)); have n6_ := Gv.a0 (below_step Gv.bw hb); clear HO408; clear HO412; clear HO415; clear HO418; clear HO423; clear HB; have HO408 := n0_; have HO412 := n1_; have HO415 := n2_; have HO418 := n3_; have HO423 := n4_; have HO433 := n5_; have HB := n6_; clear n0_ n1_ n2_ n3_ n4_ n5_ n6_; (try clear hb); (try clear hb2); (try clear hk); (try clear hi); (try clear ho0); obtain ⟨Ao48, co48, eo48⟩ := Kd.R_slice HO433.out; subst eo48) | ((with_reducible refine gate_callee (f := 23) rfl ?_); refine goesL_ (some 81) rfl rfl Try.func23 (by kernel_rfl) rfl #[.slice Ao48 t431.length co48, .int .i64 a1] rfl Gv.lm ?_; (with_reducible refine (impl_RuleDrop.calls k (fun k_ => some k_ = (.slice Ao48 t431.length co48 : Value).ownBlock) _ _ t431 a1 t434 t437 _ ?side1 A24.out).mono ?_); (case side1 => exact Kd.R_V (Kd.R_tight rfl (HO433.out))); rintro e w49 ⟨v435, rfl, ho0, hb⟩; refine ⟨_, rfl, ?_⟩; have n0_ := Gv.a0 (Kd.R_elder' (Gv.kr HO408.out) (Kd.R_base ho0) hb); have n1_ := Gv.a0 (Kd.R_elder' (Gv.kr HO412.out) (Kd.R_base ho0) hb); have n2_ := Gv.a0 (Kd.R_elder' (Gv.kr HO415.out) (Kd.R_base ho0) hb); have n3_ := Gv.a0 (Kd.R_elder' (Gv.kr HO418.out) (Kd.R_base ho0) hb); have n4_ := Gv.a0 (Kd.R_elder' (Gv.kr HO423.out) (Kd.R_base ho0) hb); have n5_ := Gv.a0 (Kd.R_elder' (Gv.kr HO433.out) (Kd.R_base ho0) hb); have n6_ := Gv.a0 (Kd.R_lower (Kd.R_new' (Kd.R_new' (Kd.R_new' (Kd.R_new' (Kd.R_new' (Kd.R_new' (Kd.R_mono (ok' := fun k_ => True) ho0 (fun _ hk_ => trivial)) (Kd.R_lt (Gv.kr HO408.out))) (Kd.R_lt (Gv.kr HO412.out))) (Kd.R_lt (Gv.kr HO415.out))) (Kd.R_lt (Gv.kr HO418.out))) (Kd.R_lt (Gv.kr HO423.out))) (Kd.R_lt (Gv.kr HO433.out))) (below_size Gv.bw)); have n7_ := Gv.a0 (below_step Gv.bw hb); clear HO408; clear HO412; clear HO415; clear HO418; clear HO423; clear HO433; clear HB; have HO408 := n0_; have HO412 := n1_; have HO415 := n2_; have HO418 := n3_; have HO423 := n4_; have HO433 := n5_; have HO436 := n6_; have HB := n7_; clear n0_ n1_ n2_ n3_ n4_ n5_ n6_ n7_; (try clear hb); (try clear hb2); (try clear hk); (try clear hi); (try clear ho0); obtain ⟨Ao50, co50, eo50⟩ := Kd.R_slice HO436.out; subst eo50) | ((with_reducible refine gate_callee (f := 12) rfl ?_); refine goesL_ (some 86) rfl rfl Try.func12 (by kernel_rfl) rfl #[.slice Ao50 t434.length co50, .slice Ao38 t409.length co38] rfl Gv.lm ?_; (with_reducible refine (laws_eqRuleS.calls k _ _ t434 _ _ t409 true _ ?side1 ?side2 ?side3 ?side4 A25.out).mono ?_); (case side1 => repeat (first | exact (Kd.R_reads' HO436.out).2.2 | (with_reducible refine Kd.C_alloc ?_ _) | (with_reducible refine Kd.C_drewN ?_ _) | (with_reducible refine Kd.C_drew ?_))); (case side2 => exact (Kd.R_reads' HO436.out).2.1); (case side3 => repeat (first | exact (Kd.R_reads' HO412.out).2.2 | (with_reducible refine Kd.C_alloc ?_ _) | (with_reducible refine Kd.C_drewN ?_ _) | (with_reducible refine Kd.C_drew ?_))); (case side4 => exact (Kd.R_reads' HO412.out).2.1); rintro e w51 ⟨rfl, hb⟩; refine ⟨_, rfl, ?_⟩; have n0_ := Gv.a0 (Kd.R_below (Gv.kr HO408.out) hb); have n1_ := Gv.a0 (Kd.R_below (Gv.kr HO412.out) hb); have n2_ := Gv.a0 (Kd.R_below (Gv.kr HO415.out) hb); have n3_ := Gv.a0 (Kd.R_below (Gv.kr HO418.out) hb); have n4_ := Gv.a0 (Kd.R_below (Gv.kr HO423.out) hb); have n5_ := Gv.a0 (Kd.R_below (Gv.kr HO433.out) hb); have n6_ := Gv.a0 (Kd.R_below (Gv.kr HO436.out) hb); have n7_ := Gv.a0 (below_step Gv.bw hb); clear HO408; clear HO412; clear HO415; clear HO418; clear HO423; clear HO433; clear HO436; clear HB; have HO408 := n0_; have HO412 := n1_; have HO415 := n2_; have HO418 := n3_; have HO423 := n4_; have HO433 := n5_; have HO436 := n6_; have HB := n7_; clear n0_ n1_ n2_ n3_ n4_ n5_ n6_ n7_; (try clear hb); (try clear hb2); (try clear hk); (try clear hi)) | ((with_reducible refine gate_callee (f := 24) rfl ?_); refine goesL_ (some 95) rfl rfl Try.func24 (by kernel_rfl) rfl #[.slice Ao37 t429.length co37, .int .i64 1] rfl (by (try simp only [List.map_toArray, List.map_cons, List.map_nil]); first | done | (rw [show t429.length = t416.length from (Kd.R_reads' HO418.out).1.symm] <;> rfl) | rfl | (simp only [List.length_drop, List.length_take]; rfl)) ?_; (with_reducible refine (laws_heldRuleS.calls _ _ t429 1 t439 _ ?side1 ?side2 A28.out).mono ?_); (case side1 => repeat (first | exact (Kd.R_reads' HO418.out).2.2 | (with_reducible refine Kd.C_alloc ?_ _) | (with_reducible refine Kd.C_drewN ?_ _) | (with_reducible refine Kd.C_drew ?_))); (case side2 => rw [show t429.length = t416.length from (Kd.R_reads' HO418.out).1.symm]; exact (Kd.R_reads' HO418.out).2.1); rintro e w52 ⟨rfl, hb⟩; refine ⟨_, rfl, ?_⟩; have n0_ := Gv.a0 (Kd.R_below (Gv.kr HO408.out) hb); have n1_ := Gv.a0 (Kd.R_below (Gv.kr HO412.out) hb); have n2_ := Gv.a0 (Kd.R_below (Gv.kr HO415.out) hb); have n3_ := Gv.a0 (Kd.R_below (Gv.kr HO418.out) hb); have n4_ := Gv.a0 (Kd.R_below (Gv.kr HO423.out) hb); have n5_ := Gv.a0 (Kd.R_below (Gv.kr HO433.out) hb); have n6_ := Gv.a0 (Kd.R_below (Gv.kr HO436.out) hb); have n7_ := Gv.a0 (below_step Gv.bw hb); clear HO408; clear HO412; clear HO415; clear HO418; clear HO423; clear HO433; clear HO436; clear HB; have HO408 := n0_; have HO412 := n1_; have HO415 := n2_; have HO418 := n3_; have HO423 := n4_; have HO433 := n5_; have HO436 := n6_; have HB := n7_; clear n0_ n1_ n2_ n3_ n4_ n5_ n6_ n7_; (try clear hb); (try clear hb2); (try clear hk); (try clear hi)))
             go_ret
             exact ⟨Gv.rt, Gv.bw⟩
            ·rw [if_neg c30] at H
             exact absurd H (by simp)
          ·rw [if_neg c27] at H
           exact absurd H (by simp)
         ·replace c26 := Bool.eq_false_iff.mpr c26
          subst c26
          have H1 : (none) = some r := by rw [if_neg (show ¬ (false = true) by decide)] at H; exact H
          clear H
          have H := H1
          clear H1
          exact absurd H (by simp)
        ·rw [if_neg c22] at H
         exact absurd H (by simp)
      ·replace c18 := Bool.eq_false_iff.mpr c18
       subst c18
       have H1 : (none) = some r := by rw [if_neg (show ¬ (false = true) by decide)] at H; exact H
       clear H
       have H := H1
       clear H1
       exact absurd H (by simp)
    ·replace c14 := Bool.eq_false_iff.mpr c14
     subst c14
     have H1 : (none) = some r := by rw [if_neg (show ¬ (false = true) by decide)] at H; exact H
     clear H
     have H := H1
     clear H1
     exact absurd H (by simp)
   ·rw [if_neg c11] at H
    exact absurd H (by simp)
  ·replace c10 := Bool.eq_false_iff.mpr c10
   subst c10
   have H1 : (none) = some r := by rw [if_neg (show ¬ (false = true) by decide)] at H; exact H
   clear H
   have H := H1
   clear H1
   exact absurd H (by simp)

end Go.Proofs.Ytbihbbkdciebhaa.PRd
