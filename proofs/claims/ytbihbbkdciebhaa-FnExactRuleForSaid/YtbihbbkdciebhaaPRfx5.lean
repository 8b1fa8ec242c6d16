/- Plain Lean functions of a law's Go functions, their contracts, by a program of this session (wip/pr.py over the kit's print). -/
import Derived.Test.YtbihbbkdciebhaaPRfx0
import Derived.Test.YtbihbbkdciebhaaPRfx1
import Derived.Test.YtbihbbkdciebhaaPRfx3
import Derived.Test.YtbihbbkdciebhaaPRfx4
namespace Go.Proofs.Ytbihbbkdciebhaa.PRf
open Go.RowKit Go.Proofs.YtbihbbkdciebhaaW.PrintWords Go.Proofs.YtbihbbkdciebhaaW.PrintLast Go.Proofs.YtbihbbkdciebhaaW.PrintMore
attribute [local go_sem] max2_int min2_int max_two min_two max_three min_three max_four min_four   -- for this text's walks alone
set_option linter.unusedVariables false
set_option linter.unusedSimpArgs false

attribute [local go_sem high] eqA34
/-! ### spec_RulesOk: function 9 -/
def spec_RulesOk.l0 : Nat → List (S55) → Int → Option (Bool)
 | 0, _, _ => none
 | k + 1, x0, x3 => if x3 < (x0.length : Int) then (if 0 ≤ x3 then ((spec_RuleOk.f k ((rd_T55 x0 x3).f0) ((rd_T55 x0 x3).f1.f0.f0) ((rd_T55 x0 x3).f1.f0.f1) ((rd_T55 x0 x3).f1.f0.f2) ((rd_T55 x0 x3).f1.f0.f3) ((rd_T55 x0 x3).f1.f0.f4) ((rd_T55 x0 x3).f1.f1) ((rd_T55 x0 x3).f2.f0.f0) ((rd_T55 x0 x3).f2.f0.f1) ((rd_T55 x0 x3).f2.f0.f2) ((rd_T55 x0 x3).f2.f0.f3) ((rd_T55 x0 x3).f2.f0.f4) ((rd_T55 x0 x3).f2.f1) ((rd_T55 x0 x3).f3) ((rd_T55 x0 x3).f4) ((rd_T55 x0 x3).f5) ((rd_T55 x0 x3).f6) ((rd_T55 x0 x3).f7) ((rd_T55 x0 x3).f8) ((rd_T55 x0 x3).f9) ((rd_T55 x0 x3).f10)).bind fun t258 => (if t258 = true then (if x3 > 0 then (if 0 ≤ (wrap64 (x3 - 1)) then (if (wrap64 (x3 - 1)) < (x0.length : Int) then (if ((rd_T55 x0 (wrap64 (x3 - 1))).f0) ≥ ((rd_T55 x0 x3).f0) then (some false) else (spec_RulesOk.l0 k x0 (wrap64 (x3 + 1)))) else (none)) else (none)) else (spec_RulesOk.l0 k x0 (wrap64 (x3 + 1)))) else (some false))) else (none)) else (some true)
def spec_RulesOk.f (k : Nat) (l0 : List (S55)) : Option (Bool) := if (l0.length : Int) > 32 then (some false) else (spec_RulesOk.l0 k l0 0)
theorem spec_RulesOk.mono_l : ∀ k, (∀ y0 y1, LeO (spec_RulesOk.l0 k y0 y1) (spec_RulesOk.l0 (k + 1) y0 y1))
 | 0 => fun _ _ r h => by simp [spec_RulesOk.l0] at h
 | k + 1 => by
  have ih0 := spec_RulesOk.mono_l k
  ·intro y0 y1
   unfold spec_RulesOk.l0
   repeat' first
   | (with_reducible exact ih0 _ _)
   | (with_reducible exact spec_RuleOk.mono _ _ _ _ _ _ _ _ _ _ _ _ _ _ _ _ _ _ _ _ _ _)
   | (with_reducible exact LeO.refl _)
   | (with_reducible exact LeO.none _)
   | (with_reducible refine LeO.ite ?_ ?_)
   | (with_reducible refine LeO.bind ?_ (fun _ => ?_))
   | exact ih0 _ _
   | exact spec_RuleOk.mono _ _ _ _ _ _ _ _ _ _ _ _ _ _ _ _ _ _ _ _ _ _
   | exact LeO.none _
   | refine LeO.ite ?_ ?_
   | refine LeO.bind ?_ (fun _ => ?_)
theorem spec_RulesOk.mono : ∀ a0 k, LeO (spec_RulesOk.f k a0) (spec_RulesOk.f (k + 1) a0) := by
 intro a0 k
 have ih0 := spec_RulesOk.mono_l k
 unfold spec_RulesOk.f
 repeat' first
   | (with_reducible exact ih0 _ _)
   | (with_reducible exact spec_RuleOk.mono _ _ _ _ _ _ _ _ _ _ _ _ _ _ _ _ _ _ _ _ _ _)
   | (with_reducible exact LeO.refl _)
   | (with_reducible exact LeO.none _)
   | (with_reducible refine LeO.ite ?_ ?_)
   | (with_reducible refine LeO.bind ?_ (fun _ => ?_))
   | exact ih0 _ _
   | exact spec_RuleOk.mono _ _ _ _ _ _ _ _ _ _ _ _ _ _ _ _ _ _ _ _ _ _
   | exact LeO.none _
   | refine LeO.ite ?_ ?_
   | refine LeO.bind ?_ (fun _ => ?_)
def spec_RulesOk.T6 : Bool × List (List Nat × List Nat) := (true, [([], []), ([], []), ([0, 1], [0, 1]), ([2], [2]), ([3], [3]), ([4], [4]), ([5, 4], [5]), ([6], [6]), ([7, 6], [6, 7]), ([8, 6, 6], [6, 8]), ([9], [9]), ([9], [9]), ([11, 9], [9, 11]), ([10, 12, 9], [9, 10, 12]), ([13, 9], [9, 13]), ([14, 9], [9, 14]), ([9], [9]), ([9], [9]), ([16, 17, 9], [9, 16, 17]), ([18, 9], [9, 18]), ([19, 9], [9, 19]), ([15, 20, 9], [9, 15, 20]), ([9, 21, 6], [6, 9, 21]), ([6, 22], [6, 22])])
def spec_RulesOk.B6 : List Nat := [0, 0, 3, 7, 15, 31, 63, 127, 255, 511, 1023, 1023, 3071, 8191, 16383, 32767, 1023, 1023, 197631, 459775, 984063, 2097151, 4194303, 8388607]
theorem spec_RulesOk.tab6 : rtab .any (opsOf Try.f9 6) = spec_RulesOk.T6 := by kernel_rfl
theorem spec_RulesOk.bits6 : waitsOk spec_RulesOk.T6.2 spec_RulesOk.B6 = true := by kernel_rfl
set_option maxHeartbeats 8000000 in
set_option maxRecDepth 100000 in
theorem spec_RulesOk.calls (k : Nat) (A0 : Option Addr) (c0 : Nat) (l0 : List (S55)) (r : Bool) (w : World) (hr0 : Kd.C k55 w A0 l0.length l0) (hc0 : l0.length ≤ c0) (h : spec_RulesOk.f k l0 = some r) :
  Calls Try.prog 9 #[.slice A0 l0.length c0] w fun e w' => e = .returned (.bool r) ∧ Below w.heap.size w w' := by
 have hu55 := Try.underlying55
 have HR0 := Gv.a0 hr0
 have HC0 := Gv.a0 hc0
 clear hr0 hc0
 have HB := Gv.a0 (Below.refl w.heap.size w)
 have H : (if (l0.length : Int) > 32 then (some false) else (spec_RulesOk.l0 k l0 0)) = some r := h
 clear h
 by_cases c2 : (l0.length : Int) > 32
 ·rw [if_pos c2] at H
  have c2b0 : decide (32 < (l0.length : Int)) = true := decide_eq_true c2
  have c2b1 : decide (32 < l0.length) = true := decide_eq_true (by omega)
  clear c2
  obtain rfl := Option.some.inj H
  go_enter Try.func9, Try.ntmps9
  go_wp2
  go_ret
  exact ⟨Gv.rt, Gv.bw⟩
 ·rw [if_neg c2] at H
  have c2b0 : decide (32 < (l0.length : Int)) = false := decide_eq_false c2
  have c2b1 : decide (32 < l0.length) = false := decide_eq_false (by omega)
  clear c2
  have H' := Gv.a0 H
  clear H
  go_enter Try.func9, Try.ntmps9
  go_wp2
  go_loopg [3] k (fun kq v3 w' => ∃ (x3_1 : Int), v3 = .int .i64 x3_1 ∧ Aside0 (spec_RulesOk.l0 kq l0 x3_1 = some r) ∧ Aside0 (kq ≤ k) ∧ Aside0 (Below w.heap.size w w'))
  case atStart => exact ⟨(0), Gv.rq, H', ⟨Nat.le_refl _⟩, ⟨Gv.bw⟩⟩
  case round =>
   clear H'
   try clear c2
   try clear c2b0
   try clear c2b1
   try clear p2
   obtain ⟨x3_1, rfl, HA, HK1, HB⟩ := hrel
   cases gk with
   | zero => exact absurd HA.out (by simp [spec_RulesOk.l0])
   | succ k1 =>
    have H := HA.out
    clear HA
    simp only [spec_RulesOk.l0] at H
    by_cases c3 : x3_1 < (l0.length : Int)
    ·rw [if_pos c3] at H
     have c3b0 : decide (x3_1 < (l0.length : Int)) = true := decide_eq_true c3
     clear c3
     by_cases c4 : 0 ≤ x3_1
     ·rw [if_pos c4] at H
      have c4b0 : decide (0 ≤ x3_1) = true := decide_eq_true c4
      clear c4
      replace H := Option.bind_eq_some_iff.mp H
      obtain ⟨t258, A50, H⟩ := H
      replace H : (if t258 = true then (if x3_1 > 0 then (if 0 ≤ (wrap64 (x3_1 - 1)) then (if (wrap64 (x3_1 - 1)) < (l0.length : Int) then (if ((rd_T55 l0 (wrap64 (x3_1 - 1))).f0) ≥ ((rd_T55 l0 x3_1).f0) then (some false) else (spec_RulesOk.l0 k1 l0 (wrap64 (x3_1 + 1)))) else (none)) else (none)) else (spec_RulesOk.l0 k1 l0 (wrap64 (x3_1 + 1)))) else (some false)) = some r := H
      have A5 := Gv.a0 A50
      clear A50
      by_cases c6 : t258 = true
      ·subst c6
       have H1 : (if x3_1 > 0 then (if 0 ≤ (wrap64 (x3_1 - 1)) then (if (wrap64 (x3_1 - 1)) < (l0.length : Int) then (if ((rd_T55 l0 (wrap64 (x3_1 - 1))).f0) ≥ ((rd_T55 l0 x3_1).f0) then (some false) else (spec_RulesOk.l0 k1 l0 (wrap64 (x3_1 + 1)))) else (none)) else (none)) else (spec_RulesOk.l0 k1 l0 (wrap64 (x3_1 + 1)))) = some r := by rw [if_pos rfl] at H; exact H
       clear H
       have H := H1
       clear H1
       by_cases c7 : x3_1 > 0
       ·rw [if_pos c7] at H
        have c7b0 : decide (0 < x3_1) = true := decide_eq_true c7
        clear c7
        obtain ⟨ji8, hji8⟩ : ∃ j_ : Int, (wrap64 (x3_1 - 1)) = j_ := ⟨_, rfl⟩
        replace H : (if 0 ≤ (ji8) then (if (ji8) < (l0.length : Int) then (if ((rd_T55 l0 (ji8)).f0) ≥ ((rd_T55 l0 x3_1).f0) then (some false) else (spec_RulesOk.l0 k1 l0 (wrap64 (x3_1 + 1)))) else (none)) else (none)) = some r := by first | (rw [hji8] at H; exact H) | (simp only [hji8] at H ⊢; exact H)
        (try rw [hji8] at A5)
        have hji8w : (IntKind.i64.wrap (x3_1 - 1)) = ji8 := (i64_w _).trans hji8
        by_cases c9 : 0 ≤ (ji8)
        ·rw [if_pos c9] at H
         have c9b0 : decide (0 ≤ (ji8)) = true := decide_eq_true c9
         clear c9
         by_cases c10 : (ji8) < (l0.length : Int)
         ·rw [if_pos c10] at H
          have c10b0 : decide ((ji8) < (l0.length : Int)) = true := decide_eq_true c10
          clear c10
          by_cases c11 : ((rd_T55 l0 (ji8)).f0) ≥ ((rd_T55 l0 x3_1).f0)
          ·rw [if_pos c11] at H
           have c11b0 : decide (((rd_T55 l0 x3_1).f0) ≤ ((rd_T55 l0 (ji8)).f0)) = true := decide_eq_true c11
           clear c11
           obtain rfl := Option.some.inj H
           try go_wp2
           have n0_ := Gv.a0 (below_drew1 HB.out)
           clear HB
           have HB := n0_
           clear n0_
           have p257 : 0 ≤ (x3_1 : Int) := of_decide_eq_true (by first | (with_reducible assumption) | assumption)
           have q257 : x3_1 < (l0.length : Int) := of_decide_eq_true (by first | (with_reducible assumption) | assumption)
           obtain ⟨ad257, e257, hx257_0, hx257_1, hx257_2, hx257_3, hx257_4, hx257_5, hx257_6, hx257_7, hx257_8, hx257_9, hx257_10, hx257_11, hx257_12, hx257_13, hx257_14, hx257_15, hx257_16, hx257_17, hx257_18, hx257_19, hx257_20⟩ := at_T55 HR0.out x3_1 p257 q257
           have hw257_20 := hx257_20
           have hw257_19 := hx257_19
           have hw257_18 := hx257_18
           have hw257_17 := hx257_17
           have hw257_16 := hx257_16
           have hw257_15 := hx257_15
           have hw257_14 := hx257_14
           have hw257_13 := hx257_13
           have hw257_12 := hx257_12
           have hw257_11 := hx257_11
           have hw257_10 := hx257_10
           have hw257_9 := hx257_9
           have hw257_8 := hx257_8
           have hw257_7 := hx257_7
           have hw257_6 := hx257_6
           have hw257_5 := hx257_5
           have hw257_4 := hx257_4
           have hw257_3 := hx257_3
           have hw257_2 := hx257_2
           have hw257_1 := hx257_1
           have hw257_0 := hx257_0
           cases e257
           replace hx257_0 := Gv.bx HB.out hx257_0
           replace hx257_1 := Gv.bx HB.out hx257_1
           replace hx257_2 := Gv.bx HB.out hx257_2
           replace hx257_3 := Gv.bx HB.out hx257_3
           replace hx257_4 := Gv.bx HB.out hx257_4
           replace hx257_5 := Gv.bx HB.out hx257_5
           replace hx257_6 := Gv.bx HB.out hx257_6
           replace hx257_7 := Gv.bx HB.out hx257_7
           replace hx257_8 := Gv.bx HB.out hx257_8
           replace hx257_9 := Gv.bx HB.out hx257_9
           replace hx257_10 := Gv.bx HB.out hx257_10
           replace hx257_11 := Gv.bx HB.out hx257_11
           replace hx257_12 := Gv.bx HB.out hx257_12
           replace hx257_13 := Gv.bx HB.out hx257_13
           replace hx257_14 := Gv.bx HB.out hx257_14
           replace hx257_15 := Gv.bx HB.out hx257_15
           replace hx257_16 := Gv.bx HB.out hx257_16
           replace hx257_17 := Gv.bx HB.out hx257_17
           replace hx257_18 := Gv.bx HB.out hx257_18
           replace hx257_19 := Gv.bx HB.out hx257_19
           replace hx257_20 := Gv.bx HB.out hx257_20
           replace p257 := eq_true p257
           replace q257 := eq_true q257
           have p259 : 0 ≤ ((ji8) : Int) := of_decide_eq_true (by first | (with_reducible assumption) | assumption)
           have q259 : (ji8) < (l0.length : Int) := of_decide_eq_true (by first | (with_reducible assumption) | assumption)
           obtain ⟨ad259, e259, hx259_0, _, _, _, _, _, _, _, _, _, _, _, _, _, _, _, _, _, _, _, _⟩ := at_T55 HR0.out (ji8) p259 q259
           have hw259_0 := hx259_0
           obtain rfl : ad257 = ad259 := (by injection e259)
           replace hx259_0 := Gv.bx HB.out hx259_0
           replace p259 := eq_true p259
           replace q259 := eq_true q259
           have p260 : 0 ≤ (x3_1 : Int) := of_decide_eq_true (by first | (with_reducible assumption) | assumption)
           have q260 : x3_1 < (l0.length : Int) := of_decide_eq_true (by first | (with_reducible assumption) | assumption)
           obtain ⟨ad260, e260, hx260_0, _, _, _, _, _, _, _, _, _, _, _, _, _, _, _, _, _, _, _, _⟩ := at_T55 HR0.out x3_1 p260 q260
           have hw260_0 := hx260_0
           obtain rfl : ad257 = ad260 := (by injection e260)
           replace hx260_0 := Gv.bx HB.out hx260_0
           replace p260 := eq_true p260
           replace q260 := eq_true q260
           refine start_ (n := 24) (S := fun w' => w'.cell? (ad257.add ((x3_1).toNat * 21)) = some (.int .i64 ((rd_T55 l0 x3_1).f0)) ∧ w'.cell? ⟨(ad257.add ((x3_1).toNat * 21)).block, (ad257.add ((x3_1).toNat * 21)).off + 1, none⟩ = some (.int .i64 ((rd_T55 l0 x3_1).f1.f0.f0)) ∧ w'.cell? ⟨(ad257.add ((x3_1).toNat * 21)).block, (ad257.add ((x3_1).toNat * 21)).off + 2, none⟩ = some (.int .i64 ((rd_T55 l0 x3_1).f1.f0.f1)) ∧ w'.cell? ⟨(ad257.add ((x3_1).toNat * 21)).block, (ad257.add ((x3_1).toNat * 21)).off + 3, none⟩ = some (.int .i64 ((rd_T55 l0 x3_1).f1.f0.f2)) ∧ w'.cell? ⟨(ad257.add ((x3_1).toNat * 21)).block, (ad257.add ((x3_1).toNat * 21)).off + 4, none⟩ = some (.int .i64 ((rd_T55 l0 x3_1).f1.f0.f3)) ∧ w'.cell? ⟨(ad257.add ((x3_1).toNat * 21)).block, (ad257.add ((x3_1).toNat * 21)).off + 5, none⟩ = some (.int .i64 ((rd_T55 l0 x3_1).f1.f0.f4)) ∧ w'.cell? ⟨(ad257.add ((x3_1).toNat * 21)).block, (ad257.add ((x3_1).toNat * 21)).off + 6, none⟩ = some (.int .i64 ((rd_T55 l0 x3_1).f1.f1)) ∧ w'.cell? ⟨(ad257.add ((x3_1).toNat * 21)).block, (ad257.add ((x3_1).toNat * 21)).off + 7, none⟩ = some (.int .i64 ((rd_T55 l0 x3_1).f2.f0.f0)) ∧ w'.cell? ⟨(ad257.add ((x3_1).toNat * 21)).block, (ad257.add ((x3_1).toNat * 21)).off + 8, none⟩ = some (.int .i64 ((rd_T55 l0 x3_1).f2.f0.f1)) ∧ w'.cell? ⟨(ad257.add ((x3_1).toNat * 21)).block, (ad257.add ((x3_1).toNat * 21)).off + 9, none⟩ = some (.int .i64 ((rd_T55 l0 x3_1).f2.f0.f2)) ∧ w'.cell? ⟨(ad257.add ((x3_1).toNat * 21)).block, (ad257.add ((x3_1).toNat * 21)).off + 10, none⟩ = some (.int .i64 ((rd_T55 l0 x3_1).f2.f0.f3)) ∧ w'.cell? ⟨(ad257.add ((x3_1).toNat * 21)).block, (ad257.add ((x3_1).toNat * 21)).off + 11, none⟩ = some (.int .i64 ((rd_T55 l0 x3_1).f2.f0.f4)) ∧ w'.cell? ⟨(ad257.add ((x3_1).toNat * 21)).block, (ad257.add ((x3_1).toNat * 21)).off + 12, none⟩ = some (.int .i64 ((rd_T55 l0 x3_1).f2.f1)) ∧ w'.cell? ⟨(ad257.add ((x3_1).toNat * 21)).block, (ad257.add ((x3_1).toNat * 21)).off + 13, none⟩ = some (.int .i64 ((rd_T55 l0 x3_1).f3)) ∧ w'.cell? ⟨(ad257.add ((x3_1).toNat * 21)).block, (ad257.add ((x3_1).toNat * 21)).off + 14, none⟩ = some (.int .i64 ((rd_T55 l0 x3_1).f4)) ∧ w'.cell? ⟨(ad257.add ((x3_1).toNat * 21)).block, (ad257.add ((x3_1).toNat * 21)).off + 15, none⟩ = some (.int .i64 ((rd_T55 l0 x3_1).f5)) ∧ w'.cell? ⟨(ad257.add ((x3_1).toNat * 21)).block, (ad257.add ((x3_1).toNat * 21)).off + 16, none⟩ = some (.int .i64 ((rd_T55 l0 x3_1).f6)) ∧ w'.cell? ⟨(ad257.add ((x3_1).toNat * 21)).block, (ad257.add ((x3_1).toNat * 21)).off + 17, none⟩ = some (.int .i64 ((rd_T55 l0 x3_1).f7)) ∧ w'.cell? ⟨(ad257.add ((x3_1).toNat * 21)).block, (ad257.add ((x3_1).toNat * 21)).off + 18, none⟩ = some (.int .i64 ((rd_T55 l0 x3_1).f8)) ∧ w'.cell? ⟨(ad257.add ((x3_1).toNat * 21)).block, (ad257.add ((x3_1).toNat * 21)).off + 19, none⟩ = some (.int .i64 ((rd_T55 l0 x3_1).f9)) ∧ w'.cell? ⟨(ad257.add ((x3_1).toNat * 21)).block, (ad257.add ((x3_1).toNat * 21)).off + 20, none⟩ = some (.int .i64 ((rd_T55 l0 x3_1).f10)) ∧ w'.cell? (ad257.add (((ji8)).toNat * 21)) = some (.int .i64 ((rd_T55 l0 (ji8)).f0)) ∧ w'.cell? (ad257.add ((x3_1).toNat * 21)) = some (.int .i64 ((rd_T55 l0 x3_1).f0))) (ds := []) #[false, false, false, false, false, false, false, false, false, false, false, false, false, false, false, false, false, false, false, false, false, false, false, false] (by kernel_rfl) rfl rfl ⟨(Gv.bx HB.out hw257_0), (Gv.bx HB.out hw257_1), (Gv.bx HB.out hw257_2), (Gv.bx HB.out hw257_3), (Gv.bx HB.out hw257_4), (Gv.bx HB.out hw257_5), (Gv.bx HB.out hw257_6), (Gv.bx HB.out hw257_7), (Gv.bx HB.out hw257_8), (Gv.bx HB.out hw257_9), (Gv.bx HB.out hw257_10), (Gv.bx HB.out hw257_11), (Gv.bx HB.out hw257_12), (Gv.bx HB.out hw257_13), (Gv.bx HB.out hw257_14), (Gv.bx HB.out hw257_15), (Gv.bx HB.out hw257_16), (Gv.bx HB.out hw257_17), (Gv.bx HB.out hw257_18), (Gv.bx HB.out hw257_19), (Gv.bx HB.out hw257_20), (Gv.bx HB.out hw259_0), (Gv.bx HB.out hw260_0)⟩ (fun hHeld => ?_); refine with_tabW spec_RulesOk.tab6 spec_RulesOk.bits6 (fun HT_ HW_ => ?_)
           generalize wr.drew = w12 at HB hx257_0 hx257_1 hx257_10 hx257_11 hx257_12 hx257_13 hx257_14 hx257_15 hx257_16 hx257_17 hx257_18 hx257_19 hx257_2 hx257_20 hx257_3 hx257_4 hx257_5 hx257_6 hx257_7 hx257_8 hx257_9 hx259_0 hx260_0 hHeld ⊢
           refine Gv.pu 0 (some 13) HT_ ?_
           refine Gv.pu 1 (some 14) HT_ ?_
           refine Gv.pu 2 (some 15) HT_ ?_
           refine take_ (i := 3) (N := some 16) (v := ?_) (a' := ?_) #[true, true, true, true, false, false, false, false, false, false, false, false, false, false, false, false, false, false, false, false, false, false, false, false] rfl rfl (take_ofW HT_.out HW_.out (by kernel_rfl)) (fun _ _ _ h => h) (Or.inl ⟨by rfl, ?_⟩) hHeld ?_ ?_
           rotate_left
           ·rintro w' ⟨s0, s1, s2, s3, s4, s5, s6, s7, s8, s9, s10, s11, s12, s13, s14, s15, s16, s17, s18, s19, s20, s21, s22⟩
            first | ((refine Gv.load_run (t := 55) (A := ad257.add ((x3_1).toNat * 21)) (cs := [_, _, _, _, _, _, _, _, _, _, _, _, _, _, _, _, _, _, _, _, _]) (x := ?xx7_) ?ho7_ ?hx7_ ⟨s0, s1, s2, s3, s4, s5, s6, s7, s8, s9, s10, s11, s12, s13, s14, s15, s16, s17, s18, s19, s20, trivial⟩ Try.underlying55 rfl (by kernel_rfl)); (case ho7_ => rfl); (case hx7_ => rfl)) | (go_simp; with_reducible rfl)
           rotate_left
           ·simp only [Act.put, List.setIfInBounds_toArray, List.set_cons_zero, List.set_cons_succ, i64_w, i32_w]
            rfl
           refine one_ (i := 4) (N := some 17) #[true, true, true, true, true, false, false, false, false, false, false, false, false, false, false, false, false, false, false, false, false, false, false, false] rfl rfl (one_of HT_.out (by kernel_rfl)) (by decide) (fun K hK => ?_)
           refine goes_ Try.func28 (by kernel_rfl) rfl #[.agg #[.int .i64 ((rd_T55 l0 x3_1).f0), .int .i64 ((rd_T55 l0 x3_1).f1.f0.f0), .int .i64 ((rd_T55 l0 x3_1).f1.f0.f1), .int .i64 ((rd_T55 l0 x3_1).f1.f0.f2), .int .i64 ((rd_T55 l0 x3_1).f1.f0.f3), .int .i64 ((rd_T55 l0 x3_1).f1.f0.f4), .int .i64 ((rd_T55 l0 x3_1).f1.f1), .int .i64 ((rd_T55 l0 x3_1).f2.f0.f0), .int .i64 ((rd_T55 l0 x3_1).f2.f0.f1), .int .i64 ((rd_T55 l0 x3_1).f2.f0.f2), .int .i64 ((rd_T55 l0 x3_1).f2.f0.f3), .int .i64 ((rd_T55 l0 x3_1).f2.f0.f4), .int .i64 ((rd_T55 l0 x3_1).f2.f1), .int .i64 ((rd_T55 l0 x3_1).f3), .int .i64 ((rd_T55 l0 x3_1).f4), .int .i64 ((rd_T55 l0 x3_1).f5), .int .i64 ((rd_T55 l0 x3_1).f6), .int .i64 ((rd_T55 l0 x3_1).f7), .int .i64 ((rd_T55 l0 x3_1).f8), .int .i64 ((rd_T55 l0 x3_1).f9), .int .i64 ((rd_T55 l0 x3_1).f10)]] (by rfl) rfl rfl Gv.lm ?_
           with_reducible refine (spec_RuleOk.calls k1 ((rd_T55 l0 x3_1).f0) ((rd_T55 l0 x3_1).f1.f0.f0) ((rd_T55 l0 x3_1).f1.f0.f1) ((rd_T55 l0 x3_1).f1.f0.f2) ((rd_T55 l0 x3_1).f1.f0.f3) ((rd_T55 l0 x3_1).f1.f0.f4) ((rd_T55 l0 x3_1).f1.f1) ((rd_T55 l0 x3_1).f2.f0.f0) ((rd_T55 l0 x3_1).f2.f0.f1) ((rd_T55 l0 x3_1).f2.f0.f2) ((rd_T55 l0 x3_1).f2.f0.f3) ((rd_T55 l0 x3_1).f2.f0.f4) ((rd_T55 l0 x3_1).f2.f1) ((rd_T55 l0 x3_1).f3) ((rd_T55 l0 x3_1).f4) ((rd_T55 l0 x3_1).f5) ((rd_T55 l0 x3_1).f6) ((rd_T55 l0 x3_1).f7) ((rd_T55 l0 x3_1).f8) ((rd_T55 l0 x3_1).f9) ((rd_T55 l0 x3_1).f10) true _ A5.out).mono ?_
           rintro e w13 ⟨rfl, hb⟩
           refine ⟨_, rfl, ?_⟩
           have n0_ := Gv.a0 (below_step Gv.bw hb)
           clear HB
           have HB := n0_
           clear n0_
           (try clear hb)
           (try clear hb2)
           (try clear hk)
           (try clear hi)
           refine hK.out _ _ ⟨(Gv.bx HB.out hw257_0), (Gv.bx HB.out hw257_1), (Gv.bx HB.out hw257_2), (Gv.bx HB.out hw257_3), (Gv.bx HB.out hw257_4), (Gv.bx HB.out hw257_5), (Gv.bx HB.out hw257_6), (Gv.bx HB.out hw257_7), (Gv.bx HB.out hw257_8), (Gv.bx HB.out hw257_9), (Gv.bx HB.out hw257_10), (Gv.bx HB.out hw257_11), (Gv.bx HB.out hw257_12), (Gv.bx HB.out hw257_13), (Gv.bx HB.out hw257_14), (Gv.bx HB.out hw257_15), (Gv.bx HB.out hw257_16), (Gv.bx HB.out hw257_17), (Gv.bx HB.out hw257_18), (Gv.bx HB.out hw257_19), (Gv.bx HB.out hw257_20), (Gv.bx HB.out hw259_0), (Gv.bx HB.out hw260_0)⟩ (fun hHeld => ?_)
           clear hK K
           refine norm_ (a' := ?_) ?_ ?_
           rotate_left
           ·show Act.put _ (some 17) _ = _
            simp only [Act.put, List.setIfInBounds_toArray, List.set_cons_zero, List.set_cons_succ, i64_w, i32_w]
            rfl
           refine Gv.pu 5 (some 18) HT_ ?_
           refine Gv.pu 6 (some 19) HT_ ?_
           refine Gv.pu 7 (some 20) HT_ ?_
           refine Gv.pu 8 (some 21) HT_ ?_
           refine Gv.pu 9 (some 22) HT_ ?_
           refine Gv.pu 10 (some 23) HT_ ?_
           refine Gv.pu 11 (some 24) HT_ ?_
           refine Gv.pu 12 (some 25) HT_ ?_
           refine Gv.pu 13 (some 26) HT_ ?_
           refine Gv.pu 14 (some 27) HT_ ?_
           refine Gv.pu 16 (some 29) HT_ ?_
           refine Gv.pu 17 (some 30) HT_ ?_
           refine Gv.pu 18 (some 31) HT_ ?_
           refine Gv.pu 19 (some 32) HT_ ?_
           refine take_ (i := 15) (N := some 28) (v := ?_) (a' := ?_) #[true, true, true, true, true, true, true, true, true, true, true, true, true, true, true, true, true, true, true, true, false, false, false, false] rfl rfl (take_ofW HT_.out HW_.out (by kernel_rfl)) (fun _ _ _ h => h) (Or.inl ⟨by rfl, ?_⟩) hHeld ?_ ?_
           rotate_left
           ·rintro w' ⟨s0, s1, s2, s3, s4, s5, s6, s7, s8, s9, s10, s11, s12, s13, s14, s15, s16, s17, s18, s19, s20, s21, s22⟩
            first | ((refine Gv.load_run (t := 55) (A := ad257.add ((x3_1).toNat * 21)) (cs := [_, _, _, _, _, _, _, _, _, _, _, _, _, _, _, _, _, _, _, _, _]) (x := ?xx9_) ?ho9_ ?hx9_ ⟨s0, s1, s2, s3, s4, s5, s6, s7, s8, s9, s10, s11, s12, s13, s14, s15, s16, s17, s18, s19, s20, trivial⟩ Try.underlying55 rfl (by kernel_rfl)); (case ho9_ => rfl); (case hx9_ => rfl)) | (go_simp; with_reducible rfl)
           rotate_left
           ·simp only [Act.put, List.setIfInBounds_toArray, List.set_cons_zero, List.set_cons_succ, i64_w, i32_w]
            rfl
           refine take_ (i := 20) (N := some 33) (v := ?_) (a' := ?_) #[true, true, true, true, true, true, true, true, true, true, true, true, true, true, true, true, true, true, true, true, true, false, false, false] rfl rfl (take_ofW HT_.out HW_.out (by kernel_rfl)) (fun _ _ _ h => h) (Or.inl ⟨by rfl, ?_⟩) hHeld ?_ ?_
           rotate_left
           ·rintro w' ⟨s0, s1, s2, s3, s4, s5, s6, s7, s8, s9, s10, s11, s12, s13, s14, s15, s16, s17, s18, s19, s20, s21, s22⟩
            first | ((refine Gv.load_run (t := 55) (A := ad257.add ((x3_1).toNat * 21)) (cs := [_, _, _, _, _, _, _, _, _, _, _, _, _, _, _, _, _, _, _, _, _]) (x := ?xx11_) ?ho11_ ?hx11_ ⟨s0, s1, s2, s3, s4, s5, s6, s7, s8, s9, s10, s11, s12, s13, s14, s15, s16, s17, s18, s19, s20, trivial⟩ Try.underlying55 rfl (by kernel_rfl)); (case ho11_ => rfl); (case hx11_ => rfl)) | (go_simp; with_reducible rfl)
           rotate_left
           ·simp only [Act.put, List.setIfInBounds_toArray, List.set_cons_zero, List.set_cons_succ, i64_w, i32_w]
            rfl
           refine Gv.pu 21 (some 34) HT_ ?_
           refine Gv.pu 22 (some 35) HT_ ?_
           refine Gv.pu 23 (some 36) HT_ ?_
           refine done_ (done_of HT_.out (by kernel_rfl)) ?_
           try go_wp2
           go_ret
           exact ⟨by first | rfl | (simp [errW_none, errW_some] <;> rfl) | (simp only [← hji8]; first | rfl | (simp [errW_none, errW_some] <;> rfl)) | (simp [*, errW_none, errW_some] <;> rfl), Gv.bw⟩
          ·rw [if_neg c11] at H
           have c11b0 : decide (((rd_T55 l0 x3_1).f0) ≤ ((rd_T55 l0 (ji8)).f0)) = false := decide_eq_false c11
           clear c11
           have H' := Gv.a0 H
           clear H
           try go_wp2
           have n0_ := Gv.a0 (below_drew1 HB.out)
           clear HB
           have HB := n0_
           clear n0_
           have p257 : 0 ≤ (x3_1 : Int) := of_decide_eq_true (by first | (with_reducible assumption) | assumption)
           have q257 : x3_1 < (l0.length : Int) := of_decide_eq_true (by first | (with_reducible assumption) | assumption)
           obtain ⟨ad257, e257, hx257_0, hx257_1, hx257_2, hx257_3, hx257_4, hx257_5, hx257_6, hx257_7, hx257_8, hx257_9, hx257_10, hx257_11, hx257_12, hx257_13, hx257_14, hx257_15, hx257_16, hx257_17, hx257_18, hx257_19, hx257_20⟩ := at_T55 HR0.out x3_1 p257 q257
           have hw257_20 := hx257_20
           have hw257_19 := hx257_19
           have hw257_18 := hx257_18
           have hw257_17 := hx257_17
           have hw257_16 := hx257_16
           have hw257_15 := hx257_15
           have hw257_14 := hx257_14
           have hw257_13 := hx257_13
           have hw257_12 := hx257_12
           have hw257_11 := hx257_11
           have hw257_10 := hx257_10
           have hw257_9 := hx257_9
           have hw257_8 := hx257_8
           have hw257_7 := hx257_7
           have hw257_6 := hx257_6
           have hw257_5 := hx257_5
           have hw257_4 := hx257_4
           have hw257_3 := hx257_3
           have hw257_2 := hx257_2
           have hw257_1 := hx257_1
           have hw257_0 := hx257_0
           cases e257
           replace hx257_0 := Gv.bx HB.out hx257_0
           replace hx257_1 := Gv.bx HB.out hx257_1
           replace hx257_2 := Gv.bx HB.out hx257_2
           replace hx257_3 := Gv.bx HB.out hx257_3
           replace hx257_4 := Gv.bx HB.out hx257_4
           replace hx257_5 := Gv.bx HB.out hx257_5
           replace hx257_6 := Gv.bx HB.out hx257_6
           replace hx257_7 := Gv.bx HB.out hx257_7
           replace hx257_8 := Gv.bx HB.out hx257_8
           replace hx257_9 := Gv.bx HB.out hx257_9
           replace hx257_10 := Gv.bx HB.out hx257_10
           replace hx257_11 := Gv.bx HB.out hx257_11
           replace hx257_12 := Gv.bx HB.out hx257_12
           replace hx257_13 := Gv.bx HB.out hx257_13
           replace hx257_14 := Gv.bx HB.out hx257_14
           replace hx257_15 := Gv.bx HB.out hx257_15
           replace hx257_16 := Gv.bx HB.out hx257_16
           replace hx257_17 := Gv.bx HB.out hx257_17
           replace hx257_18 := Gv.bx HB.out hx257_18
           replace hx257_19 := Gv.bx HB.out hx257_19
           replace hx257_20 := Gv.bx HB.out hx257_20
           replace p257 := eq_true p257
           replace q257 := eq_true q257
           have p259 : 0 ≤ ((ji8) : Int) := of_decide_eq_true (by first | (with_reducible assumption) | assumption)
           have q259 : (ji8) < (l0.length : Int) := of_decide_eq_true (by first | (with_reducible assumption) | assumption)
           obtain ⟨ad259, e259, hx259_0, _, _, _, _, _, _, _, _, _, _, _, _, _, _, _, _, _, _, _, _⟩ := at_T55 HR0.out (ji8) p259 q259
           have hw259_0 := hx259_0
           obtain rfl : ad257 = ad259 := (by injection e259)
           replace hx259_0 := Gv.bx HB.out hx259_0
           replace p259 := eq_true p259
           replace q259 := eq_true q259
           have p260 : 0 ≤ (x3_1 : Int) := of_decide_eq_true (by first | (with_reducible assumption) | assumption)
           have q260 : x3_1 < (l0.length : Int) := of_decide_eq_true (by first | (with_reducible assumption) | assumption)
           obtain ⟨ad260, e260, hx260_0, _, _, _, _, _, _, _, _, _, _, _, _, _, _, _, _, _, _, _, _⟩ := at_T55 HR0.out x3_1 p260 q260
           have hw260_0 := hx260_0
           obtain rfl : ad257 = ad260 := (by injection e260)
           replace hx260_0 := Gv.bx HB.out hx260_0
           replace p260 := eq_true p260
           replace q260 := eq_true q260
           refine start_ (n := 24) (S := fun w' => w'.cell? (ad257.add ((x3_1).toNat * 21)) = some (.int .i64 ((rd_T55 l0 x3_1).f0)) ∧ w'.cell? ⟨(ad257.add ((x3_1).toNat * 21)).block, (ad257.add ((x3_1).toNat * 21)).off + 1, none⟩ = some (.int .i64 ((rd_T55 l0 x3_1).f1.f0.f0)) ∧ w'.cell? ⟨(ad257.add ((x3_1).toNat * 21)).block, (ad257.add ((x3_1).toNat * 21)).off + 2, none⟩ = some (.int .i64 ((rd_T55 l0 x3_1).f1.f0.f1)) ∧ w'.cell? ⟨(ad257.add ((x3_1).toNat * 21)).block, (ad257.add ((x3_1).toNat * 21)).off + 3, none⟩ = some (.int .i64 ((rd_T55 l0 x3_1).f1.f0.f2)) ∧ w'.cell? ⟨(ad257.add ((x3_1).toNat * 21)).block, (ad257.add ((x3_1).toNat * 21)).off + 4, none⟩ = some (.int .i64 ((rd_T55 l0 x3_1).f1.f0.f3)) ∧ w'.cell? ⟨(ad257.add ((x3_1).toNat * 21)).block, (ad257.add ((x3_1).toNat * 21)).off + 5, none⟩ = some (.int .i64 ((rd_T55 l0 x3_1).f1.f0.f4)) ∧ w'.cell? ⟨(ad257.add ((x3_1).toNat * 21)).block, (ad257.add ((x3_1).toNat * 21)).off + 6, none⟩ = some (.int .i64 ((rd_T55 l0 x3_1).f1.f1)) ∧ w'.cell? ⟨(ad257.add ((x3_1).toNat * 21)).block, (ad257.add ((x3_1).toNat * 21)).off + 7, none⟩ = some (.int .i64 ((rd_T55 l0 x3_1).f2.f0.f0)) ∧ w'.cell? ⟨(ad257.add ((x3_1).toNat * 21)).block, (ad257.add ((x3_1).toNat * 21)).off + 8, none⟩ = some (.int .i64 ((rd_T55 l0 x3_1).f2.f0.f1)) ∧ w'.cell? ⟨(ad257.add ((x3_1).toNat * 21)).block, (ad257.add ((x3_1).toNat * 21)).off + 9, none⟩ = some (.int .i64 ((rd_T55 l0 x3_1).f2.f0.f2)) ∧ w'.cell? ⟨(ad257.add ((x3_1).toNat * 21)).block, (ad257.add ((x3_1).toNat * 21)).off + 10, none⟩ = some (.int .i64 ((rd_T55 l0 x3_1).f2.f0.f3)) ∧ w'.cell? ⟨(ad257.add ((x3_1).toNat * 21)).block, (ad257.add ((x3_1).toNat * 21)).off + 11, none⟩ = some (.int .i64 ((rd_T55 l0 x3_1).f2.f0.f4)) ∧ w'.cell? ⟨(ad257.add ((x3_1).toNat * 21)).block, (ad257.add ((x3_1).toNat * 21)).off + 12, none⟩ = some (.int .i64 ((rd_T55 l0 x3_1).f2.f1)) ∧ w'.cell? ⟨(ad257.add ((x3_1).toNat * 21)).block, (ad257.add ((x3_1).toNat * 21)).off + 13, none⟩ = some (.int .i64 ((rd_T55 l0 x3_1).f3)) ∧ w'.cell? ⟨(ad257.add ((x3_1).toNat * 21)).block, (ad257.add ((x3_1).toNat * 21)).off + 14, none⟩ = some (.int .i64 ((rd_T55 l0 x3_1).f4)) ∧ w'.cell? ⟨(ad257.add ((x3_1).toNat * 21)).block, (ad257.add ((x3_1).toNat * 21)).off + 15, none⟩ = some (.int .i64 ((rd_T55 l0 x3_1).f5)) ∧ w'.cell? ⟨(ad257.add ((x3_1).toNat * 21)).block, (ad257.add ((x3_1).toNat * 21)).off + 16, none⟩ = some (.int .i64 ((rd_T55 l0 x3_1).f6)) ∧ w'.cell? ⟨(ad257.add ((x3_1).toNat * 21)).block, (ad257.add ((x3_1).toNat * 21)).off + 17, none⟩ = some (.int .i64 ((rd_T55 l0 x3_1).f7)) ∧ w'.cell? ⟨(ad257.add ((x3_1).toNat * 21)).block, (ad257.add ((x3_1).toNat * 21)).off + 18, none⟩ = some (.int .i64 ((rd_T55 l0 x3_1).f8)) ∧ w'.cell? ⟨(ad257.add ((x3_1).toNat * 21)).block, (ad257.add ((x3_1).toNat * 21)).off + 19, none⟩ = some (.int .i64 ((rd_T55 l0 x3_1).f9)) ∧ w'.cell? ⟨(ad257.add ((x3_1).toNat * 21)).block, (ad257.add ((x3_1).toNat * 21)).off + 20, none⟩ = some (.int .i64 ((rd_T55 l0 x3_1).f10)) ∧ w'.cell? (ad257.add (((ji8)).toNat * 21)) = some (.int .i64 ((rd_T55 l0 (ji8)).f0)) ∧ w'.cell? (ad257.add ((x3_1).toNat * 21)) = some (.int .i64 ((rd_T55 l0 x3_1).f0))) (ds := []) #[false, false, false, false, false, false, false, false, false, false, false, false, false, false, false, false, false, false, false, false, false, false, false, false] (by kernel_rfl) rfl rfl ⟨(Gv.bx HB.out hw257_0), (Gv.bx HB.out hw257_1), (Gv.bx HB.out hw257_2), (Gv.bx HB.out hw257_3), (Gv.bx HB.out hw257_4), (Gv.bx HB.out hw257_5), (Gv.bx HB.out hw257_6), (Gv.bx HB.out hw257_7), (Gv.bx HB.out hw257_8), (Gv.bx HB.out hw257_9), (Gv.bx HB.out hw257_10), (Gv.bx HB.out hw257_11), (Gv.bx HB.out hw257_12), (Gv.bx HB.out hw257_13), (Gv.bx HB.out hw257_14), (Gv.bx HB.out hw257_15), (Gv.bx HB.out hw257_16), (Gv.bx HB.out hw257_17), (Gv.bx HB.out hw257_18), (Gv.bx HB.out hw257_19), (Gv.bx HB.out hw257_20), (Gv.bx HB.out hw259_0), (Gv.bx HB.out hw260_0)⟩ (fun hHeld => ?_); refine with_tabW spec_RulesOk.tab6 spec_RulesOk.bits6 (fun HT_ HW_ => ?_)
           generalize wr.drew = w14 at HB hx257_0 hx257_1 hx257_10 hx257_11 hx257_12 hx257_13 hx257_14 hx257_15 hx257_16 hx257_17 hx257_18 hx257_19 hx257_2 hx257_20 hx257_3 hx257_4 hx257_5 hx257_6 hx257_7 hx257_8 hx257_9 hx259_0 hx260_0 hHeld ⊢
           refine Gv.pu 0 (some 13) HT_ ?_
           refine Gv.pu 1 (some 14) HT_ ?_
           refine Gv.pu 2 (some 15) HT_ ?_
           refine take_ (i := 3) (N := some 16) (v := ?_) (a' := ?_) #[true, true, true, true, false, false, false, false, false, false, false, false, false, false, false, false, false, false, false, false, false, false, false, false] rfl rfl (take_ofW HT_.out HW_.out (by kernel_rfl)) (fun _ _ _ h => h) (Or.inl ⟨by rfl, ?_⟩) hHeld ?_ ?_
           rotate_left
           ·rintro w' ⟨s0, s1, s2, s3, s4, s5, s6, s7, s8, s9, s10, s11, s12, s13, s14, s15, s16, s17, s18, s19, s20, s21, s22⟩
            first | ((refine Gv.load_run (t := 55) (A := ad257.add ((x3_1).toNat * 21)) (cs := [_, _, _, _, _, _, _, _, _, _, _, _, _, _, _, _, _, _, _, _, _]) (x := ?xx13_) ?ho13_ ?hx13_ ⟨s0, s1, s2, s3, s4, s5, s6, s7, s8, s9, s10, s11, s12, s13, s14, s15, s16, s17, s18, s19, s20, trivial⟩ Try.underlying55 rfl (by kernel_rfl)); (case ho13_ => rfl); (case hx13_ => rfl)) | (go_simp; with_reducible rfl)
           rotate_left
           ·simp only [Act.put, List.setIfInBounds_toArray, List.set_cons_zero, List.set_cons_succ, i64_w, i32_w]
            rfl
           refine one_ (i := 4) (N := some 17) #[true, true, true, true, true, false, false, false, false, false, false, false, false, false, false, false, false, false, false, false, false, false, false, false] rfl rfl (one_of HT_.out (by kernel_rfl)) (by decide) (fun K hK => ?_)
           refine goes_ Try.func28 (by kernel_rfl) rfl #[.agg #[.int .i64 ((rd_T55 l0 x3_1).f0), .int .i64 ((rd_T55 l0 x3_1).f1.f0.f0), .int .i64 ((rd_T55 l0 x3_1).f1.f0.f1), .int .i64 ((rd_T55 l0 x3_1).f1.f0.f2), .int .i64 ((rd_T55 l0 x3_1).f1.f0.f3), .int .i64 ((rd_T55 l0 x3_1).f1.f0.f4), .int .i64 ((rd_T55 l0 x3_1).f1.f1), .int .i64 ((rd_T55 l0 x3_1).f2.f0.f0), .int .i64 ((rd_T55 l0 x3_1).f2.f0.f1), .int .i64 ((rd_T55 l0 x3_1).f2.f0.f2), .int .i64 ((rd_T55 l0 x3_1).f2.f0.f3), .int .i64 ((rd_T55 l0 x3_1).f2.f0.f4), .int .i64 ((rd_T55 l0 x3_1).f2.f1), .int .i64 ((rd_T55 l0 x3_1).f3), .int .i64 ((rd_T55 l0 x3_1).f4), .int .i64 ((rd_T55 l0 x3_1).f5), .int .i64 ((rd_T55 l0 x3_1).f6), .int .i64 ((rd_T55 l0 x3_1).f7), .int .i64 ((rd_T55 l0 x3_1).f8), .int .i64 ((rd_T55 l0 x3_1).f9), .int .i64 ((rd_T55 l0 x3_1).f10)]] (by rfl) rfl rfl Gv.lm ?_
           with_reducible refine (spec_RuleOk.calls k1 ((rd_T55 l0 x3_1).f0) ((rd_T55 l0 x3_1).f1.f0.f0) ((rd_T55 l0 x3_1).f1.f0.f1) ((rd_T55 l0 x3_1).f1.f0.f2) ((rd_T55 l0 x3_1).f1.f0.f3) ((rd_T55 l0 x3_1).f1.f0.f4) ((rd_T55 l0 x3_1).f1.f1) ((rd_T55 l0 x3_1).f2.f0.f0) ((rd_T55 l0 x3_1).f2.f0.f1) ((rd_T55 l0 x3_1).f2.f0.f2) ((rd_T55 l0 x3_1).f2.f0.f3) ((rd_T55 l0 x3_1).f2.f0.f4) ((rd_T55 l0 x3_1).f2.f1) ((rd_T55 l0 x3_1).f3) ((rd_T55 l0 x3_1).f4) ((rd_T55 l0 x3_1).f5) ((rd_T55 l0 x3_1).f6) ((rd_T55 l0 x3_1).f7) ((rd_T55 l0 x3_1).f8) ((rd_T55 l0 x3_1).f9) ((rd_T55 l0 x3_1).f10) true _ A5.out).mono ?_
           rintro e w15 ⟨rfl, hb⟩
           refine ⟨_, rfl, ?_⟩
           have n0_ := Gv.a0 (below_step Gv.bw hb)
           clear HB
           have HB := n0_
           clear n0_
           (try clear hb)
           (try clear hb2)
           (try clear hk)
           (try clear hi)
           refine hK.out _ _ ⟨(Gv.bx HB.out hw257_0), (Gv.bx HB.out hw257_1), (Gv.bx HB.out hw257_2), (Gv.bx HB.out hw257_3), (Gv.bx HB.out hw257_4), (Gv.bx HB.out hw257_5), (Gv.bx HB.out hw257_6), (Gv.bx HB.out hw257_7), (Gv.bx HB.out hw257_8), (Gv.bx HB.out hw257_9), (Gv.bx HB.out hw257_10), (Gv.bx HB.out hw257_11), (Gv.bx HB.out hw257_12), (Gv.bx HB.out hw257_13), (Gv.bx HB.out hw257_14), (Gv.bx HB.out hw257_15), (Gv.bx HB.out hw257_16), (Gv.bx HB.out hw257_17), (Gv.bx HB.out hw257_18), (Gv.bx HB.out hw257_19), (Gv.bx HB.out hw257_20), (Gv.bx HB.out hw259_0), (Gv.bx HB.out hw260_0)⟩ (fun hHeld => ?_)
           clear hK K
           refine norm_ (a' := ?_) ?_ ?_
           rotate_left
           ·show Act.put _ (some 17) _ = _
            simp only [Act.put, List.setIfInBounds_toArray, List.set_cons_zero, List.set_cons_succ, i64_w, i32_w]
            rfl
           refine Gv.pu 5 (some 18) HT_ ?_
           refine Gv.pu 6 (some 19) HT_ ?_
           refine Gv.pu 7 (some 20) HT_ ?_
           refine Gv.pu 8 (some 21) HT_ ?_
           refine Gv.pu 9 (some 22) HT_ ?_
           refine Gv.pu 10 (some 23) HT_ ?_
           refine Gv.pu 11 (some 24) HT_ ?_
           refine Gv.pu 12 (some 25) HT_ ?_
           refine Gv.pu 13 (some 26) HT_ ?_
           refine Gv.pu 14 (some 27) HT_ ?_
           refine Gv.pu 16 (some 29) HT_ ?_
           refine Gv.pu 17 (some 30) HT_ ?_
           refine Gv.pu 18 (some 31) HT_ ?_
           refine Gv.pu 19 (some 32) HT_ ?_
           refine take_ (i := 15) (N := some 28) (v := ?_) (a' := ?_) #[true, true, true, true, true, true, true, true, true, true, true, true, true, true, true, true, true, true, true, true, false, false, false, false] rfl rfl (take_ofW HT_.out HW_.out (by kernel_rfl)) (fun _ _ _ h => h) (Or.inl ⟨by rfl, ?_⟩) hHeld ?_ ?_
           rotate_left
           ·rintro w' ⟨s0, s1, s2, s3, s4, s5, s6, s7, s8, s9, s10, s11, s12, s13, s14, s15, s16, s17, s18, s19, s20, s21, s22⟩
            first | ((refine Gv.load_run (t := 55) (A := ad257.add ((x3_1).toNat * 21)) (cs := [_, _, _, _, _, _, _, _, _, _, _, _, _, _, _, _, _, _, _, _, _]) (x := ?xx15_) ?ho15_ ?hx15_ ⟨s0, s1, s2, s3, s4, s5, s6, s7, s8, s9, s10, s11, s12, s13, s14, s15, s16, s17, s18, s19, s20, trivial⟩ Try.underlying55 rfl (by kernel_rfl)); (case ho15_ => rfl); (case hx15_ => rfl)) | (go_simp; with_reducible rfl)
           rotate_left
           ·simp only [Act.put, List.setIfInBounds_toArray, List.set_cons_zero, List.set_cons_succ, i64_w, i32_w]
            rfl
           refine take_ (i := 20) (N := some 33) (v := ?_) (a' := ?_) #[true, true, true, true, true, true, true, true, true, true, true, true, true, true, true, true, true, true, true, true, true, false, false, false] rfl rfl (take_ofW HT_.out HW_.out (by kernel_rfl)) (fun _ _ _ h => h) (Or.inl ⟨by rfl, ?_⟩) hHeld ?_ ?_
           rotate_left
           ·rintro w' ⟨s0, s1, s2, s3, s4, s5, s6, s7, s8, s9, s10, s11, s12, s13, s14, s15, s16, s17, s18, s19, s20, s21, s22⟩
            first | ((refine Gv.load_run (t := 55) (A := ad257.add ((x3_1).toNat * 21)) (cs := [_, _, _, _, _, _, _, _, _, _, _, _, _, _, _, _, _, _, _, _, _]) (x := ?xx17_) ?ho17_ ?hx17_ ⟨s0, s1, s2, s3, s4, s5, s6, s7, s8, s9, s10, s11, s12, s13, s14, s15, s16, s17, s18, s19, s20, trivial⟩ Try.underlying55 rfl (by kernel_rfl)); (case ho17_ => rfl); (case hx17_ => rfl)) | (go_simp; with_reducible rfl)
           rotate_left
           ·simp only [Act.put, List.setIfInBounds_toArray, List.set_cons_zero, List.set_cons_succ, i64_w, i32_w]
            rfl
           refine Gv.pu 21 (some 34) HT_ ?_
           refine Gv.pu 22 (some 35) HT_ ?_
           refine Gv.pu 23 (some 36) HT_ ?_
           refine done_ (done_of HT_.out (by kernel_rfl)) ?_
           try go_wp2
           go_roundg k1
           case measure => have := HK1.out; omega
           case rel => exact ⟨(wrap64 (x3_1 + 1)), Gv.rq, H', ⟨by have := HK1.out; omega⟩, ⟨Gv.bw⟩⟩
         ·rw [if_neg c10] at H
          exact absurd H (by simp)
        ·rw [if_neg c9] at H
         exact absurd H (by simp)
       ·rw [if_neg c7] at H
        have c7b0 : decide (0 < x3_1) = false := decide_eq_false c7
        clear c7
        have H' := Gv.a0 H
        clear H
        try go_wp2
        have n0_ := Gv.a0 (below_drew1 HB.out)
        clear HB
        have HB := n0_
        clear n0_
        have p257 : 0 ≤ (x3_1 : Int) := of_decide_eq_true (by first | (with_reducible assumption) | assumption)
        have q257 : x3_1 < (l0.length : Int) := of_decide_eq_true (by first | (with_reducible assumption) | assumption)
        obtain ⟨ad257, e257, hx257_0, hx257_1, hx257_2, hx257_3, hx257_4, hx257_5, hx257_6, hx257_7, hx257_8, hx257_9, hx257_10, hx257_11, hx257_12, hx257_13, hx257_14, hx257_15, hx257_16, hx257_17, hx257_18, hx257_19, hx257_20⟩ := at_T55 HR0.out x3_1 p257 q257
        have hw257_20 := hx257_20
        have hw257_19 := hx257_19
        have hw257_18 := hx257_18
        have hw257_17 := hx257_17
        have hw257_16 := hx257_16
        have hw257_15 := hx257_15
        have hw257_14 := hx257_14
        have hw257_13 := hx257_13
        have hw257_12 := hx257_12
        have hw257_11 := hx257_11
        have hw257_10 := hx257_10
        have hw257_9 := hx257_9
        have hw257_8 := hx257_8
        have hw257_7 := hx257_7
        have hw257_6 := hx257_6
        have hw257_5 := hx257_5
        have hw257_4 := hx257_4
        have hw257_3 := hx257_3
        have hw257_2 := hx257_2
        have hw257_1 := hx257_1
        have hw257_0 := hx257_0
        cases e257
        replace hx257_0 := Gv.bx HB.out hx257_0
        replace hx257_1 := Gv.bx HB.out hx257_1
        replace hx257_2 := Gv.bx HB.out hx257_2
        replace hx257_3 := Gv.bx HB.out hx257_3
        replace hx257_4 := Gv.bx HB.out hx257_4
        replace hx257_5 := Gv.bx HB.out hx257_5
        replace hx257_6 := Gv.bx HB.out hx257_6
        replace hx257_7 := Gv.bx HB.out hx257_7
        replace hx257_8 := Gv.bx HB.out hx257_8
        replace hx257_9 := Gv.bx HB.out hx257_9
        replace hx257_10 := Gv.bx HB.out hx257_10
        replace hx257_11 := Gv.bx HB.out hx257_11
        replace hx257_12 := Gv.bx HB.out hx257_12
        replace hx257_13 := Gv.bx HB.out hx257_13
        replace hx257_14 := Gv.bx HB.out hx257_14
        replace hx257_15 := Gv.bx HB.out hx257_15
        replace hx257_16 := Gv.bx HB.out hx257_16
        replace hx257_17 := Gv.bx HB.out hx257_17
        replace hx257_18 := Gv.bx HB.out hx257_18
        replace hx257_19 := Gv.bx HB.out hx257_19
        replace hx257_20 := Gv.bx HB.out hx257_20
        replace p257 := eq_true p257
        replace q257 := eq_true q257
        refine start_ (n := 24) (S := fun w' => w'.cell? (ad257.add ((x3_1).toNat * 21)) = some (.int .i64 ((rd_T55 l0 x3_1).f0)) ∧ w'.cell? ⟨(ad257.add ((x3_1).toNat * 21)).block, (ad257.add ((x3_1).toNat * 21)).off + 1, none⟩ = some (.int .i64 ((rd_T55 l0 x3_1).f1.f0.f0)) ∧ w'.cell? ⟨(ad257.add ((x3_1).toNat * 21)).block, (ad257.add ((x3_1).toNat * 21)).off + 2, none⟩ = some (.int .i64 ((rd_T55 l0 x3_1).f1.f0.f1)) ∧ w'.cell? ⟨(ad257.add ((x3_1).toNat * 21)).block, (ad257.add ((x3_1).toNat * 21)).off + 3, none⟩ = some (.int .i64 ((rd_T55 l0 x3_1).f1.f0.f2)) ∧ w'.cell? ⟨(ad257.add ((x3_1).toNat * 21)).block, (ad257.add ((x3_1).toNat * 21)).off + 4, none⟩ = some (.int .i64 ((rd_T55 l0 x3_1).f1.f0.f3)) ∧ w'.cell? ⟨(ad257.add ((x3_1).toNat * 21)).block, (ad257.add ((x3_1).toNat * 21)).off + 5, none⟩ = some (.int .i64 ((rd_T55 l0 x3_1).f1.f0.f4)) ∧ w'.cell? ⟨(ad257.add ((x3_1).toNat * 21)).block, (ad257.add ((x3_1).toNat * 21)).off + 6, none⟩ = some (.int .i64 ((rd_T55 l0 x3_1).f1.f1)) ∧ w'.cell? ⟨(ad257.add ((x3_1).toNat * 21)).block, (ad257.add ((x3_1).toNat * 21)).off + 7, none⟩ = some (.int .i64 ((rd_T55 l0 x3_1).f2.f0.f0)) ∧ w'.cell? ⟨(ad257.add ((x3_1).toNat * 21)).block, (ad257.add ((x3_1).toNat * 21)).off + 8, none⟩ = some (.int .i64 ((rd_T55 l0 x3_1).f2.f0.f1)) ∧ w'.cell? ⟨(ad257.add ((x3_1).toNat * 21)).block, (ad257.add ((x3_1).toNat * 21)).off + 9, none⟩ = some (.int .i64 ((rd_T55 l0 x3_1).f2.f0.f2)) ∧ w'.cell? ⟨(ad257.add ((x3_1).toNat * 21)).block, (ad257.add ((x3_1).toNat * 21)).off + 10, none⟩ = some (.int .i64 ((rd_T55 l0 x3_1).f2.f0.f3)) ∧ w'.cell? ⟨(ad257.add ((x3_1).toNat * 21)).block, (ad257.add ((x3_1).toNat * 21)).off + 11, none⟩ = some (.int .i64 ((rd_T55 l0 x3_1).f2.f0.f4)) ∧ w'.cell? ⟨(ad257.add ((x3_1).toNat * 21)).block, (ad257.add ((x3_1).toNat * 21)).off + 12, none⟩ = some (.int .i64 ((rd_T55 l0 x3_1).f2.f1)) ∧ w'.cell? ⟨(ad257.add ((x3_1).toNat * 21)).block, (ad257.add ((x3_1).toNat * 21)).off + 13, none⟩ = some (.int .i64 ((rd_T55 l0 x3_1).f3)) ∧ w'.cell? ⟨(ad257.add ((x3_1).toNat * 21)).block, (ad257.add ((x3_1).toNat * 21)).off + 14, none⟩ = some (.int .i64 ((rd_T55 l0 x3_1).f4)) ∧ w'.cell? ⟨(ad257.add ((x3_1).toNat * 21)).block, (ad257.add ((x3_1).toNat * 21)).off + 15, none⟩ = some (.int .i64 ((rd_T55 l0 x3_1).f5)) ∧ w'.cell? ⟨(ad257.add ((x3_1).toNat * 21)).block, (ad257.add ((x3_1).toNat * 21)).off + 16, none⟩ = some (.int .i64 ((rd_T55 l0 x3_1).f6)) ∧ w'.cell? ⟨(ad257.add ((x3_1).toNat * 21)).block, (ad257.add ((x3_1).toNat * 21)).off + 17, none⟩ = some (.int .i64 ((rd_T55 l0 x3_1).f7)) ∧ w'.cell? ⟨(ad257.add ((x3_1).toNat * 21)).block, (ad257.add ((x3_1).toNat * 21)).off + 18, none⟩ = some (.int .i64 ((rd_T55 l0 x3_1).f8)) ∧ w'.cell? ⟨(ad257.add ((x3_1).toNat * 21)).block, (ad257.add ((x3_1).toNat * 21)).off + 19, none⟩ = some (.int .i64 ((rd_T55 l0 x3_1).f9)) ∧ w'.cell? ⟨(ad257.add ((x3_1).toNat * 21)).block, (ad257.add ((x3_1).toNat * 21)).off + 20, none⟩ = some (.int .i64 ((rd_T55 l0 x3_1).f10))) (ds := []) #[false, false, false, false, false, false, false, false, false, false, false, false, false, false, false, false, false, false, false, false, false, false, false, false] (by kernel_rfl) rfl rfl ⟨(Gv.bx HB.out hw257_0), (Gv.bx HB.out hw257_1), (Gv.bx HB.out hw257_2), (Gv.bx HB.out hw257_3), (Gv.bx HB.out hw257_4), (Gv.bx HB.out hw257_5), (Gv.bx HB.out hw257_6), (Gv.bx HB.out hw257_7), (Gv.bx HB.out hw257_8), (Gv.bx HB.out hw257_9), (Gv.bx HB.out hw257_10), (Gv.bx HB.out hw257_11), (Gv.bx HB.out hw257_12), (Gv.bx HB.out hw257_13), (Gv.bx HB.out hw257_14), (Gv.bx HB.out hw257_15), (Gv.bx HB.out hw257_16), (Gv.bx HB.out hw257_17), (Gv.bx HB.out hw257_18), (Gv.bx HB.out hw257_19), (Gv.bx HB.out hw257_20)⟩ (fun hHeld => ?_); refine with_tabW spec_RulesOk.tab6 spec_RulesOk.bits6 (fun HT_ HW_ => ?_)
        generalize wr.drew = w16 at HB hx257_0 hx257_1 hx257_10 hx257_11 hx257_12 hx257_13 hx257_14 hx257_15 hx257_16 hx257_17 hx257_18 hx257_19 hx257_2 hx257_20 hx257_3 hx257_4 hx257_5 hx257_6 hx257_7 hx257_8 hx257_9 hHeld ⊢
        refine Gv.pu 0 (some 13) HT_ ?_
        refine Gv.pu 1 (some 14) HT_ ?_
        refine Gv.pu 2 (some 15) HT_ ?_
        refine take_ (i := 3) (N := some 16) (v := ?_) (a' := ?_) #[true, true, true, true, false, false, false, false, false, false, false, false, false, false, false, false, false, false, false, false, false, false, false, false] rfl rfl (take_ofW HT_.out HW_.out (by kernel_rfl)) (fun _ _ _ h => h) (Or.inl ⟨by rfl, ?_⟩) hHeld ?_ ?_
        rotate_left
        ·rintro w' ⟨s0, s1, s2, s3, s4, s5, s6, s7, s8, s9, s10, s11, s12, s13, s14, s15, s16, s17, s18, s19, s20⟩
         first | ((refine Gv.load_run (t := 55) (A := ad257.add ((x3_1).toNat * 21)) (cs := [_, _, _, _, _, _, _, _, _, _, _, _, _, _, _, _, _, _, _, _, _]) (x := ?xx19_) ?ho19_ ?hx19_ ⟨s0, s1, s2, s3, s4, s5, s6, s7, s8, s9, s10, s11, s12, s13, s14, s15, s16, s17, s18, s19, s20, trivial⟩ Try.underlying55 rfl (by kernel_rfl)); (case ho19_ => rfl); (case hx19_ => rfl)) | (go_simp; with_reducible rfl)
        rotate_left
        ·simp only [Act.put, List.setIfInBounds_toArray, List.set_cons_zero, List.set_cons_succ, i64_w, i32_w]
         rfl
        refine one_ (i := 4) (N := some 17) #[true, true, true, true, true, false, false, false, false, false, false, false, false, false, false, false, false, false, false, false, false, false, false, false] rfl rfl (one_of HT_.out (by kernel_rfl)) (by decide) (fun K hK => ?_)
        refine goes_ Try.func28 (by kernel_rfl) rfl #[.agg #[.int .i64 ((rd_T55 l0 x3_1).f0), .int .i64 ((rd_T55 l0 x3_1).f1.f0.f0), .int .i64 ((rd_T55 l0 x3_1).f1.f0.f1), .int .i64 ((rd_T55 l0 x3_1).f1.f0.f2), .int .i64 ((rd_T55 l0 x3_1).f1.f0.f3), .int .i64 ((rd_T55 l0 x3_1).f1.f0.f4), .int .i64 ((rd_T55 l0 x3_1).f1.f1), .int .i64 ((rd_T55 l0 x3_1).f2.f0.f0), .int .i64 ((rd_T55 l0 x3_1).f2.f0.f1), .int .i64 ((rd_T55 l0 x3_1).f2.f0.f2), .int .i64 ((rd_T55 l0 x3_1).f2.f0.f3), .int .i64 ((rd_T55 l0 x3_1).f2.f0.f4), .int .i64 ((rd_T55 l0 x3_1).f2.f1), .int .i64 ((rd_T55 l0 x3_1).f3), .int .i64 ((rd_T55 l0 x3_1).f4), .int .i64 ((rd_T55 l0 x3_1).f5), .int .i64 ((rd_T55 l0 x3_1).f6), .int .i64 ((rd_T55 l0 x3_1).f7), .int .i64 ((rd_T55 l0 x3_1).f8), .int .i64 ((rd_T55 l0 x3_1).f9), .int .i64 ((rd_T55 l0 x3_1).f10)]] (by rfl) rfl rfl Gv.lm ?_
        with_reducible refine (spec_RuleOk.calls k1 ((rd_T55 l0 x3_1).f0) ((rd_T55 l0 x3_1).f1.f0.f0) ((rd_T55 l0 x3_1).f1.f0.f1) ((rd_T55 l0 x3_1).f1.f0.f2) ((rd_T55 l0 x3_1).f1.f0.f3) ((rd_T55 l0 x3_1).f1.f0.f4) ((rd_T55 l0 x3_1).f1.f1) ((rd_T55 l0 x3_1).f2.f0.f0) ((rd_T55 l0 x3_1).f2.f0.f1) ((rd_T55 l0 x3_1).f2.f0.f2) ((rd_T55 l0 x3_1).f2.f0.f3) ((rd_T55 l0 x3_1).f2.f0.f4) ((rd_T55 l0 x3_1).f2.f1) ((rd_T55 l0 x3_1).f3) ((rd_T55 l0 x3_1).f4) ((rd_T55 l0 x3_1).f5) ((rd_T55 l0 x3_1).f6) ((rd_T55 l0 x3_1).f7) ((rd_T55 l0 x3_1).f8) ((rd_T55 l0 x3_1).f9) ((rd_T55 l0 x3_1).f10) true _ A5.out).mono ?_
        rintro e w17 ⟨rfl, hb⟩
        refine ⟨_, rfl, ?_⟩
        have n0_ := Gv.a0 (below_step Gv.bw hb)
        clear HB
        have HB := n0_
        clear n0_
        (try clear hb)
        (try clear hb2)
        (try clear hk)
        (try clear hi)
        refine hK.out _ _ ⟨(Gv.bx HB.out hw257_0), (Gv.bx HB.out hw257_1), (Gv.bx HB.out hw257_2), (Gv.bx HB.out hw257_3), (Gv.bx HB.out hw257_4), (Gv.bx HB.out hw257_5), (Gv.bx HB.out hw257_6), (Gv.bx HB.out hw257_7), (Gv.bx HB.out hw257_8), (Gv.bx HB.out hw257_9), (Gv.bx HB.out hw257_10), (Gv.bx HB.out hw257_11), (Gv.bx HB.out hw257_12), (Gv.bx HB.out hw257_13), (Gv.bx HB.out hw257_14), (Gv.bx HB.out hw257_15), (Gv.bx HB.out hw257_16), (Gv.bx HB.out hw257_17), (Gv.bx HB.out hw257_18), (Gv.bx HB.out hw257_19), (Gv.bx HB.out hw257_20)⟩ (fun hHeld => ?_)
        clear hK K
        refine norm_ (a' := ?_) ?_ ?_
        rotate_left
        ·show Act.put _ (some 17) _ = _
         simp only [Act.put, List.setIfInBounds_toArray, List.set_cons_zero, List.set_cons_succ, i64_w, i32_w]
         rfl
        refine Gv.pu 5 (some 18) HT_ ?_
        refine Gv.pu 6 (some 19) HT_ ?_
        refine Gv.pu 7 (some 20) HT_ ?_
        refine Gv.pu 8 (some 21) HT_ ?_
        refine Gv.pu 9 (some 22) HT_ ?_
        refine Gv.pn 10 (some 23) HT_ ?_
        refine Gv.pn 11 (some 24) HT_ ?_
        refine Gv.pn 12 (some 25) HT_ ?_
        refine Gv.pn 13 (some 26) HT_ ?_
        refine Gv.pn 14 (some 27) HT_ ?_
        refine Gv.pn 15 (some 28) HT_ ?_
        refine Gv.pn 16 (some 29) HT_ ?_
        refine Gv.pn 17 (some 30) HT_ ?_
        refine Gv.pn 18 (some 31) HT_ ?_
        refine Gv.pn 19 (some 32) HT_ ?_
        refine Gv.pn 20 (some 33) HT_ ?_
        refine Gv.pn 21 (some 34) HT_ ?_
        refine Gv.pu 22 (some 35) HT_ ?_
        refine Gv.pu 23 (some 36) HT_ ?_
        refine done_ (done_of HT_.out (by kernel_rfl)) ?_
        try go_wp2
        go_roundg k1
        case measure => have := HK1.out; omega
        case rel => exact ⟨(wrap64 (x3_1 + 1)), Gv.rq, H', ⟨by have := HK1.out; omega⟩, ⟨Gv.bw⟩⟩
      ·replace c6 := Bool.eq_false_iff.mpr c6
       subst c6
       have H1 : (some false) = some r := by rw [if_neg (show ¬ (false = true) by decide)] at H; exact H
       clear H
       have H := H1
       clear H1
       obtain rfl := Option.some.inj H
       try go_wp2
       have n0_ := Gv.a0 (below_drew1 HB.out)
       clear HB
       have HB := n0_
       clear n0_
       have p257 : 0 ≤ (x3_1 : Int) := of_decide_eq_true (by first | (with_reducible assumption) | assumption)
       have q257 : x3_1 < (l0.length : Int) := of_decide_eq_true (by first | (with_reducible assumption) | assumption)
       obtain ⟨ad257, e257, hx257_0, hx257_1, hx257_2, hx257_3, hx257_4, hx257_5, hx257_6, hx257_7, hx257_8, hx257_9, hx257_10, hx257_11, hx257_12, hx257_13, hx257_14, hx257_15, hx257_16, hx257_17, hx257_18, hx257_19, hx257_20⟩ := at_T55 HR0.out x3_1 p257 q257
       have hw257_20 := hx257_20
       have hw257_19 := hx257_19
       have hw257_18 := hx257_18
       have hw257_17 := hx257_17
       have hw257_16 := hx257_16
       have hw257_15 := hx257_15
       have hw257_14 := hx257_14
       have hw257_13 := hx257_13
       have hw257_12 := hx257_12
       have hw257_11 := hx257_11
       have hw257_10 := hx257_10
       have hw257_9 := hx257_9
       have hw257_8 := hx257_8
       have hw257_7 := hx257_7
       have hw257_6 := hx257_6
       have hw257_5 := hx257_5
       have hw257_4 := hx257_4
       have hw257_3 := hx257_3
       have hw257_2 := hx257_2
       have hw257_1 := hx257_1
       have hw257_0 := hx257_0
       cases e257
       replace hx257_0 := Gv.bx HB.out hx257_0
       replace hx257_1 := Gv.bx HB.out hx257_1
       replace hx257_2 := Gv.bx HB.out hx257_2
       replace hx257_3 := Gv.bx HB.out hx257_3
       replace hx257_4 := Gv.bx HB.out hx257_4
       replace hx257_5 := Gv.bx HB.out hx257_5
       replace hx257_6 := Gv.bx HB.out hx257_6
       replace hx257_7 := Gv.bx HB.out hx257_7
       replace hx257_8 := Gv.bx HB.out hx257_8
       replace hx257_9 := Gv.bx HB.out hx257_9
       replace hx257_10 := Gv.bx HB.out hx257_10
       replace hx257_11 := Gv.bx HB.out hx257_11
       replace hx257_12 := Gv.bx HB.out hx257_12
       replace hx257_13 := Gv.bx HB.out hx257_13
       replace hx257_14 := Gv.bx HB.out hx257_14
       replace hx257_15 := Gv.bx HB.out hx257_15
       replace hx257_16 := Gv.bx HB.out hx257_16
       replace hx257_17 := Gv.bx HB.out hx257_17
       replace hx257_18 := Gv.bx HB.out hx257_18
       replace hx257_19 := Gv.bx HB.out hx257_19
       replace hx257_20 := Gv.bx HB.out hx257_20
       replace p257 := eq_true p257
       replace q257 := eq_true q257
       refine start_ (n := 24) (S := fun w' => w'.cell? (ad257.add ((x3_1).toNat * 21)) = some (.int .i64 ((rd_T55 l0 x3_1).f0)) ∧ w'.cell? ⟨(ad257.add ((x3_1).toNat * 21)).block, (ad257.add ((x3_1).toNat * 21)).off + 1, none⟩ = some (.int .i64 ((rd_T55 l0 x3_1).f1.f0.f0)) ∧ w'.cell? ⟨(ad257.add ((x3_1).toNat * 21)).block, (ad257.add ((x3_1).toNat * 21)).off + 2, none⟩ = some (.int .i64 ((rd_T55 l0 x3_1).f1.f0.f1)) ∧ w'.cell? ⟨(ad257.add ((x3_1).toNat * 21)).block, (ad257.add ((x3_1).toNat * 21)).off + 3, none⟩ = some (.int .i64 ((rd_T55 l0 x3_1).f1.f0.f2)) ∧ w'.cell? ⟨(ad257.add ((x3_1).toNat * 21)).block, (ad257.add ((x3_1).toNat * 21)).off + 4, none⟩ = some (.int .i64 ((rd_T55 l0 x3_1).f1.f0.f3)) ∧ w'.cell? ⟨(ad257.add ((x3_1).toNat * 21)).block, (ad257.add ((x3_1).toNat * 21)).off + 5, none⟩ = some (.int .i64 ((rd_T55 l0 x3_1).f1.f0.f4)) ∧ w'.cell? ⟨(ad257.add ((x3_1).toNat * 21)).block, (ad257.add ((x3_1).toNat * 21)).off + 6, none⟩ = some (.int .i64 ((rd_T55 l0 x3_1).f1.f1)) ∧ w'.cell? ⟨(ad257.add ((x3_1).toNat * 21)).block, (ad257.add ((x3_1).toNat * 21)).off + 7, none⟩ = some (.int .i64 ((rd_T55 l0 x3_1).f2.f0.f0)) ∧ w'.cell? ⟨(ad257.add ((x3_1).toNat * 21)).block, (ad257.add ((x3_1).toNat * 21)).off + 8, none⟩ = some (.int .i64 ((rd_T55 l0 x3_1).f2.f0.f1)) ∧ w'.cell? ⟨(ad257.add ((x3_1).toNat * 21)).block, (ad257.add ((x3_1).toNat * 21)).off + 9, none⟩ = some (.int .i64 ((rd_T55 l0 x3_1).f2.f0.f2)) ∧ w'.cell? ⟨(ad257.add ((x3_1).toNat * 21)).block, (ad257.add ((x3_1).toNat * 21)).off + 10, none⟩ = some (.int .i64 ((rd_T55 l0 x3_1).f2.f0.f3)) ∧ w'.cell? ⟨(ad257.add ((x3_1).toNat * 21)).block, (ad257.add ((x3_1).toNat * 21)).off + 11, none⟩ = some (.int .i64 ((rd_T55 l0 x3_1).f2.f0.f4)) ∧ w'.cell? ⟨(ad257.add ((x3_1).toNat * 21)).block, (ad257.add ((x3_1).toNat * 21)).off + 12, none⟩ = some (.int .i64 ((rd_T55 l0 x3_1).f2.f1)) ∧ w'.cell? ⟨(ad257.add ((x3_1).toNat * 21)).block, (ad257.add ((x3_1).toNat * 21)).off + 13, none⟩ = some (.int .i64 ((rd_T55 l0 x3_1).f3)) ∧ w'.cell? ⟨(ad257.add ((x3_1).toNat * 21)).block, (ad257.add ((x3_1).toNat * 21)).off + 14, none⟩ = some (.int .i64 ((rd_T55 l0 x3_1).f4)) ∧ w'.cell? ⟨(ad257.add ((x3_1).toNat * 21)).block, (ad257.add ((x3_1).toNat * 21)).off + 15, none⟩ = some (.int .i64 ((rd_T55 l0 x3_1).f5)) ∧ w'.cell? ⟨(ad257.add ((x3_1).toNat * 21)).block, (ad257.add ((x3_1).toNat * 21)).off + 16, none⟩ = some (.int .i64 ((rd_T55 l0 x3_1).f6)) ∧ w'.cell? ⟨(ad257.add ((x3_1).toNat * 21)).block, (ad257.add ((x3_1).toNat * 21)).off + 17, none⟩ = some (.int .i64 ((rd_T55 l0 x3_1).f7)) ∧ w'.cell? ⟨(ad257.add ((x3_1).toNat * 21)).block, (ad257.add ((x3_1).toNat * 21)).off + 18, none⟩ = some (.int .i64 ((rd_T55 l0 x3_1).f8)) ∧ w'.cell? ⟨(ad257.add ((x3_1).toNat * 21)).block, (ad257.add ((x3_1).toNat * 21)).off + 19, none⟩ = some (.int .i64 ((rd_T55 l0 x3_1).f9)) ∧ w'.cell? ⟨(ad257.add ((x3_1).toNat * 21)).block, (ad257.add ((x3_1).toNat * 21)).off + 20, none⟩ = some (.int .i64 ((rd_T55 l0 x3_1).f10))) (ds := []) #[false, false, false, false, false, false, false, false, false, false, false, false, false, false, false, false, false, false, false, false, false, false, false, false] (by kernel_rfl) rfl rfl ⟨(Gv.bx HB.out hw257_0), (Gv.bx HB.out hw257_1), (Gv.bx HB.out hw257_2), (Gv.bx HB.out hw257_3), (Gv.bx HB.out hw257_4), (Gv.bx HB.out hw257_5), (Gv.bx HB.out hw257_6), (Gv.bx HB.out hw257_7), (Gv.bx HB.out hw257_8), (Gv.bx HB.out hw257_9), (Gv.bx HB.out hw257_10), (Gv.bx HB.out hw257_11), (Gv.bx HB.out hw257_12), (Gv.bx HB.out hw257_13), (Gv.bx HB.out hw257_14), (Gv.bx HB.out hw257_15), (Gv.bx HB.out hw257_16), (Gv.bx HB.out hw257_17), (Gv.bx HB.out hw257_18), (Gv.bx HB.out hw257_19), (Gv.bx HB.out hw257_20)⟩ (fun hHeld => ?_); refine with_tabW spec_RulesOk.tab6 spec_RulesOk.bits6 (fun HT_ HW_ => ?_)
       generalize wr.drew = w18 at HB hx257_0 hx257_1 hx257_10 hx257_11 hx257_12 hx257_13 hx257_14 hx257_15 hx257_16 hx257_17 hx257_18 hx257_19 hx257_2 hx257_20 hx257_3 hx257_4 hx257_5 hx257_6 hx257_7 hx257_8 hx257_9 hHeld ⊢
       refine Gv.pu 0 (some 13) HT_ ?_
       refine Gv.pu 1 (some 14) HT_ ?_
       refine Gv.pu 2 (some 15) HT_ ?_
       refine take_ (i := 3) (N := some 16) (v := ?_) (a' := ?_) #[true, true, true, true, false, false, false, false, false, false, false, false, false, false, false, false, false, false, false, false, false, false, false, false] rfl rfl (take_ofW HT_.out HW_.out (by kernel_rfl)) (fun _ _ _ h => h) (Or.inl ⟨by rfl, ?_⟩) hHeld ?_ ?_
       rotate_left
       ·rintro w' ⟨s0, s1, s2, s3, s4, s5, s6, s7, s8, s9, s10, s11, s12, s13, s14, s15, s16, s17, s18, s19, s20⟩
        first | ((refine Gv.load_run (t := 55) (A := ad257.add ((x3_1).toNat * 21)) (cs := [_, _, _, _, _, _, _, _, _, _, _, _, _, _, _, _, _, _, _, _, _]) (x := ?xx21_) ?ho21_ ?hx21_ ⟨s0, s1, s2, s3, s4, s5, s6, s7, s8, s9, s10, s11, s12, s13, s14, s15, s16, s17, s18, s19, s20, trivial⟩ Try.underlying55 rfl (by kernel_rfl)); (case ho21_ => rfl); (case hx21_ => rfl)) | (go_simp; with_reducible rfl)
       rotate_left
       ·simp only [Act.put, List.setIfInBounds_toArray, List.set_cons_zero, List.set_cons_succ, i64_w, i32_w]
        rfl
       refine one_ (i := 4) (N := some 17) #[true, true, true, true, true, false, false, false, false, false, false, false, false, false, false, false, false, false, false, false, false, false, false, false] rfl rfl (one_of HT_.out (by kernel_rfl)) (by decide) (fun K hK => ?_)
       refine goes_ Try.func28 (by kernel_rfl) rfl #[.agg #[.int .i64 ((rd_T55 l0 x3_1).f0), .int .i64 ((rd_T55 l0 x3_1).f1.f0.f0), .int .i64 ((rd_T55 l0 x3_1).f1.f0.f1), .int .i64 ((rd_T55 l0 x3_1).f1.f0.f2), .int .i64 ((rd_T55 l0 x3_1).f1.f0.f3), .int .i64 ((rd_T55 l0 x3_1).f1.f0.f4), .int .i64 ((rd_T55 l0 x3_1).f1.f1), .int .i64 ((rd_T55 l0 x3_1).f2.f0.f0), .int .i64 ((rd_T55 l0 x3_1).f2.f0.f1), .int .i64 ((rd_T55 l0 x3_1).f2.f0.f2), .int .i64 ((rd_T55 l0 x3_1).f2.f0.f3), .int .i64 ((rd_T55 l0 x3_1).f2.f0.f4), .int .i64 ((rd_T55 l0 x3_1).f2.f1), .int .i64 ((rd_T55 l0 x3_1).f3), .int .i64 ((rd_T55 l0 x3_1).f4), .int .i64 ((rd_T55 l0 x3_1).f5), .int .i64 ((rd_T55 l0 x3_1).f6), .int .i64 ((rd_T55 l0 x3_1).f7), .int .i64 ((rd_T55 l0 x3_1).f8), .int .i64 ((rd_T55 l0 x3_1).f9), .int .i64 ((rd_T55 l0 x3_1).f10)]] (by rfl) rfl rfl Gv.lm ?_
       with_reducible refine (spec_RuleOk.calls k1 ((rd_T55 l0 x3_1).f0) ((rd_T55 l0 x3_1).f1.f0.f0) ((rd_T55 l0 x3_1).f1.f0.f1) ((rd_T55 l0 x3_1).f1.f0.f2) ((rd_T55 l0 x3_1).f1.f0.f3) ((rd_T55 l0 x3_1).f1.f0.f4) ((rd_T55 l0 x3_1).f1.f1) ((rd_T55 l0 x3_1).f2.f0.f0) ((rd_T55 l0 x3_1).f2.f0.f1) ((rd_T55 l0 x3_1).f2.f0.f2) ((rd_T55 l0 x3_1).f2.f0.f3) ((rd_T55 l0 x3_1).f2.f0.f4) ((rd_T55 l0 x3_1).f2.f1) ((rd_T55 l0 x3_1).f3) ((rd_T55 l0 x3_1).f4) ((rd_T55 l0 x3_1).f5) ((rd_T55 l0 x3_1).f6) ((rd_T55 l0 x3_1).f7) ((rd_T55 l0 x3_1).f8) ((rd_T55 l0 x3_1).f9) ((rd_T55 l0 x3_1).f10) false _ A5.out).mono ?_
       rintro e w19 ⟨rfl, hb⟩
       refine ⟨_, rfl, ?_⟩
       have n0_ := Gv.a0 (below_step Gv.bw hb)
       clear HB
       have HB := n0_
       clear n0_
       (try clear hb)
       (try clear hb2)
       (try clear hk)
       (try clear hi)
       refine hK.out _ _ ⟨(Gv.bx HB.out hw257_0), (Gv.bx HB.out hw257_1), (Gv.bx HB.out hw257_2), (Gv.bx HB.out hw257_3), (Gv.bx HB.out hw257_4), (Gv.bx HB.out hw257_5), (Gv.bx HB.out hw257_6), (Gv.bx HB.out hw257_7), (Gv.bx HB.out hw257_8), (Gv.bx HB.out hw257_9), (Gv.bx HB.out hw257_10), (Gv.bx HB.out hw257_11), (Gv.bx HB.out hw257_12), (Gv.bx HB.out hw257_13), (Gv.bx HB.out hw257_14), (Gv.bx HB.out hw257_15), (Gv.bx HB.out hw257_16), (Gv.bx HB.out hw257_17), (Gv.bx HB.out hw257_18), (Gv.bx HB.out hw257_19), (Gv.bx HB.out hw257_20)⟩ (fun hHeld => ?_)
       clear hK K
       refine norm_ (a' := ?_) ?_ ?_
       rotate_left
       ·show Act.put _ (some 17) _ = _
        simp only [Act.put, List.setIfInBounds_toArray, List.set_cons_zero, List.set_cons_succ, i64_w, i32_w]
        rfl
       refine Gv.pu 5 (some 18) HT_ ?_
       refine Gv.pu 6 (some 19) HT_ ?_
       refine Gv.pn 7 (some 20) HT_ ?_
       refine Gv.pn 8 (some 21) HT_ ?_
       refine Gv.pn 9 (some 22) HT_ ?_
       refine Gv.pn 10 (some 23) HT_ ?_
       refine Gv.pn 11 (some 24) HT_ ?_
       refine Gv.pn 12 (some 25) HT_ ?_
       refine Gv.pn 13 (some 26) HT_ ?_
       refine Gv.pn 14 (some 27) HT_ ?_
       refine Gv.pn 15 (some 28) HT_ ?_
       refine Gv.pn 16 (some 29) HT_ ?_
       refine Gv.pn 17 (some 30) HT_ ?_
       refine Gv.pn 18 (some 31) HT_ ?_
       refine Gv.pn 19 (some 32) HT_ ?_
       refine Gv.pn 20 (some 33) HT_ ?_
       refine Gv.pn 21 (some 34) HT_ ?_
       refine Gv.pn 22 (some 35) HT_ ?_
       refine Gv.pu 23 (some 36) HT_ ?_
       refine done_ (done_of HT_.out (by kernel_rfl)) ?_
       try go_wp2
       go_ret
       exact ⟨Gv.rt, Gv.bw⟩
     ·rw [if_neg c4] at H
      exact absurd H (by simp)
    ·rw [if_neg c3] at H
     have c3b0 : decide (x3_1 < (l0.length : Int)) = false := decide_eq_false c3
     clear c3
     obtain rfl := Option.some.inj H
     go_wp2
     go_ret
     exact ⟨Gv.rt, Gv.bw⟩

/-! ### spec_l07Pair: function 69 -/
def spec_l07Pair.f (a0_0 : Int) (a0_1 : Int) (a0_2 : Int) (a0_3 : Int) (a0_4 : Int) (a1_0 : Int) (a1_1 : Int) (a1_2 : Int) (a1_3 : Int) (a1_4 : Int) : Option (Bool) := (spec_AddrOk.f a0_0 a0_1 a0_2 a0_3 a0_4).bind fun t263 => (if t263 = true then ((spec_AddrOk.f a1_0 a1_1 a1_2 a1_3 a1_4).bind fun t264 => (if t264 = true then (some (a0_0 == a1_0)) else (some false))) else (some false))
set_option maxHeartbeats 8000000 in
set_option maxRecDepth 100000 in
theorem spec_l07Pair.calls (a0_0 : Int) (a0_1 : Int) (a0_2 : Int) (a0_3 : Int) (a0_4 : Int) (a1_0 : Int) (a1_1 : Int) (a1_2 : Int) (a1_3 : Int) (a1_4 : Int) (r : Bool) (w : World) (h : spec_l07Pair.f a0_0 a0_1 a0_2 a0_3 a0_4 a1_0 a1_1 a1_2 a1_3 a1_4 = some r) :
  Calls Try.prog 69 #[.agg #[.int .i64 a0_0, .int .i64 a0_1, .int .i64 a0_2, .int .i64 a0_3, .int .i64 a0_4], .agg #[.int .i64 a1_0, .int .i64 a1_1, .int .i64 a1_2, .int .i64 a1_3, .int .i64 a1_4]] w fun e w' => e = .returned (.bool r) ∧ Below w.heap.size w w' := by
 have hu34 := Try.underlying34
 have HB := Gv.a0 (Below.refl w.heap.size w)
 have H : ((spec_AddrOk.f a0_0 a0_1 a0_2 a0_3 a0_4).bind fun t263 => (if t263 = true then ((spec_AddrOk.f a1_0 a1_1 a1_2 a1_3 a1_4).bind fun t264 => (if t264 = true then (some (a0_0 == a1_0)) else (some false))) else (some false))) = some r := h
 clear h
 replace H := Option.bind_eq_some_iff.mp H
 obtain ⟨t263, A30, H⟩ := H
 replace H : (if t263 = true then ((spec_AddrOk.f a1_0 a1_1 a1_2 a1_3 a1_4).bind fun t264 => (if t264 = true then (some (a0_0 == a1_0)) else (some false))) else (some false)) = some r := H
 have A3 := Gv.a0 A30
 clear A30
 by_cases c4 : t263 = true
 ·subst c4
  have H1 : ((spec_AddrOk.f a1_0 a1_1 a1_2 a1_3 a1_4).bind fun t264 => (if t264 = true then (some (a0_0 == a1_0)) else (some false))) = some r := by rw [if_pos rfl] at H; exact H
  clear H
  have H := H1
  clear H1
  replace H := Option.bind_eq_some_iff.mp H
  obtain ⟨t264, A50, H⟩ := H
  replace H : (if t264 = true then (some (a0_0 == a1_0)) else (some false)) = some r := H
  have A5 := Gv.a0 A50
  clear A50
  by_cases c6 : t264 = true
  ·subst c6
   have H1 : (some (a0_0 == a1_0)) = some r := by rw [if_pos rfl] at H; exact H
   clear H
   have H := H1
   clear H1
   obtain rfl := Option.some.inj H
   go_enter Try.func69, Try.ntmps69
   go_wp2_with (first | ((with_reducible refine gate_dst (N := 2) rfl ?_); refine box_event ?hg (N := 2) ?hd (cs := #[.int .i64 a0_0, .int .i64 a0_1, .int .i64 a0_2, .int .i64 a0_3, .int .i64 a0_4]) (t := 34) ?hr ?_; (case hd => rfl); (case hg => rfl); (case hr => first | (go_simp; done) | (go_simp; rfl)); intro gb261 hg w7 hbox hb; have n0_ := Gv.a0 (below_step Gv.bw hb); have n1_ := Gv.a0 (hbox); have n2_ := Gv.a0 ((Gv.ble hg Gv.bw : w.heap.size ≤ gb261)); have n3_ := Gv.a0 ((Gv.ble hg Gv.bw : w.heap.size ≤ gb261)); clear HB; have HB := n0_; have BK261 := n1_; have GW261 := n2_; have GE261 := n3_; clear n0_ n1_ n2_ n3_; clear hb hbox hg) | ((with_reducible refine gate_dst (N := 3) rfl ?_); refine box_event ?hg (N := 3) ?hd (cs := #[.int .i64 a1_0, .int .i64 a1_1, .int .i64 a1_2, .int .i64 a1_3, .int .i64 a1_4]) (t := 34) ?hr ?_; (case hd => rfl); (case hg => rfl); (case hr => first | (go_simp; done) | (go_simp; rfl)); intro gb262 hg w8 hbox hb; have n0_ := Gv.a0 (Gv.bb BK261.out hb); have n1_ := Gv.a0 (below_step Gv.bw hb); have n2_ := Gv.a0 (hbox); have n3_ := Gv.a0 ((Gv.ble hg Gv.bw : w.heap.size ≤ gb262)); have n4_ := Gv.a0 ((Gv.ble hg Gv.bw : w.heap.size ≤ gb262)); have n5_ := Gv.a0 ((Gv.nlt hg (Gv.kb BK261.out) : gb261 ≠ gb262)); have n6_ := Gv.a0 ((Gv.ngt hg (Gv.kb BK261.out) : gb262 ≠ gb261)); clear BK261; clear HB; have BK261 := n0_; have HB := n1_; have BK262 := n2_; have GW262 := n3_; have GE262 := n4_; have NB261_262 := n5_; have NB262_261 := n6_; clear n0_ n1_ n2_ n3_ n4_ n5_ n6_; clear hb hbox hg; have hnb9 := NB261_262.out; have hnc9 := NB262_261.out; obtain ⟨hcz10_0, hcz10_1, hcz10_2, hcz10_3, hcz10_4⟩ := Gv.c5 BK261.out; obtain ⟨hfz10_0, hfz10_1, hfz10_2, hfz10_3, hfz10_4⟩ := Gv.f5 BK261.out) | ((with_reducible refine gate_callee (f := 61) rfl ?_); refine goesL_ (some 6) rfl rfl Try.func61 (by kernel_rfl) rfl #[.agg #[.int .i64 a0_0, .int .i64 a0_1, .int .i64 a0_2, .int .i64 a0_3, .int .i64 a0_4]] rfl Gv.lm ?_; (with_reducible refine (spec_AddrOk.calls a0_0 a0_1 a0_2 a0_3 a0_4 true _ A3.out).mono ?_); rintro e w11 ⟨rfl, hb⟩; refine ⟨_, rfl, ?_⟩; have n0_ := Gv.a0 (Gv.bb BK261.out hb); have n1_ := Gv.a0 (Gv.bb BK262.out hb); have n2_ := Gv.a0 (below_step Gv.bw hb); clear BK261; clear BK262; clear HB; have BK261 := n0_; have BK262 := n1_; have HB := n2_; clear n0_ n1_ n2_; (try clear hb); (try clear hb2); (try clear hk); (try clear hi); obtain ⟨hcz12_0, hcz12_1, hcz12_2, hcz12_3, hcz12_4⟩ := Gv.c5 BK262.out; obtain ⟨hfz12_0, hfz12_1, hfz12_2, hfz12_3, hfz12_4⟩ := Gv.f5 BK262.out) | (go_at_call 61; (with_reducible refine (spec_AddrOk.calls a1_0 a1_1 a1_2 a1_3 a1_4 true _ A5.out).mono ?_); rintro e w13 ⟨rfl, hb⟩; have n0_ := Gv.a0 (Gv.bb BK261.out hb); have n1_ := Gv.a0 (Gv.bb BK262.out hb); have n2_ := Gv.a0 (below_step Gv.bw hb); clear BK261; clear BK262; clear HB; have BK261 := n0_; have BK262 := n1_; have HB := n2_; clear n0_ n1_ n2_; (try clear hb); (try clear hb2); (try clear hk); (try clear hi); obtain ⟨hcz14_0, hcz14_1, hcz14_2, hcz14_3, hcz14_4⟩ := Gv.c5 BK261.out; obtain ⟨hfz14_0, hfz14_1, hfz14_2, hfz14_3, hfz14_4⟩ := Gv.f5 BK261.out; obtain ⟨hcz15_0, hcz15_1, hcz15_2, hcz15_3, hcz15_4⟩ := Gv.c5 BK262.out; obtain ⟨hfz15_0, hfz15_1, hfz15_2, hfz15_3, hfz15_4⟩ := Gv.f5 BK262.out))
   go_ret
   exact ⟨Gv.rt, Gv.bw⟩
  ·replace c6 := Bool.eq_false_iff.mpr c6
   subst c6
   have H1 : (some false) = some r := by rw [if_neg (show ¬ (false = true) by decide)] at H; exact H
   clear H
   have H := H1
   clear H1
   obtain rfl := Option.some.inj H
   go_enter Try.func69, Try.ntmps69
   go_wp2_with (first | ((with_reducible refine gate_dst (N := 2) rfl ?_); refine box_event ?hg (N := 2) ?hd (cs := #[.int .i64 a0_0, .int .i64 a0_1, .int .i64 a0_2, .int .i64 a0_3, .int .i64 a0_4]) (t := 34) ?hr ?_; (case hd => rfl); (case hg => rfl); (case hr => first | (go_simp; done) | (go_simp; rfl)); intro gb261 hg w16 hbox hb; have n0_ := Gv.a0 (below_step Gv.bw hb); have n1_ := Gv.a0 (hbox); have n2_ := Gv.a0 ((Gv.ble hg Gv.bw : w.heap.size ≤ gb261)); have n3_ := Gv.a0 ((Gv.ble hg Gv.bw : w.heap.size ≤ gb261)); clear HB; have HB := n0_; have BK261 := n1_; have GW261 := n2_; have GE261 := n3_; clear n0_ n1_ n2_ n3_; clear hb hbox hg) | ((with_reducible refine gate_dst (N := 3) rfl ?_); refine box_event ?hg (N := 3) ?hd (cs := #[.int .i64 a1_0, .int .i64 a1_1, .int .i64 a1_2, .int .i64 a1_3, .int .i64 a1_4]) (t := 34) ?hr ?_; (case hd => rfl); (case hg => rfl); (case hr => first | (go_simp; done) | (go_simp; rfl)); intro gb262 hg w17 hbox hb; have n0_ := Gv.a0 (Gv.bb BK261.out hb); have n1_ := Gv.a0 (below_step Gv.bw hb); have n2_ := Gv.a0 (hbox); have n3_ := Gv.a0 ((Gv.ble hg Gv.bw : w.heap.size ≤ gb262)); have n4_ := Gv.a0 ((Gv.ble hg Gv.bw : w.heap.size ≤ gb262)); have n5_ := Gv.a0 ((Gv.nlt hg (Gv.kb BK261.out) : gb261 ≠ gb262)); have n6_ := Gv.a0 ((Gv.ngt hg (Gv.kb BK261.out) : gb262 ≠ gb261)); clear BK261; clear HB; have BK261 := n0_; have HB := n1_; have BK262 := n2_; have GW262 := n3_; have GE262 := n4_; have NB261_262 := n5_; have NB262_261 := n6_; clear n0_ n1_ n2_ n3_ n4_ n5_ n6_; clear hb hbox hg; have hnb18 := NB261_262.out; have hnc18 := NB262_261.out; obtain ⟨hcz19_0, hcz19_1, hcz19_2, hcz19_3, hcz19_4⟩ := Gv.c5 BK261.out; obtain ⟨hfz19_0, hfz19_1, hfz19_2, hfz19_3, hfz19_4⟩ := Gv.f5 BK261.out) | ((with_reducible refine gate_callee (f := 61) rfl ?_); refine goesL_ (some 6) rfl rfl Try.func61 (by kernel_rfl) rfl #[.agg #[.int .i64 a0_0, .int .i64 a0_1, .int .i64 a0_2, .int .i64 a0_3, .int .i64 a0_4]] rfl Gv.lm ?_; (with_reducible refine (spec_AddrOk.calls a0_0 a0_1 a0_2 a0_3 a0_4 true _ A3.out).mono ?_); rintro e w20 ⟨rfl, hb⟩; refine ⟨_, rfl, ?_⟩; have n0_ := Gv.a0 (Gv.bb BK261.out hb); have n1_ := Gv.a0 (Gv.bb BK262.out hb); have n2_ := Gv.a0 (below_step Gv.bw hb); clear BK261; clear BK262; clear HB; have BK261 := n0_; have BK262 := n1_; have HB := n2_; clear n0_ n1_ n2_; (try clear hb); (try clear hb2); (try clear hk); (try clear hi); obtain ⟨hcz21_0, hcz21_1, hcz21_2, hcz21_3, hcz21_4⟩ := Gv.c5 BK262.out; obtain ⟨hfz21_0, hfz21_1, hfz21_2, hfz21_3, hfz21_4⟩ := Gv.f5 BK262.out) | (go_at_call 61; (with_reducible refine (spec_AddrOk.calls a1_0 a1_1 a1_2 a1_3 a1_4 false _ A5.out).mono ?_); rintro e w22 ⟨rfl, hb⟩; have n0_ := Gv.a0 (Gv.bb BK261.out hb); have n1_ := Gv.a0 (Gv.bb BK262.out hb); have n2_ := Gv.a0 (below_step Gv.bw hb); clear BK261; clear BK262; clear HB; have BK261 := n0_; have BK262 := n1_; have HB := n2_; clear n0_ n1_ n2_; (try clear hb); (try clear hb2); (try clear hk); (try clear hi)))
   go_ret
   exact ⟨Gv.rt, Gv.bw⟩
 ·replace c4 := Bool.eq_false_iff.mpr c4
  subst c4
  have H1 : (some false) = some r := by rw [if_neg (show ¬ (false = true) by decide)] at H; exact H
  clear H
  have H := H1
  clear H1
  obtain rfl := Option.some.inj H
  go_enter Try.func69, Try.ntmps69
  go_wp2_with (first | ((with_reducible refine gate_dst (N := 2) rfl ?_); refine box_event ?hg (N := 2) ?hd (cs := #[.int .i64 a0_0, .int .i64 a0_1, .int .i64 a0_2, .int .i64 a0_3, .int .i64 a0_4]) (t := 34) ?hr ?_; (case hd => rfl); (case hg => rfl); (case hr => first | (go_simp; done) | (go_simp; rfl)); intro gb261 hg w23 hbox hb; have n0_ := Gv.a0 (below_step Gv.bw hb); have n1_ := Gv.a0 (hbox); have n2_ := Gv.a0 ((Gv.ble hg Gv.bw : w.heap.size ≤ gb261)); have n3_ := Gv.a0 ((Gv.ble hg Gv.bw : w.heap.size ≤ gb261)); clear HB; have HB := n0_; have BK261 := n1_; have GW261 := n2_; have GE261 := n3_; clear n0_ n1_ n2_ n3_; clear hb hbox hg) | ((with_reducible refine gate_dst (N := 3) rfl ?_); refine box_event ?hg (N := 3) ?hd (cs := #[.int .i64 a1_0, .int .i64 a1_1, .int .i64 a1_2, .int .i64 a1_3, .int .i64 a1_4]) (t := 34) ?hr ?_; (case hd => rfl); (case hg => rfl); (case hr => first | (go_simp; done) | (go_simp; rfl)); intro gb262 hg w24 hbox hb; have n0_ := Gv.a0 (Gv.bb BK261.out hb); have n1_ := Gv.a0 (below_step Gv.bw hb); have n2_ := Gv.a0 (hbox); have n3_ := Gv.a0 ((Gv.ble hg Gv.bw : w.heap.size ≤ gb262)); have n4_ := Gv.a0 ((Gv.ble hg Gv.bw : w.heap.size ≤ gb262)); have n5_ := Gv.a0 ((Gv.nlt hg (Gv.kb BK261.out) : gb261 ≠ gb262)); have n6_ := Gv.a0 ((Gv.ngt hg (Gv.kb BK261.out) : gb262 ≠ gb261)); clear BK261; clear HB; have BK261 := n0_; have HB := n1_; have BK262 := n2_; have GW262 := n3_; have GE262 := n4_; have NB261_262 := n5_; have NB262_261 := n6_; clear n0_ n1_ n2_ n3_ n4_ n5_ n6_; clear hb hbox hg; have hnb25 := NB261_262.out; have hnc25 := NB262_261.out; obtain ⟨hcz26_0, hcz26_1, hcz26_2, hcz26_3, hcz26_4⟩ := Gv.c5 BK261.out; obtain ⟨hfz26_0, hfz26_1, hfz26_2, hfz26_3, hfz26_4⟩ := Gv.f5 BK261.out) | ((with_reducible refine gate_callee (f := 61) rfl ?_); refine goesL_ (some 6) rfl rfl Try.func61 (by kernel_rfl) rfl #[.agg #[.int .i64 a0_0, .int .i64 a0_1, .int .i64 a0_2, .int .i64 a0_3, .int .i64 a0_4]] rfl Gv.lm ?_; (with_reducible refine (spec_AddrOk.calls a0_0 a0_1 a0_2 a0_3 a0_4 false _ A3.out).mono ?_); rintro e w27 ⟨rfl, hb⟩; refine ⟨_, rfl, ?_⟩; have n0_ := Gv.a0 (Gv.bb BK261.out hb); have n1_ := Gv.a0 (Gv.bb BK262.out hb); have n2_ := Gv.a0 (below_step Gv.bw hb); clear BK261; clear BK262; clear HB; have BK261 := n0_; have BK262 := n1_; have HB := n2_; clear n0_ n1_ n2_; (try clear hb); (try clear hb2); (try clear hk); (try clear hi)))
  go_ret
  exact ⟨Gv.rt, Gv.bw⟩

/-! ### spec_l05In: function 70 -/
def spec_l05In.f (a0 : Int) (a1 : Int) : Option (Bool) := if a0 ≥ 0 then (some (decide (a0 ≤ a1))) else (some false)
set_option maxHeartbeats 8000000 in
set_option maxRecDepth 100000 in
theorem spec_l05In.calls (a0 : Int) (a1 : Int) (r : Bool) (w : World) (h : spec_l05In.f a0 a1 = some r) :
  Calls Try.prog 70 #[.int .i64 a0, .int .i64 a1] w fun e w' => e = .returned (.bool r) ∧ Drawn0 w w' := by
 have H : (if a0 ≥ 0 then (some (decide (a0 ≤ a1))) else (some false)) = some r := h
 clear h
 by_cases c3 : a0 ≥ 0
 ·rw [if_pos c3] at H
  have c3b0 : decide (0 ≤ a0) = true := decide_eq_true c3
  clear c3
  obtain rfl := Option.some.inj H
  go_enter Try.func70, Try.ntmps70
  go_wp2
  go_ret
  exact ⟨by first | rfl | (simp; done) | (simp [Int.tdiv_eq_ediv_of_nonneg]; done) | (simp [*]; done), by repeat (first | exact Drawn0.refl _ | apply Drawn0.step)⟩
 ·rw [if_neg c3] at H
  have c3b0 : decide (0 ≤ a0) = false := decide_eq_false c3
  clear c3
  obtain rfl := Option.some.inj H
  go_enter Try.func70, Try.ntmps70
  go_wp2
  go_ret
  exact ⟨by first | rfl | (simp; done) | (simp [Int.tdiv_eq_ediv_of_nonneg]; done) | (simp [*]; done), by repeat (first | exact Drawn0.refl _ | apply Drawn0.step)⟩

/-! ### spec_KeyOk: function 50 -/
def spec_KeyOk.f (a0_0 : Int) (a0_1 : Int) (a0_2 : Int) (a0_3 : Int) (a0_4 : Int) (a0_5 : Int) (a0_6 : Int) (a0_7 : Int) (a0_8 : Int) (a0_9 : Int) (a0_10 : Int) (a0_11 : Int) (a0_12 : Int) : Option (Bool) := (spec_l07Pair.f a0_0 a0_1 a0_2 a0_3 a0_4 a0_5 a0_6 a0_7 a0_8 a0_9).bind fun t266 => (if t266 = true then ((spec_l05In.f a0_10 255).bind fun t267 => (if t267 = true then ((spec_l05In.f a0_11 65535).bind fun t268 => (if t268 = true then ((spec_l05In.f a0_12 65535).bind fun t269 => (some t269)) else (some false))) else (some false))) else (some false))
set_option maxHeartbeats 8000000 in
set_option maxRecDepth 100000 in
theorem spec_KeyOk.calls (a0_0 : Int) (a0_1 : Int) (a0_2 : Int) (a0_3 : Int) (a0_4 : Int) (a0_5 : Int) (a0_6 : Int) (a0_7 : Int) (a0_8 : Int) (a0_9 : Int) (a0_10 : Int) (a0_11 : Int) (a0_12 : Int) (r : Bool) (w : World) (h : spec_KeyOk.f a0_0 a0_1 a0_2 a0_3 a0_4 a0_5 a0_6 a0_7 a0_8 a0_9 a0_10 a0_11 a0_12 = some r) :
  Calls Try.prog 50 #[.agg #[.int .i64 a0_0, .int .i64 a0_1, .int .i64 a0_2, .int .i64 a0_3, .int .i64 a0_4, .int .i64 a0_5, .int .i64 a0_6, .int .i64 a0_7, .int .i64 a0_8, .int .i64 a0_9, .int .i64 a0_10, .int .i64 a0_11, .int .i64 a0_12]] w fun e w' => e = .returned (.bool r) ∧ Below w.heap.size w w' := by
 have hu36 := Try.underlying36
 have hu34 := Try.underlying34
 have HB := Gv.a0 (Below.refl w.heap.size w)
 have H : ((spec_l07Pair.f a0_0 a0_1 a0_2 a0_3 a0_4 a0_5 a0_6 a0_7 a0_8 a0_9).bind fun t266 => (if t266 = true then ((spec_l05In.f a0_10 255).bind fun t267 => (if t267 = true then ((spec_l05In.f a0_11 65535).bind fun t268 => (if t268 = true then ((spec_l05In.f a0_12 65535).bind fun t269 => (some t269)) else (some false))) else (some false))) else (some false))) = some r := h
 clear h
 replace H := Option.bind_eq_some_iff.mp H
 obtain ⟨t266, A20, H⟩ := H
 replace H : (if t266 = true then ((spec_l05In.f a0_10 255).bind fun t267 => (if t267 = true then ((spec_l05In.f a0_11 65535).bind fun t268 => (if t268 = true then ((spec_l05In.f a0_12 65535).bind fun t269 => (some t269)) else (some false))) else (some false))) else (some false)) = some r := H
 have A2 := Gv.a0 A20
 clear A20
 by_cases c3 : t266 = true
 ·subst c3
  have H1 : ((spec_l05In.f a0_10 255).bind fun t267 => (if t267 = true then ((spec_l05In.f a0_11 65535).bind fun t268 => (if t268 = true then ((spec_l05In.f a0_12 65535).bind fun t269 => (some t269)) else (some false))) else (some false))) = some r := by rw [if_pos rfl] at H; exact H
  clear H
  have H := H1
  clear H1
  replace H := Option.bind_eq_some_iff.mp H
  obtain ⟨t267, A40, H⟩ := H
  replace H : (if t267 = true then ((spec_l05In.f a0_11 65535).bind fun t268 => (if t268 = true then ((spec_l05In.f a0_12 65535).bind fun t269 => (some t269)) else (some false))) else (some false)) = some r := H
  have A4 := Gv.a0 A40
  clear A40
  by_cases c5 : t267 = true
  ·subst c5
   have H1 : ((spec_l05In.f a0_11 65535).bind fun t268 => (if t268 = true then ((spec_l05In.f a0_12 65535).bind fun t269 => (some t269)) else (some false))) = some r := by rw [if_pos rfl] at H; exact H
   clear H
   have H := H1
   clear H1
   replace H := Option.bind_eq_some_iff.mp H
   obtain ⟨t268, A60, H⟩ := H
   replace H : (if t268 = true then ((spec_l05In.f a0_12 65535).bind fun t269 => (some t269)) else (some false)) = some r := H
   have A6 := Gv.a0 A60
   clear A60
   by_cases c7 : t268 = true
   ·subst c7
    have H1 : ((spec_l05In.f a0_12 65535).bind fun t269 => (some t269)) = some r := by rw [if_pos rfl] at H; exact H
    clear H
    have H := H1
    clear H1
    replace H := Option.bind_eq_some_iff.mp H
    obtain ⟨t269, A80, H⟩ := H
    replace H : (some t269) = some r := H
    have A8 := Gv.a0 A80
    clear A80
    obtain rfl := Option.some.inj H
    go_enter Try.func50, Try.ntmps50
    go_wp2_with (first | ((with_reducible refine gate_dst (N := 1) rfl ?_); refine box_event ?hg (N := 1) ?hd (cs := #[.int .i64 a0_0, .int .i64 a0_1, .int .i64 a0_2, .int .i64 a0_3, .int .i64 a0_4, .int .i64 a0_5, .int .i64 a0_6, .int .i64 a0_7, .int .i64 a0_8, .int .i64 a0_9, .int .i64 a0_10, .int .i64 a0_11, .int .i64 a0_12]) (t := 36) ?hr ?_; (case hd => rfl); (case hg => rfl); (case hr => first | (go_simp; done) | (go_simp; rfl)); intro gb265 hg w9 hbox hb; have n0_ := Gv.a0 (below_step Gv.bw hb); have n1_ := Gv.a0 (hbox); have n2_ := Gv.a0 ((Gv.ble hg Gv.bw : w.heap.size ≤ gb265)); have n3_ := Gv.a0 ((Gv.ble hg Gv.bw : w.heap.size ≤ gb265)); clear HB; have HB := n0_; have BK265 := n1_; have GW265 := n2_; have GE265 := n3_; clear n0_ n1_ n2_ n3_; clear hb hbox hg; obtain ⟨hcz10_0, hcz10_1, hcz10_2, hcz10_3, hcz10_4, hcz10_5, hcz10_6, hcz10_7, hcz10_8, hcz10_9, hcz10_10, hcz10_11, hcz10_12⟩ := Gv.c13 BK265.out; obtain ⟨hfz10_0, hfz10_1, hfz10_2, hfz10_3, hfz10_4, hfz10_5, hfz10_6, hfz10_7, hfz10_8, hfz10_9, hfz10_10, hfz10_11, hfz10_12⟩ := Gv.f13 BK265.out) | ((with_reducible refine gate_callee (f := 69) rfl ?_); refine goesL_ (some 7) rfl rfl Try.func69 (by kernel_rfl) rfl #[.agg #[.int .i64 a0_0, .int .i64 a0_1, .int .i64 a0_2, .int .i64 a0_3, .int .i64 a0_4], .agg #[.int .i64 a0_5, .int .i64 a0_6, .int .i64 a0_7, .int .i64 a0_8, .int .i64 a0_9]] rfl Gv.lm ?_; (with_reducible refine (spec_l07Pair.calls a0_0 a0_1 a0_2 a0_3 a0_4 a0_5 a0_6 a0_7 a0_8 a0_9 true _ A2.out).mono ?_); rintro e w11 ⟨rfl, hb⟩; refine ⟨_, rfl, ?_⟩; have n0_ := Gv.a0 (Gv.bb BK265.out hb); have n1_ := Gv.a0 (below_step Gv.bw hb); clear BK265; clear HB; have BK265 := n0_; have HB := n1_; clear n0_ n1_; (try clear hb); (try clear hb2); (try clear hk); (try clear hi); obtain ⟨hcz12_0, hcz12_1, hcz12_2, hcz12_3, hcz12_4, hcz12_5, hcz12_6, hcz12_7, hcz12_8, hcz12_9, hcz12_10, hcz12_11, hcz12_12⟩ := Gv.c13 BK265.out; obtain ⟨hfz12_0, hfz12_1, hfz12_2, hfz12_3, hfz12_4, hfz12_5, hfz12_6, hfz12_7, hfz12_8, hfz12_9, hfz12_10, hfz12_11, hfz12_12⟩ := Gv.f13 BK265.out) | (go_at_call 70; (with_reducible refine (spec_l05In.calls a0_10 255 true _ A4.out).mono ?_); rintro e w' ⟨rfl, ⟨nd, rfl⟩⟩) | (go_at_call 70; (with_reducible refine (spec_l05In.calls a0_11 65535 true _ A6.out).mono ?_); rintro e w' ⟨rfl, ⟨nd, rfl⟩⟩) | (go_at_call 70; (with_reducible refine (spec_l05In.calls a0_12 65535 t269 _ A8.out).mono ?_); rintro e w' ⟨rfl, ⟨nd, rfl⟩⟩))
    go_ret
    exact ⟨Gv.rt, Gv.bw⟩
   ·replace c7 := Bool.eq_false_iff.mpr c7
    subst c7
    have H1 : (some false) = some r := by rw [if_neg (show ¬ (false = true) by decide)] at H; exact H
    clear H
    have H := H1
    clear H1
    obtain rfl := Option.some.inj H
    go_enter Try.func50, Try.ntmps50
    go_wp2_with (first | ((with_reducible refine gate_dst (N := 1) rfl ?_); refine box_event ?hg (N := 1) ?hd (cs := #[.int .i64 a0_0, .int .i64 a0_1, .int .i64 a0_2, .int .i64 a0_3, .int .i64 a0_4, .int .i64 a0_5, .int .i64 a0_6, .int .i64 a0_7, .int .i64 a0_8, .int .i64 a0_9, .int .i64 a0_10, .int .i64 a0_11, .int .i64 a0_12]) (t := 36) ?hr ?_; (case hd => rfl); (case hg => rfl); (case hr => first | (go_simp; done) | (go_simp; rfl)); intro gb265 hg w13 hbox hb; have n0_ := Gv.a0 (below_step Gv.bw hb); have n1_ := Gv.a0 (hbox); have n2_ := Gv.a0 ((Gv.ble hg Gv.bw : w.heap.size ≤ gb265)); have n3_ := Gv.a0 ((Gv.ble hg Gv.bw : w.heap.size ≤ gb265)); clear HB; have HB := n0_; have BK265 := n1_; have GW265 := n2_; have GE265 := n3_; clear n0_ n1_ n2_ n3_; clear hb hbox hg; obtain ⟨hcz14_0, hcz14_1, hcz14_2, hcz14_3, hcz14_4, hcz14_5, hcz14_6, hcz14_7, hcz14_8, hcz14_9, hcz14_10, hcz14_11, hcz14_12⟩ := Gv.c13 BK265.out; obtain ⟨hfz14_0, hfz14_1, hfz14_2, hfz14_3, hfz14_4, hfz14_5, hfz14_6, hfz14_7, hfz14_8, hfz14_9, hfz14_10, hfz14_11, hfz14_12⟩ := Gv.f13 BK265.out) | ((with_reducible refine gate_callee (f := 69) rfl ?_); refine goesL_ (some 7) rfl rfl Try.func69 (by kernel_rfl) rfl #[.agg #[.int .i64 a0_0, .int .i64 a0_1, .int .i64 a0_2, .int .i64 a0_3, .int .i64 a0_4], .agg #[.int .i64 a0_5, .int .i64 a0_6, .int .i64 a0_7, .int .i64 a0_8, .int .i64 a0_9]] rfl Gv.lm ?_; (with_reducible refine (spec_l07Pair.calls a0_0 a0_1 a0_2 a0_3 a0_4 a0_5 a0_6 a0_7 a0_8 a0_9 true _ A2.out).mono ?_); rintro e w15 ⟨rfl, hb⟩; refine ⟨_, rfl, ?_⟩; have n0_ := Gv.a0 (Gv.bb BK265.out hb); have n1_ := Gv.a0 (below_step Gv.bw hb); clear BK265; clear HB; have BK265 := n0_; have HB := n1_; clear n0_ n1_; (try clear hb); (try clear hb2); (try clear hk); (try clear hi); obtain ⟨hcz16_0, hcz16_1, hcz16_2, hcz16_3, hcz16_4, hcz16_5, hcz16_6, hcz16_7, hcz16_8, hcz16_9, hcz16_10, hcz16_11, hcz16_12⟩ := Gv.c13 BK265.out; obtain ⟨hfz16_0, hfz16_1, hfz16_2, hfz16_3, hfz16_4, hfz16_5, hfz16_6, hfz16_7, hfz16_8, hfz16_9, hfz16_10, hfz16_11, hfz16_12⟩ := Gv.f13 BK265.out) | (go_at_call 70; (with_reducible refine (spec_l05In.calls a0_10 255 true _ A4.out).mono ?_); rintro e w' ⟨rfl, ⟨nd, rfl⟩⟩) | (go_at_call 70; (with_reducible refine (spec_l05In.calls a0_11 65535 false _ A6.out).mono ?_); rintro e w' ⟨rfl, ⟨nd, rfl⟩⟩))
    go_ret
    exact ⟨Gv.rt, Gv.bw⟩
  ·replace c5 := Bool.eq_false_iff.mpr c5
   subst c5
   have H1 : (some false) = some r := by rw [if_neg (show ¬ (false = true) by decide)] at H; exact H
   clear H
   have H := H1
   clear H1
   obtain rfl := Option.some.inj H
   go_enter Try.func50, Try.ntmps50
   go_wp2_with (first | ((with_reducible refine gate_dst (N := 1) rfl ?_); refine box_event ?hg (N := 1) ?hd (cs := #[.int .i64 a0_0, .int .i64 a0_1, .int .i64 a0_2, .int .i64 a0_3, .int .i64 a0_4, .int .i64 a0_5, .int .i64 a0_6, .int .i64 a0_7, .int .i64 a0_8, .int .i64 a0_9, .int .i64 a0_10, .int .i64 a0_11, .int .i64 a0_12]) (t := 36) ?hr ?_; (case hd => rfl); (case hg => rfl); (case hr => first | (go_simp; done) | (go_simp; rfl)); intro gb265 hg w17 hbox hb; have n0_ := Gv.a0 (below_step Gv.bw hb); have n1_ := Gv.a0 (hbox); have n2_ := Gv.a0 ((Gv.ble hg Gv.bw : w.heap.size ≤ gb265)); have n3_ := Gv.a0 ((Gv.ble hg Gv.bw : w.heap.size ≤ gb265)); clear HB; have HB := n0_; have BK265 := n1_; have GW265 := n2_; have GE265 := n3_; clear n0_ n1_ n2_ n3_; clear hb hbox hg; obtain ⟨hcz18_0, hcz18_1, hcz18_2, hcz18_3, hcz18_4, hcz18_5, hcz18_6, hcz18_7, hcz18_8, hcz18_9, hcz18_10, hcz18_11, hcz18_12⟩ := Gv.c13 BK265.out; obtain ⟨hfz18_0, hfz18_1, hfz18_2, hfz18_3, hfz18_4, hfz18_5, hfz18_6, hfz18_7, hfz18_8, hfz18_9, hfz18_10, hfz18_11, hfz18_12⟩ := Gv.f13 BK265.out) | ((with_reducible refine gate_callee (f := 69) rfl ?_); refine goesL_ (some 7) rfl rfl Try.func69 (by kernel_rfl) rfl #[.agg #[.int .i64 a0_0, .int .i64 a0_1, .int .i64 a0_2, .int .i64 a0_3, .int .i64 a0_4], .agg #[.int .i64 a0_5, .int .i64 a0_6, .int .i64 a0_7, .int .i64 a0_8, .int .i64 a0_9]] rfl Gv.lm ?_; (with_reducible refine (spec_l07Pair.calls a0_0 a0_1 a0_2 a0_3 a0_4 a0_5 a0_6 a0_7 a0_8 a0_9 true _ A2.out).mono ?_); rintro e w19 ⟨rfl, hb⟩; refine ⟨_, rfl, ?_⟩; have n0_ := Gv.a0 (Gv.bb BK265.out hb); have n1_ := Gv.a0 (below_step Gv.bw hb); clear BK265; clear HB; have BK265 := n0_; have HB := n1_; clear n0_ n1_; (try clear hb); (try clear hb2); (try clear hk); (try clear hi); obtain ⟨hcz20_0, hcz20_1, hcz20_2, hcz20_3, hcz20_4, hcz20_5, hcz20_6, hcz20_7, hcz20_8, hcz20_9, hcz20_10, hcz20_11, hcz20_12⟩ := Gv.c13 BK265.out; obtain ⟨hfz20_0, hfz20_1, hfz20_2, hfz20_3, hfz20_4, hfz20_5, hfz20_6, hfz20_7, hfz20_8, hfz20_9, hfz20_10, hfz20_11, hfz20_12⟩ := Gv.f13 BK265.out) | (go_at_call 70; (with_reducible refine (spec_l05In.calls a0_10 255 false _ A4.out).mono ?_); rintro e w' ⟨rfl, ⟨nd, rfl⟩⟩))
   go_ret
   exact ⟨Gv.rt, Gv.bw⟩
 ·replace c3 := Bool.eq_false_iff.mpr c3
  subst c3
  have H1 : (some false) = some r := by rw [if_neg (show ¬ (false = true) by decide)] at H; exact H
  clear H
  have H := H1
  clear H1
  obtain rfl := Option.some.inj H
  go_enter Try.func50, Try.ntmps50
  go_wp2_with (first | ((with_reducible refine gate_dst (N := 1) rfl ?_); refine box_event ?hg (N := 1) ?hd (cs := #[.int .i64 a0_0, .int .i64 a0_1, .int .i64 a0_2, .int .i64 a0_3, .int .i64 a0_4, .int .i64 a0_5, .int .i64 a0_6, .int .i64 a0_7, .int .i64 a0_8, .int .i64 a0_9, .int .i64 a0_10, .int .i64 a0_11, .int .i64 a0_12]) (t := 36) ?hr ?_; (case hd => rfl); (case hg => rfl); (case hr => first | (go_simp; done) | (go_simp; rfl)); intro gb265 hg w21 hbox hb; have n0_ := Gv.a0 (below_step Gv.bw hb); have n1_ := Gv.a0 (hbox); have n2_ := Gv.a0 ((Gv.ble hg Gv.bw : w.heap.size ≤ gb265)); have n3_ := Gv.a0 ((Gv.ble hg Gv.bw : w.heap.size ≤ gb265)); clear HB; have HB := n0_; have BK265 := n1_; have GW265 := n2_; have GE265 := n3_; clear n0_ n1_ n2_ n3_; clear hb hbox hg; obtain ⟨hcz22_0, hcz22_1, hcz22_2, hcz22_3, hcz22_4, hcz22_5, hcz22_6, hcz22_7, hcz22_8, hcz22_9, hcz22_10, hcz22_11, hcz22_12⟩ := Gv.c13 BK265.out; obtain ⟨hfz22_0, hfz22_1, hfz22_2, hfz22_3, hfz22_4, hfz22_5, hfz22_6, hfz22_7, hfz22_8, hfz22_9, hfz22_10, hfz22_11, hfz22_12⟩ := Gv.f13 BK265.out) | ((with_reducible refine gate_callee (f := 69) rfl ?_); refine goesL_ (some 7) rfl rfl Try.func69 (by kernel_rfl) rfl #[.agg #[.int .i64 a0_0, .int .i64 a0_1, .int .i64 a0_2, .int .i64 a0_3, .int .i64 a0_4], .agg #[.int .i64 a0_5, .int .i64 a0_6, .int .i64 a0_7, .int .i64 a0_8, .int .i64 a0_9]] rfl Gv.lm ?_; (with_reducible refine (spec_l07Pair.calls a0_0 a0_1 a0_2 a0_3 a0_4 a0_5 a0_6 a0_7 a0_8 a0_9 false _ A2.out).mono ?_); rintro e w23 ⟨rfl, hb⟩; refine ⟨_, rfl, ?_⟩; have n0_ := Gv.a0 (Gv.bb BK265.out hb); have n1_ := Gv.a0 (below_step Gv.bw hb); clear BK265; clear HB; have BK265 := n0_; have HB := n1_; clear n0_ n1_; (try clear hb); (try clear hb2); (try clear hk); (try clear hi)))
  go_ret
  exact ⟨Gv.rt, Gv.bw⟩

/-! ### spec_PrefixHas: function 51 -/
def spec_PrefixHas.j0 : Nat → Bool → Int → Int → Int → Int → Int → Int → Int → Int → Int → Int → Int → Option (Bool)
 | 0, _, _, _, _, _, _, _, _, _, _, _, _ => none
 | k + 1, x12, x271000, x271001, x271002, x271003, x271004, x271005, x272000, x272001, x272002, x272003, x272004 => if x12 = true then (some false) else ((spec_l03Any.f x271000 x271001 x271002 x271003 x271004 x271005).bind fun t274 => (if t274 = true then (some true) else (if x271000 = x272000 then ((spec_Cut.f k x272000 x272001 x272002 x272003 x272004 x271005).bind fun bt275 => (some (bt275.1 == x271000 && (bt275.2.1 == x271001 && (bt275.2.2.1 == x271002 && (bt275.2.2.2.1 == x271003 && (bt275.2.2.2.2 == x271004))))))) else (some false))))
def spec_PrefixHas.f (k : Nat) (a0_0 : Int) (a0_1 : Int) (a0_2 : Int) (a0_3 : Int) (a0_4 : Int) (a0_5 : Int) (a1_0 : Int) (a1_1 : Int) (a1_2 : Int) (a1_3 : Int) (a1_4 : Int) : Option (Bool) := (spec_PrefixOk.f k a0_0 a0_1 a0_2 a0_3 a0_4 a0_5).bind fun t272 => (if t272 = true then ((spec_AddrOk.f a1_0 a1_1 a1_2 a1_3 a1_4).bind fun t273 => (spec_PrefixHas.j0 k (!t273) a0_0 a0_1 a0_2 a0_3 a0_4 a0_5 a1_0 a1_1 a1_2 a1_3 a1_4)) else (spec_PrefixHas.j0 k true a0_0 a0_1 a0_2 a0_3 a0_4 a0_5 a1_0 a1_1 a1_2 a1_3 a1_4))
theorem spec_PrefixHas.mono_l : ∀ k, (∀ y0 y1 y2 y3 y4 y5 y6 y7 y8 y9 y10 y11, LeO (spec_PrefixHas.j0 k y0 y1 y2 y3 y4 y5 y6 y7 y8 y9 y10 y11) (spec_PrefixHas.j0 (k + 1) y0 y1 y2 y3 y4 y5 y6 y7 y8 y9 y10 y11))
 | 0 => fun _ _ _ _ _ _ _ _ _ _ _ _ r h => by simp [spec_PrefixHas.j0] at h
 | k + 1 => by
  have ih0 := spec_PrefixHas.mono_l k
  ·intro y0 y1 y2 y3 y4 y5 y6 y7 y8 y9 y10 y11
   unfold spec_PrefixHas.j0
   repeat' first
   | (with_reducible exact ih0 _ _ _ _ _ _ _ _ _ _ _ _)
   | (with_reducible exact spec_Cut.mono _ _ _ _ _ _ _)
   | (with_reducible exact spec_PrefixOk.mono _ _ _ _ _ _ _)
   | (with_reducible exact LeO.refl _)
   | (with_reducible exact LeO.none _)
   | (with_reducible refine LeO.ite ?_ ?_)
   | (with_reducible refine LeO.bind ?_ (fun _ => ?_))
   | exact ih0 _ _ _ _ _ _ _ _ _ _ _ _
   | exact spec_Cut.mono _ _ _ _ _ _ _
   | exact spec_PrefixOk.mono _ _ _ _ _ _ _
   | exact LeO.none _
   | refine LeO.ite ?_ ?_
   | refine LeO.bind ?_ (fun _ => ?_)
theorem spec_PrefixHas.mono : ∀ a0 a1 a2 a3 a4 a5 a6 a7 a8 a9 a10 k, LeO (spec_PrefixHas.f k a0 a1 a2 a3 a4 a5 a6 a7 a8 a9 a10) (spec_PrefixHas.f (k + 1) a0 a1 a2 a3 a4 a5 a6 a7 a8 a9 a10) := by
 intro a0 a1 a2 a3 a4 a5 a6 a7 a8 a9 a10 k
 have ih0 := spec_PrefixHas.mono_l k
 unfold spec_PrefixHas.f
 repeat' first
   | (with_reducible exact ih0 _ _ _ _ _ _ _ _ _ _ _ _)
   | (with_reducible exact spec_Cut.mono _ _ _ _ _ _ _)
   | (with_reducible exact spec_PrefixOk.mono _ _ _ _ _ _ _)
   | (with_reducible exact LeO.refl _)
   | (with_reducible exact LeO.none _)
   | (with_reducible refine LeO.ite ?_ ?_)
   | (with_reducible refine LeO.bind ?_ (fun _ => ?_))
   | exact ih0 _ _ _ _ _ _ _ _ _ _ _ _
   | exact spec_Cut.mono _ _ _ _ _ _ _
   | exact spec_PrefixOk.mono _ _ _ _ _ _ _
   | exact LeO.none _
   | refine LeO.ite ?_ ?_
   | refine LeO.bind ?_ (fun _ => ?_)
def spec_PrefixHas.T3 : Bool × List (List Nat × List Nat) := (true, [([], []), ([0], [0]), ([1, 1], [1]), ([2], [2]), ([3, 2], [2, 3]), ([4, 2], [2, 4]), ([2], [2]), ([6, 2], [2, 6]), ([5, 7, 2], [2, 5, 7]), ([8, 2, 2], [2, 8]), ([9], [9]), ([9], [9]), ([11, 9], [9, 11]), ([10, 12, 9, 9], [9, 10, 12]), ([9], [9]), ([14, 9], [9, 14]), ([13, 15, 9], [9, 13, 15]), ([9, 16, 2], [2, 9, 16]), ([2, 17], [2, 17]), ([18, 13, 0, 1, 2, 3, 4, 5, 6, 7, 8, 9, 10, 11, 12, 13, 14, 15, 16, 17, 18], [18])])
def spec_PrefixHas.B3 : List Nat := [0, 1, 3, 7, 15, 31, 7, 71, 255, 511, 1023, 1023, 3071, 8191, 1023, 17407, 65535, 131071, 262143, 524287]
theorem spec_PrefixHas.tab3 : rtab .any (opsOf Try.f51 3) = spec_PrefixHas.T3 := by kernel_rfl
theorem spec_PrefixHas.bits3 : waitsOk spec_PrefixHas.T3.2 spec_PrefixHas.B3 = true := by kernel_rfl
set_option maxHeartbeats 8000000 in
set_option maxRecDepth 100000 in
theorem spec_PrefixHas.calls (k : Nat) (a0_0 : Int) (a0_1 : Int) (a0_2 : Int) (a0_3 : Int) (a0_4 : Int) (a0_5 : Int) (a1_0 : Int) (a1_1 : Int) (a1_2 : Int) (a1_3 : Int) (a1_4 : Int) (r : Bool) (w : World) (h : spec_PrefixHas.f k a0_0 a0_1 a0_2 a0_3 a0_4 a0_5 a1_0 a1_1 a1_2 a1_3 a1_4 = some r) :
  Calls Try.prog 51 #[.agg #[.int .i64 a0_0, .int .i64 a0_1, .int .i64 a0_2, .int .i64 a0_3, .int .i64 a0_4, .int .i64 a0_5], .agg #[.int .i64 a1_0, .int .i64 a1_1, .int .i64 a1_2, .int .i64 a1_3, .int .i64 a1_4]] w fun e w' => e = .returned (.bool r) ∧ Below w.heap.size w w' := by
 have hu53 := Try.underlying53
 have hu34 := Try.underlying34
 have HB := Gv.a0 (Below.refl w.heap.size w)
 have H : ((spec_PrefixOk.f k a0_0 a0_1 a0_2 a0_3 a0_4 a0_5).bind fun t272 => (if t272 = true then ((spec_AddrOk.f a1_0 a1_1 a1_2 a1_3 a1_4).bind fun t273 => (spec_PrefixHas.j0 k (!t273) a0_0 a0_1 a0_2 a0_3 a0_4 a0_5 a1_0 a1_1 a1_2 a1_3 a1_4)) else (spec_PrefixHas.j0 k true a0_0 a0_1 a0_2 a0_3 a0_4 a0_5 a1_0 a1_1 a1_2 a1_3 a1_4))) = some r := h
 clear h
 have HC3 := Gv.a0 H
 clear H
 go_enter Try.func51, Try.ntmps51
 go_upto_region 1 with (first | ((with_reducible refine gate_dst (N := 2) rfl ?_); refine box_event ?hg (N := 2) ?hd (cs := #[.int .i64 a0_0, .int .i64 a0_1, .int .i64 a0_2, .int .i64 a0_3, .int .i64 a0_4, .int .i64 a0_5]) (t := 53) ?hr ?_; (case hd => rfl); (case hg => rfl); (case hr => first | (go_simp; done) | (go_simp; rfl)); intro gb270 hg w4 hbox hb; have n0_ := Gv.a0 (below_step Gv.bw hb); have n1_ := Gv.a0 (hbox); have n2_ := Gv.a0 ((Gv.ble hg Gv.bw : w.heap.size ≤ gb270)); have n3_ := Gv.a0 ((Gv.ble hg Gv.bw : w.heap.size ≤ gb270)); clear HB; have HB := n0_; have BK270 := n1_; have GW270 := n2_; have GE270 := n3_; clear n0_ n1_ n2_ n3_; clear hb hbox hg) | ((with_reducible refine gate_dst (N := 3) rfl ?_); refine box_event ?hg (N := 3) ?hd (cs := #[.int .i64 a1_0, .int .i64 a1_1, .int .i64 a1_2, .int .i64 a1_3, .int .i64 a1_4]) (t := 34) ?hr ?_; (case hd => rfl); (case hg => rfl); (case hr => first | (go_simp; done) | (go_simp; rfl)); intro gb271 hg w5 hbox hb; have n0_ := Gv.a0 (Gv.bb BK270.out hb); have n1_ := Gv.a0 (below_step Gv.bw hb); have n2_ := Gv.a0 (hbox); have n3_ := Gv.a0 ((Gv.ble hg Gv.bw : w.heap.size ≤ gb271)); have n4_ := Gv.a0 ((Gv.ble hg Gv.bw : w.heap.size ≤ gb271)); have n5_ := Gv.a0 ((Gv.nlt hg (Gv.kb BK270.out) : gb270 ≠ gb271)); have n6_ := Gv.a0 ((Gv.ngt hg (Gv.kb BK270.out) : gb271 ≠ gb270)); clear BK270; clear HB; have BK270 := n0_; have HB := n1_; have BK271 := n2_; have GW271 := n3_; have GE271 := n4_; have NB270_271 := n5_; have NB271_270 := n6_; clear n0_ n1_ n2_ n3_ n4_ n5_ n6_; clear hb hbox hg))
 (try simp only [Act.put, List.setIfInBounds_toArray, List.set_cons_zero, List.set_cons_succ])
 go_cut [12] (fun v12 wc => ∃ (kq : Nat) (x12_2 : Bool), v12 = .bool x12_2 ∧ Aside0 (spec_PrefixHas.j0 kq x12_2 a0_0 a0_1 a0_2 a0_3 a0_4 a0_5 a1_0 a1_1 a1_2 a1_3 a1_4 = some r) ∧ Aside0 (kq ≤ k) ∧ Aside0 (wc.heap[gb270]? = some (.cells #[.int .i64 a0_0, .int .i64 a0_1, .int .i64 a0_2, .int .i64 a0_3, .int .i64 a0_4, .int .i64 a0_5] 53 (0, 0))) ∧ Aside0 (wc.heap[gb271]? = some (.cells #[.int .i64 a1_0, .int .i64 a1_1, .int .i64 a1_2, .int .i64 a1_3, .int .i64 a1_4] 34 (0, 0))) ∧ Aside0 (Below w.heap.size w wc))
 case first =>
  have H := HC3.out
  clear HC3
  replace H := Option.bind_eq_some_iff.mp H
  obtain ⟨t272, A60, H⟩ := H
  replace H : (if t272 = true then ((spec_AddrOk.f a1_0 a1_1 a1_2 a1_3 a1_4).bind fun t273 => (spec_PrefixHas.j0 k (!t273) a0_0 a0_1 a0_2 a0_3 a0_4 a0_5 a1_0 a1_1 a1_2 a1_3 a1_4)) else (spec_PrefixHas.j0 k true a0_0 a0_1 a0_2 a0_3 a0_4 a0_5 a1_0 a1_1 a1_2 a1_3 a1_4)) = some r := H
  have A6 := Gv.a0 A60
  clear A60
  by_cases c7 : t272 = true
  ·subst c7
   have H1 : ((spec_AddrOk.f a1_0 a1_1 a1_2 a1_3 a1_4).bind fun t273 => (spec_PrefixHas.j0 k (!t273) a0_0 a0_1 a0_2 a0_3 a0_4 a0_5 a1_0 a1_1 a1_2 a1_3 a1_4)) = some r := by rw [if_pos rfl] at H; exact H
   clear H
   have H := H1
   clear H1
   replace H := Option.bind_eq_some_iff.mp H
   obtain ⟨t273, A80, H⟩ := H
   replace H : (spec_PrefixHas.j0 k (!t273) a0_0 a0_1 a0_2 a0_3 a0_4 a0_5 a1_0 a1_1 a1_2 a1_3 a1_4) = some r := H
   have A8 := Gv.a0 A80
   clear A80
   have H' := Gv.a0 H
   clear H
   have hnb9 := NB270_271.out
   have hnc9 := NB271_270.out
   obtain ⟨hcz10_0, hcz10_1, hcz10_2, hcz10_3, hcz10_4, hcz10_5⟩ := Gv.c6 BK270.out
   obtain ⟨hfz10_0, hfz10_1, hfz10_2, hfz10_3, hfz10_4, hfz10_5⟩ := Gv.f6 BK270.out
   go_wp2_with (first | ((with_reducible refine gate_callee (f := 44) rfl ?_); refine goesL_ (some 6) rfl rfl Try.func44 (by kernel_rfl) rfl #[.agg #[.int .i64 a0_0, .int .i64 a0_1, .int .i64 a0_2, .int .i64 a0_3, .int .i64 a0_4, .int .i64 a0_5]] rfl Gv.lm ?_; (with_reducible refine (spec_PrefixOk.calls k a0_0 a0_1 a0_2 a0_3 a0_4 a0_5 true _ A6.out).mono ?_); rintro e w11 ⟨rfl, hb⟩; refine ⟨_, rfl, ?_⟩; have n0_ := Gv.a0 (Gv.bb BK270.out hb); have n1_ := Gv.a0 (Gv.bb BK271.out hb); have n2_ := Gv.a0 (below_step Gv.bw hb); clear BK270; clear BK271; clear HB; have BK270 := n0_; have BK271 := n1_; have HB := n2_; clear n0_ n1_ n2_; (try clear hb); (try clear hb2); (try clear hk); (try clear hi); obtain ⟨hcz12_0, hcz12_1, hcz12_2, hcz12_3, hcz12_4⟩ := Gv.c5 BK271.out; obtain ⟨hfz12_0, hfz12_1, hfz12_2, hfz12_3, hfz12_4⟩ := Gv.f5 BK271.out) | (go_at_call 61; (with_reducible refine (spec_AddrOk.calls a1_0 a1_1 a1_2 a1_3 a1_4 t273 _ A8.out).mono ?_); rintro e w13 ⟨rfl, hb⟩; have n0_ := Gv.a0 (Gv.bb BK270.out hb); have n1_ := Gv.a0 (Gv.bb BK271.out hb); have n2_ := Gv.a0 (below_step Gv.bw hb); clear BK270; clear BK271; clear HB; have BK270 := n0_; have BK271 := n1_; have HB := n2_; clear n0_ n1_ n2_; (try clear hb); (try clear hb2); (try clear hk); (try clear hi)))
   go_meet
   case rel => exact ⟨_, (!t273), Gv.rq, H', ⟨by first | omega | exact Nat.le_refl _⟩, ⟨by (with_reducible repeat (first | refine blk_drewN ?_ _ | refine blk_drew ?_ | refine blk_alloc ?_ _)); exact BK270.out⟩, ⟨by (with_reducible repeat (first | refine blk_drewN ?_ _ | refine blk_drew ?_ | refine blk_alloc ?_ _)); exact BK271.out⟩, ⟨Gv.bw⟩⟩
  ·replace c7 := Bool.eq_false_iff.mpr c7
   subst c7
   have H1 : (spec_PrefixHas.j0 k true a0_0 a0_1 a0_2 a0_3 a0_4 a0_5 a1_0 a1_1 a1_2 a1_3 a1_4) = some r := by rw [if_neg (show ¬ (false = true) by decide)] at H; exact H
   clear H
   have H := H1
   clear H1
   have H' := Gv.a0 H
   clear H
   have hnb14 := NB270_271.out
   have hnc14 := NB271_270.out
   obtain ⟨hcz15_0, hcz15_1, hcz15_2, hcz15_3, hcz15_4, hcz15_5⟩ := Gv.c6 BK270.out
   obtain ⟨hfz15_0, hfz15_1, hfz15_2, hfz15_3, hfz15_4, hfz15_5⟩ := Gv.f6 BK270.out
   go_wp2_with (first | ((with_reducible refine gate_callee (f := 44) rfl ?_); refine goesL_ (some 6) rfl rfl Try.func44 (by kernel_rfl) rfl #[.agg #[.int .i64 a0_0, .int .i64 a0_1, .int .i64 a0_2, .int .i64 a0_3, .int .i64 a0_4, .int .i64 a0_5]] rfl Gv.lm ?_; (with_reducible refine (spec_PrefixOk.calls k a0_0 a0_1 a0_2 a0_3 a0_4 a0_5 false _ A6.out).mono ?_); rintro e w16 ⟨rfl, hb⟩; refine ⟨_, rfl, ?_⟩; have n0_ := Gv.a0 (Gv.bb BK270.out hb); have n1_ := Gv.a0 (Gv.bb BK271.out hb); have n2_ := Gv.a0 (below_step Gv.bw hb); clear BK270; clear BK271; clear HB; have BK270 := n0_; have BK271 := n1_; have HB := n2_; clear n0_ n1_ n2_; (try clear hb); (try clear hb2); (try clear hk); (try clear hi)))
   go_meet
   case rel => exact ⟨_, (true), Gv.rq, H', ⟨by first | omega | exact Nat.le_refl _⟩, ⟨by (with_reducible repeat (first | refine blk_drewN ?_ _ | refine blk_drew ?_ | refine blk_alloc ?_ _)); exact BK270.out⟩, ⟨by (with_reducible repeat (first | refine blk_drewN ?_ _ | refine blk_drew ?_ | refine blk_alloc ?_ _)); exact BK271.out⟩, ⟨Gv.bw⟩⟩
 case rest =>
  clear HC3
  try clear c1
  try clear p2
  try clear c4
  try clear c5
  try clear c7
  try clear c9
  try clear c14
  try clear hcz10_0 hcz10_1 hcz10_2 hcz10_3 hcz10_4 hcz10_5
  try clear hcz12_0 hcz12_1 hcz12_2 hcz12_3 hcz12_4
  try clear hcz15_0 hcz15_1 hcz15_2 hcz15_3 hcz15_4 hcz15_5
  try clear hfz10_0 hfz10_1 hfz10_2 hfz10_3 hfz10_4 hfz10_5
  try clear hfz12_0 hfz12_1 hfz12_2 hfz12_3 hfz12_4
  try clear hfz15_0 hfz15_1 hfz15_2 hfz15_3 hfz15_4 hfz15_5
  obtain ⟨kq, x12_2, rfl, HA, HJ2, BK270, BK271, HB⟩ := hcut
  cases kq with
  | zero => exact absurd HA.out (by simp [spec_PrefixHas.j0])
  | succ kj2 =>
   have H := HA.out
   clear HA
   simp only [spec_PrefixHas.j0] at H
   by_cases c17 : x12_2 = true
   ·subst c17
    have H1 : (some false) = some r := by rw [if_pos rfl] at H; exact H
    clear H
    have H := H1
    clear H1
    obtain rfl := Option.some.inj H
    go_wp2
    go_ret
    exact ⟨Gv.rt, Gv.bw⟩
   ·replace c17 := Bool.eq_false_iff.mpr c17
    subst c17
    have H1 : ((spec_l03Any.f a0_0 a0_1 a0_2 a0_3 a0_4 a0_5).bind fun t274 => (if t274 = true then (some true) else (if a0_0 = a1_0 then ((spec_Cut.f kj2 a1_0 a1_1 a1_2 a1_3 a1_4 a0_5).bind fun bt275 => (some (bt275.1 == a0_0 && (bt275.2.1 == a0_1 && (bt275.2.2.1 == a0_2 && (bt275.2.2.2.1 == a0_3 && (bt275.2.2.2.2 == a0_4))))))) else (some false)))) = some r := by rw [if_neg (show ¬ (false = true) by decide)] at H; exact H
    clear H
    have H := H1
    clear H1
    replace H := Option.bind_eq_some_iff.mp H
    obtain ⟨t274, A180, H⟩ := H
    replace H : (if t274 = true then (some true) else (if a0_0 = a1_0 then ((spec_Cut.f kj2 a1_0 a1_1 a1_2 a1_3 a1_4 a0_5).bind fun bt275 => (some (bt275.1 == a0_0 && (bt275.2.1 == a0_1 && (bt275.2.2.1 == a0_2 && (bt275.2.2.2.1 == a0_3 && (bt275.2.2.2.2 == a0_4))))))) else (some false))) = some r := H
    have A18 := Gv.a0 A180
    clear A180
    by_cases c19 : t274 = true
    ·subst c19
     have H1 : (some true) = some r := by rw [if_pos rfl] at H; exact H
     clear H
     have H := H1
     clear H1
     obtain rfl := Option.some.inj H
     try go_wp2
     have n0_ := Gv.a0 (blk_drew BK270.out)
     have n1_ := Gv.a0 (blk_drew BK271.out)
     have n2_ := Gv.a0 (below_drew1 HB.out)
     clear BK270
     clear BK271
     clear HB
     have BK270 := n0_
     have BK271 := n1_
     have HB := n2_
     clear n0_ n1_ n2_
     refine start_ (n := 20) (S := fun w' => w'.cell? ⟨gb270, 0, none⟩ = some (.int .i64 a0_0) ∧ w'.cell? ⟨gb270, 1, none⟩ = some (.int .i64 a0_1) ∧ w'.cell? ⟨gb270, 2, none⟩ = some (.int .i64 a0_2) ∧ w'.cell? ⟨gb270, 3, none⟩ = some (.int .i64 a0_3) ∧ w'.cell? ⟨gb270, 4, none⟩ = some (.int .i64 a0_4) ∧ w'.cell? ⟨gb270, 5, none⟩ = some (.int .i64 a0_5)) (ds := []) #[false, false, false, false, false, false, false, false, false, false, false, false, false, false, false, false, false, false, false, false] (by kernel_rfl) rfl rfl ⟨(blk_cell BK270.out 0).trans rfl, (blk_cell BK270.out 1).trans rfl, (blk_cell BK270.out 2).trans rfl, (blk_cell BK270.out 3).trans rfl, (blk_cell BK270.out 4).trans rfl, (blk_cell BK270.out 5).trans rfl⟩ (fun hHeld => ?_); refine with_tabW spec_PrefixHas.tab3 spec_PrefixHas.bits3 (fun HT_ HW_ => ?_)
     generalize wc.drew = w20 at BK270 BK271 HB hHeld ⊢
     refine take_ (i := 0) (N := some 13) (v := ?_) (a' := ?_) #[true, false, false, false, false, false, false, false, false, false, false, false, false, false, false, false, false, false, false, false] rfl rfl (take_ofW HT_.out HW_.out (by kernel_rfl)) (fun _ _ _ h => h) (Or.inl ⟨by rfl, ?_⟩) hHeld ?_ ?_
     rotate_left
     ·rintro w' ⟨s0, s1, s2, s3, s4, s5⟩
      go_simp
      with_reducible rfl
     rotate_left
     ·simp only [Act.put, List.setIfInBounds_toArray, List.set_cons_zero, List.set_cons_succ, i64_w, i32_w]
      rfl
     refine one_ (i := 1) (N := some 14) #[true, true, false, false, false, false, false, false, false, false, false, false, false, false, false, false, false, false, false, false] rfl rfl (one_of HT_.out (by kernel_rfl)) (by decide) (fun K hK => ?_)
     refine goes_ Try.func60 (by kernel_rfl) rfl #[.agg #[.int .i64 a0_0, .int .i64 a0_1, .int .i64 a0_2, .int .i64 a0_3, .int .i64 a0_4, .int .i64 a0_5]] (by rfl) rfl rfl Gv.lm ?_
     with_reducible refine (spec_l03Any.calls a0_0 a0_1 a0_2 a0_3 a0_4 a0_5 true _ A18.out).mono ?_
     rintro e w21 ⟨rfl, hb⟩
     refine ⟨_, rfl, ?_⟩
     have n0_ := Gv.a0 (Gv.bb BK270.out hb)
     have n1_ := Gv.a0 (Gv.bb BK271.out hb)
     have n2_ := Gv.a0 (below_step Gv.bw hb)
     clear BK270
     clear BK271
     clear HB
     have BK270 := n0_
     have BK271 := n1_
     have HB := n2_
     clear n0_ n1_ n2_
     (try clear hb)
     (try clear hb2)
     (try clear hk)
     (try clear hi)
     refine hK.out _ _ ⟨(blk_cell BK270.out 0).trans rfl, (blk_cell BK270.out 1).trans rfl, (blk_cell BK270.out 2).trans rfl, (blk_cell BK270.out 3).trans rfl, (blk_cell BK270.out 4).trans rfl, (blk_cell BK270.out 5).trans rfl⟩ (fun hHeld => ?_)
     clear hK K
     refine norm_ (a' := ?_) ?_ ?_
     rotate_left
     ·show Act.put _ (some 14) _ = _
      simp only [Act.put, List.setIfInBounds_toArray, List.set_cons_zero, List.set_cons_succ, i64_w, i32_w]
      rfl
     refine Gv.pu 2 (some 15) HT_ ?_
     refine Gv.pn 3 (some 16) HT_ ?_
     refine Gv.pn 4 (some 17) HT_ ?_
     refine Gv.pn 5 (some 18) HT_ ?_
     refine Gv.pn 6 (some 19) HT_ ?_
     refine Gv.pn 7 (some 20) HT_ ?_
     refine Gv.pn 8 (some 21) HT_ ?_
     refine Gv.pn 9 (some 22) HT_ ?_
     refine Gv.pn 10 (some 23) HT_ ?_
     refine Gv.pn 11 (some 24) HT_ ?_
     refine Gv.pn 12 (some 25) HT_ ?_
     refine Gv.pn 13 (some 26) HT_ ?_
     refine Gv.pn 14 (some 27) HT_ ?_
     refine Gv.pn 15 (some 28) HT_ ?_
     refine Gv.pn 16 (some 29) HT_ ?_
     refine Gv.pn 17 (some 30) HT_ ?_
     refine Gv.pu 18 (some 31) HT_ ?_
     refine Gv.pu 19 (some 4) HT_ ?_
     refine done_ (done_of HT_.out (by kernel_rfl)) ?_
     try go_wp2
     go_ret
     exact ⟨Gv.rt, Gv.bw⟩
    ·replace c19 := Bool.eq_false_iff.mpr c19
     subst c19
     have H1 : (if a0_0 = a1_0 then ((spec_Cut.f kj2 a1_0 a1_1 a1_2 a1_3 a1_4 a0_5).bind fun bt275 => (some (bt275.1 == a0_0 && (bt275.2.1 == a0_1 && (bt275.2.2.1 == a0_2 && (bt275.2.2.2.1 == a0_3 && (bt275.2.2.2.2 == a0_4))))))) else (some false)) = some r := by rw [if_neg (show ¬ (false = true) by decide)] at H; exact H
     clear H
     have H := H1
     clear H1
     by_cases c22 : a0_0 = a1_0
     ·rw [if_pos c22] at H
      have c22b0 : (a0_0 == a1_0) = true := beq_iff_eq.mpr c22
      have c22b1 : (a0_0 != a1_0) = false := bne_eq_false_iff_eq.mpr c22
      clear c22
      replace H := Option.bind_eq_some_iff.mp H
      obtain ⟨⟨t275, t276, t277, t278, t279⟩, A230, H⟩ := H
      replace H : (some (t275 == a0_0 && (t276 == a0_1 && (t277 == a0_2 && (t278 == a0_3 && (t279 == a0_4)))))) = some r := H
      have A23 := Gv.a0 A230
      clear A230
      obtain rfl := Option.some.inj H
      try go_wp2
      have n0_ := Gv.a0 (blk_drew BK270.out)
      have n1_ := Gv.a0 (blk_drew BK271.out)
      have n2_ := Gv.a0 (below_drew1 HB.out)
      clear BK270
      clear BK271
      clear HB
      have BK270 := n0_
      have BK271 := n1_
      have HB := n2_
      clear n0_ n1_ n2_
      refine start_ (n := 20) (S := fun w' => w'.cell? ⟨gb270, 0, none⟩ = some (.int .i64 a0_0) ∧ w'.cell? ⟨gb270, 1, none⟩ = some (.int .i64 a0_1) ∧ w'.cell? ⟨gb270, 2, none⟩ = some (.int .i64 a0_2) ∧ w'.cell? ⟨gb270, 3, none⟩ = some (.int .i64 a0_3) ∧ w'.cell? ⟨gb270, 4, none⟩ = some (.int .i64 a0_4) ∧ w'.cell? ⟨gb270, 5, none⟩ = some (.int .i64 a0_5) ∧ w'.cell? ⟨gb271, 0, none⟩ = some (.int .i64 a1_0) ∧ w'.cell? ⟨gb271, 1, none⟩ = some (.int .i64 a1_1) ∧ w'.cell? ⟨gb271, 2, none⟩ = some (.int .i64 a1_2) ∧ w'.cell? ⟨gb271, 3, none⟩ = some (.int .i64 a1_3) ∧ w'.cell? ⟨gb271, 4, none⟩ = some (.int .i64 a1_4)) (ds := []) #[false, false, false, false, false, false, false, false, false, false, false, false, false, false, false, false, false, false, false, false] (by kernel_rfl) rfl rfl ⟨(blk_cell BK270.out 0).trans rfl, (blk_cell BK270.out 1).trans rfl, (blk_cell BK270.out 2).trans rfl, (blk_cell BK270.out 3).trans rfl, (blk_cell BK270.out 4).trans rfl, (blk_cell BK270.out 5).trans rfl, (blk_cell BK271.out 0).trans rfl, (blk_cell BK271.out 1).trans rfl, (blk_cell BK271.out 2).trans rfl, (blk_cell BK271.out 3).trans rfl, (blk_cell BK271.out 4).trans rfl⟩ (fun hHeld => ?_); refine with_tabW spec_PrefixHas.tab3 spec_PrefixHas.bits3 (fun HT_ HW_ => ?_)
      generalize wc.drew = w24 at BK270 BK271 HB hHeld ⊢
      refine take_ (i := 0) (N := some 13) (v := ?_) (a' := ?_) #[true, false, false, false, false, false, false, false, false, false, false, false, false, false, false, false, false, false, false, false] rfl rfl (take_ofW HT_.out HW_.out (by kernel_rfl)) (fun _ _ _ h => h) (Or.inl ⟨by rfl, ?_⟩) hHeld ?_ ?_
      rotate_left
      ·rintro w' ⟨s0, s1, s2, s3, s4, s5, s6, s7, s8, s9, s10⟩
       go_simp
       with_reducible rfl
      rotate_left
      ·simp only [Act.put, List.setIfInBounds_toArray, List.set_cons_zero, List.set_cons_succ, i64_w, i32_w]
       rfl
      refine one_ (i := 1) (N := some 14) #[true, true, false, false, false, false, false, false, false, false, false, false, false, false, false, false, false, false, false, false] rfl rfl (one_of HT_.out (by kernel_rfl)) (by decide) (fun K hK => ?_)
      refine goes_ Try.func60 (by kernel_rfl) rfl #[.agg #[.int .i64 a0_0, .int .i64 a0_1, .int .i64 a0_2, .int .i64 a0_3, .int .i64 a0_4, .int .i64 a0_5]] (by rfl) rfl rfl Gv.lm ?_
      with_reducible refine (spec_l03Any.calls a0_0 a0_1 a0_2 a0_3 a0_4 a0_5 false _ A18.out).mono ?_
      rintro e w25 ⟨rfl, hb⟩
      refine ⟨_, rfl, ?_⟩
      have n0_ := Gv.a0 (Gv.bb BK270.out hb)
      have n1_ := Gv.a0 (Gv.bb BK271.out hb)
      have n2_ := Gv.a0 (below_step Gv.bw hb)
      clear BK270
      clear BK271
      clear HB
      have BK270 := n0_
      have BK271 := n1_
      have HB := n2_
      clear n0_ n1_ n2_
      (try clear hb)
      (try clear hb2)
      (try clear hk)
      (try clear hi)
      refine hK.out _ _ ⟨(blk_cell BK270.out 0).trans rfl, (blk_cell BK270.out 1).trans rfl, (blk_cell BK270.out 2).trans rfl, (blk_cell BK270.out 3).trans rfl, (blk_cell BK270.out 4).trans rfl, (blk_cell BK270.out 5).trans rfl, (blk_cell BK271.out 0).trans rfl, (blk_cell BK271.out 1).trans rfl, (blk_cell BK271.out 2).trans rfl, (blk_cell BK271.out 3).trans rfl, (blk_cell BK271.out 4).trans rfl⟩ (fun hHeld => ?_)
      clear hK K
      refine norm_ (a' := ?_) ?_ ?_
      rotate_left
      ·show Act.put _ (some 14) _ = _
       simp only [Act.put, List.setIfInBounds_toArray, List.set_cons_zero, List.set_cons_succ, i64_w, i32_w]
       rfl
      refine Gv.pu 2 (some 15) HT_ ?_
      refine Gv.pu 3 (some 16) HT_ ?_
      refine Gv.pu 4 (some 17) HT_ ?_
      refine Gv.pu 6 (some 19) HT_ ?_
      refine take_ (i := 5) (N := some 18) (v := ?_) (a' := ?_) #[true, true, true, true, true, true, true, false, false, false, false, false, false, false, false, false, false, false, false, false] rfl rfl (take_ofW HT_.out HW_.out (by kernel_rfl)) (fun _ _ _ h => h) (Or.inl ⟨by rfl, ?_⟩) hHeld ?_ ?_
      rotate_left
      ·rintro w' ⟨s0, s1, s2, s3, s4, s5, s6, s7, s8, s9, s10⟩
       go_simp
       with_reducible rfl
      rotate_left
      ·simp only [Act.put, List.setIfInBounds_toArray, List.set_cons_zero, List.set_cons_succ, i64_w, i32_w]
       rfl
      refine take_ (i := 7) (N := some 20) (v := ?_) (a' := ?_) #[true, true, true, true, true, true, true, true, false, false, false, false, false, false, false, false, false, false, false, false] rfl rfl (take_ofW HT_.out HW_.out (by kernel_rfl)) (fun _ _ _ h => h) (Or.inl ⟨by rfl, ?_⟩) hHeld ?_ ?_
      rotate_left
      ·rintro w' ⟨s0, s1, s2, s3, s4, s5, s6, s7, s8, s9, s10⟩
       go_simp
       with_reducible rfl
      rotate_left
      ·simp only [Act.put, List.setIfInBounds_toArray, List.set_cons_zero, List.set_cons_succ, i64_w, i32_w]
       rfl
      refine Gv.pu 8 (some 21) HT_ ?_
      refine Gv.pu 9 (some 22) HT_ ?_
      refine Gv.pu 11 (some 24) HT_ ?_
      refine Gv.pu 14 (some 27) HT_ ?_
      refine take_ (i := 10) (N := some 23) (v := ?_) (a' := ?_) #[true, true, true, true, true, true, true, true, true, true, true, true, false, false, true, false, false, false, false, false] rfl rfl (take_ofW HT_.out HW_.out (by kernel_rfl)) (fun _ _ _ h => h) (Or.inl ⟨by rfl, ?_⟩) hHeld ?_ ?_
      rotate_left
      ·rintro w' ⟨s0, s1, s2, s3, s4, s5, s6, s7, s8, s9, s10⟩
       go_simp
       with_reducible rfl
      rotate_left
      ·simp only [Act.put, List.setIfInBounds_toArray, List.set_cons_zero, List.set_cons_succ, i64_w, i32_w]
       rfl
      refine take_ (i := 12) (N := some 25) (v := ?_) (a' := ?_) #[true, true, true, true, true, true, true, true, true, true, true, true, true, false, true, false, false, false, false, false] rfl rfl (take_ofW HT_.out HW_.out (by kernel_rfl)) (fun _ _ _ h => h) (Or.inl ⟨by rfl, ?_⟩) hHeld ?_ ?_
      rotate_left
      ·rintro w' ⟨s0, s1, s2, s3, s4, s5, s6, s7, s8, s9, s10⟩
       go_simp
       with_reducible rfl
      rotate_left
      ·simp only [Act.put, List.setIfInBounds_toArray, List.set_cons_zero, List.set_cons_succ, i64_w, i32_w]
       rfl
      refine take_ (i := 15) (N := some 28) (v := ?_) (a' := ?_) #[true, true, true, true, true, true, true, true, true, true, true, true, true, false, true, true, false, false, false, false] rfl rfl (take_ofW HT_.out HW_.out (by kernel_rfl)) (fun _ _ _ h => h) (Or.inl ⟨by rfl, ?_⟩) hHeld ?_ ?_
      rotate_left
      ·rintro w' ⟨s0, s1, s2, s3, s4, s5, s6, s7, s8, s9, s10⟩
       go_simp
       with_reducible rfl
      rotate_left
      ·simp only [Act.put, List.setIfInBounds_toArray, List.set_cons_zero, List.set_cons_succ, i64_w, i32_w]
       rfl
      refine one_ (i := 13) (N := some 26) #[true, true, true, true, true, true, true, true, true, true, true, true, true, true, true, true, false, false, false, false] rfl rfl (one_of HT_.out (by kernel_rfl)) (by decide) (fun K hK => ?_)
      refine goes_ Try.func63 (by kernel_rfl) rfl #[.agg #[.int .i64 a1_0, .int .i64 a1_1, .int .i64 a1_2, .int .i64 a1_3, .int .i64 a1_4], .int .i64 a0_5] (by rfl) rfl rfl Gv.lm ?_
      with_reducible refine (spec_Cut.calls kj2 a1_0 a1_1 a1_2 a1_3 a1_4 a0_5 t275 t276 t277 t278 t279 _ A23.out).mono ?_
      rintro e w26 ⟨rfl, hb⟩
      refine ⟨_, rfl, ?_⟩
      have n0_ := Gv.a0 (Gv.bb BK270.out hb)
      have n1_ := Gv.a0 (Gv.bb BK271.out hb)
      have n2_ := Gv.a0 (below_step Gv.bw hb)
      clear BK270
      clear BK271
      clear HB
      have BK270 := n0_
      have BK271 := n1_
      have HB := n2_
      clear n0_ n1_ n2_
      (try clear hb)
      (try clear hb2)
      (try clear hk)
      (try clear hi)
      refine hK.out _ _ ⟨(blk_cell BK270.out 0).trans rfl, (blk_cell BK270.out 1).trans rfl, (blk_cell BK270.out 2).trans rfl, (blk_cell BK270.out 3).trans rfl, (blk_cell BK270.out 4).trans rfl, (blk_cell BK270.out 5).trans rfl, (blk_cell BK271.out 0).trans rfl, (blk_cell BK271.out 1).trans rfl, (blk_cell BK271.out 2).trans rfl, (blk_cell BK271.out 3).trans rfl, (blk_cell BK271.out 4).trans rfl⟩ (fun hHeld => ?_)
      clear hK K
      refine norm_ (a' := ?_) ?_ ?_
      rotate_left
      ·show Act.put _ (some 26) _ = _
       simp only [Act.put, List.setIfInBounds_toArray, List.set_cons_zero, List.set_cons_succ, i64_w, i32_w]
       rfl
      refine Gv.pu 16 (some 29) HT_ ?_
      refine Gv.pu 17 (some 30) HT_ ?_
      refine Gv.pu 18 (some 31) HT_ ?_
      refine Gv.pu 19 (some 4) HT_ ?_
      refine done_ (done_of HT_.out (by kernel_rfl)) ?_
      try go_wp2
      go_ret
      exact ⟨Gv.rt, Gv.bw⟩
     ·rw [if_neg c22] at H
      have c22b0 : (a0_0 == a1_0) = false := beq_eq_false_iff_ne.mpr c22
      have c22b1 : (a0_0 != a1_0) = true := bne_iff_ne.mpr c22
      obtain rfl := Option.some.inj H
      try go_wp2
      have n0_ := Gv.a0 (blk_drew BK270.out)
      have n1_ := Gv.a0 (blk_drew BK271.out)
      have n2_ := Gv.a0 (below_drew1 HB.out)
      clear BK270
      clear BK271
      clear HB
      have BK270 := n0_
      have BK271 := n1_
      have HB := n2_
      clear n0_ n1_ n2_
      refine start_ (n := 20) (S := fun w' => w'.cell? ⟨gb270, 0, none⟩ = some (.int .i64 a0_0) ∧ w'.cell? ⟨gb270, 1, none⟩ = some (.int .i64 a0_1) ∧ w'.cell? ⟨gb270, 2, none⟩ = some (.int .i64 a0_2) ∧ w'.cell? ⟨gb270, 3, none⟩ = some (.int .i64 a0_3) ∧ w'.cell? ⟨gb270, 4, none⟩ = some (.int .i64 a0_4) ∧ w'.cell? ⟨gb270, 5, none⟩ = some (.int .i64 a0_5) ∧ w'.cell? ⟨gb271, 0, none⟩ = some (.int .i64 a1_0) ∧ w'.cell? ⟨gb271, 1, none⟩ = some (.int .i64 a1_1) ∧ w'.cell? ⟨gb271, 2, none⟩ = some (.int .i64 a1_2) ∧ w'.cell? ⟨gb271, 3, none⟩ = some (.int .i64 a1_3) ∧ w'.cell? ⟨gb271, 4, none⟩ = some (.int .i64 a1_4)) (ds := []) #[false, false, false, false, false, false, false, false, false, false, false, false, false, false, false, false, false, false, false, false] (by kernel_rfl) rfl rfl ⟨(blk_cell BK270.out 0).trans rfl, (blk_cell BK270.out 1).trans rfl, (blk_cell BK270.out 2).trans rfl, (blk_cell BK270.out 3).trans rfl, (blk_cell BK270.out 4).trans rfl, (blk_cell BK270.out 5).trans rfl, (blk_cell BK271.out 0).trans rfl, (blk_cell BK271.out 1).trans rfl, (blk_cell BK271.out 2).trans rfl, (blk_cell BK271.out 3).trans rfl, (blk_cell BK271.out 4).trans rfl⟩ (fun hHeld => ?_); refine with_tabW spec_PrefixHas.tab3 spec_PrefixHas.bits3 (fun HT_ HW_ => ?_)
      generalize wc.drew = w27 at BK270 BK271 HB hHeld ⊢
      refine take_ (i := 0) (N := some 13) (v := ?_) (a' := ?_) #[true, false, false, false, false, false, false, false, false, false, false, false, false, false, false, false, false, false, false, false] rfl rfl (take_ofW HT_.out HW_.out (by kernel_rfl)) (fun _ _ _ h => h) (Or.inl ⟨by rfl, ?_⟩) hHeld ?_ ?_
      rotate_left
      ·rintro w' ⟨s0, s1, s2, s3, s4, s5, s6, s7, s8, s9, s10⟩
       go_simp
       with_reducible rfl
      rotate_left
      ·simp only [Act.put, List.setIfInBounds_toArray, List.set_cons_zero, List.set_cons_succ, i64_w, i32_w]
       rfl
      refine one_ (i := 1) (N := some 14) #[true, true, false, false, false, false, false, false, false, false, false, false, false, false, false, false, false, false, false, false] rfl rfl (one_of HT_.out (by kernel_rfl)) (by decide) (fun K hK => ?_)
      refine goes_ Try.func60 (by kernel_rfl) rfl #[.agg #[.int .i64 a0_0, .int .i64 a0_1, .int .i64 a0_2, .int .i64 a0_3, .int .i64 a0_4, .int .i64 a0_5]] (by rfl) rfl rfl Gv.lm ?_
      with_reducible refine (spec_l03Any.calls a0_0 a0_1 a0_2 a0_3 a0_4 a0_5 false _ A18.out).mono ?_
      rintro e w28 ⟨rfl, hb⟩
      refine ⟨_, rfl, ?_⟩
      have n0_ := Gv.a0 (Gv.bb BK270.out hb)
      have n1_ := Gv.a0 (Gv.bb BK271.out hb)
      have n2_ := Gv.a0 (below_step Gv.bw hb)
      clear BK270
      clear BK271
      clear HB
      have BK270 := n0_
      have BK271 := n1_
      have HB := n2_
      clear n0_ n1_ n2_
      (try clear hb)
      (try clear hb2)
      (try clear hk)
      (try clear hi)
      refine hK.out _ _ ⟨(blk_cell BK270.out 0).trans rfl, (blk_cell BK270.out 1).trans rfl, (blk_cell BK270.out 2).trans rfl, (blk_cell BK270.out 3).trans rfl, (blk_cell BK270.out 4).trans rfl, (blk_cell BK270.out 5).trans rfl, (blk_cell BK271.out 0).trans rfl, (blk_cell BK271.out 1).trans rfl, (blk_cell BK271.out 2).trans rfl, (blk_cell BK271.out 3).trans rfl, (blk_cell BK271.out 4).trans rfl⟩ (fun hHeld => ?_)
      clear hK K
      refine norm_ (a' := ?_) ?_ ?_
      rotate_left
      ·show Act.put _ (some 14) _ = _
       simp only [Act.put, List.setIfInBounds_toArray, List.set_cons_zero, List.set_cons_succ, i64_w, i32_w]
       rfl
      refine Gv.pu 2 (some 15) HT_ ?_
      refine Gv.pu 3 (some 16) HT_ ?_
      refine Gv.pu 4 (some 17) HT_ ?_
      refine Gv.pu 6 (some 19) HT_ ?_
      refine take_ (i := 5) (N := some 18) (v := ?_) (a' := ?_) #[true, true, true, true, true, true, true, false, false, false, false, false, false, false, false, false, false, false, false, false] rfl rfl (take_ofW HT_.out HW_.out (by kernel_rfl)) (fun _ _ _ h => h) (Or.inl ⟨by rfl, ?_⟩) hHeld ?_ ?_
      rotate_left
      ·rintro w' ⟨s0, s1, s2, s3, s4, s5, s6, s7, s8, s9, s10⟩
       go_simp
       with_reducible rfl
      rotate_left
      ·simp only [Act.put, List.setIfInBounds_toArray, List.set_cons_zero, List.set_cons_succ, i64_w, i32_w]
       rfl
      refine take_ (i := 7) (N := some 20) (v := ?_) (a' := ?_) #[true, true, true, true, true, true, true, true, false, false, false, false, false, false, false, false, false, false, false, false] rfl rfl (take_ofW HT_.out HW_.out (by kernel_rfl)) (fun _ _ _ h => h) (Or.inl ⟨by rfl, ?_⟩) hHeld ?_ ?_
      rotate_left
      ·rintro w' ⟨s0, s1, s2, s3, s4, s5, s6, s7, s8, s9, s10⟩
       go_simp
       with_reducible rfl
      rotate_left
      ·simp only [Act.put, List.setIfInBounds_toArray, List.set_cons_zero, List.set_cons_succ, i64_w, i32_w]
       rfl
      refine Gv.pu 8 (some 21) HT_ ?_
      refine Gv.pu 9 (some 22) HT_ ?_
      refine Gv.pn 10 (some 23) HT_ ?_
      refine Gv.pn 11 (some 24) HT_ ?_
      refine Gv.pn 12 (some 25) HT_ ?_
      refine Gv.pn 13 (some 26) HT_ ?_
      refine Gv.pn 14 (some 27) HT_ ?_
      refine Gv.pn 15 (some 28) HT_ ?_
      refine Gv.pn 16 (some 29) HT_ ?_
      refine Gv.pu 17 (some 30) HT_ ?_
      refine Gv.pu 18 (some 31) HT_ ?_
      refine Gv.pu 19 (some 4) HT_ ?_
      refine done_ (done_of HT_.out (by kernel_rfl)) ?_
      try go_wp2
      go_ret
      exact ⟨Gv.rt, Gv.bw⟩

/-! ### spec_RuleHas: function 31 -/
def spec_RuleHas.j0 : Nat → Bool → Int → Int → Int → Int → Int → Int → Int → Int → Int → Int → Int → Int → Int → Int → Int → Int → Int → Int → Int → Int → Int → Int → Int → Int → Int → Int → Int → Int → Int → Int → Int → Int → Int → Int → Option (Bool)
 | 0, _, _, _, _, _, _, _, _, _, _, _, _, _, _, _, _, _, _, _, _, _, _, _, _, _, _, _, _, _, _, _, _, _, _, _ => none
 | k + 1, x28, x281000, x281001, x281002, x281003, x281004, x281005, x281006, x281007, x281008, x281009, x281010, x281011, x281012, x281013, x281014, x281015, x281016, x281017, x281018, x281019, x281020, x282000, x282001, x282002, x282003, x282004, x282005, x282006, x282007, x282008, x282009, x282010, x282011, x282012 => if x28 = true then (some false) else (if x281013 = (-1) then (if x282011 ≥ x281014 then (if x282011 ≤ x281015 then (if x282012 ≥ x281016 then (some (decide (x282012 ≤ x281017))) else (some false)) else (some false)) else (some false)) else (if x281013 = x282010 then (if x282011 ≥ x281014 then (if x282011 ≤ x281015 then (if x282012 ≥ x281016 then (some (decide (x282012 ≤ x281017))) else (some false)) else (some false)) else (some false)) else (some false)))
def spec_RuleHas.f (k : Nat) (a0_0 : Int) (a0_1 : Int) (a0_2 : Int) (a0_3 : Int) (a0_4 : Int) (a0_5 : Int) (a0_6 : Int) (a0_7 : Int) (a0_8 : Int) (a0_9 : Int) (a0_10 : Int) (a0_11 : Int) (a0_12 : Int) (a0_13 : Int) (a0_14 : Int) (a0_15 : Int) (a0_16 : Int) (a0_17 : Int) (a0_18 : Int) (a0_19 : Int) (a0_20 : Int) (a1_0 : Int) (a1_1 : Int) (a1_2 : Int) (a1_3 : Int) (a1_4 : Int) (a1_5 : Int) (a1_6 : Int) (a1_7 : Int) (a1_8 : Int) (a1_9 : Int) (a1_10 : Int) (a1_11 : Int) (a1_12 : Int) : Option (Bool) := (spec_RuleOk.f k a0_0 a0_1 a0_2 a0_3 a0_4 a0_5 a0_6 a0_7 a0_8 a0_9 a0_10 a0_11 a0_12 a0_13 a0_14 a0_15 a0_16 a0_17 a0_18 a0_19 a0_20).bind fun t282 => (if t282 = true then ((spec_KeyOk.f a1_0 a1_1 a1_2 a1_3 a1_4 a1_5 a1_6 a1_7 a1_8 a1_9 a1_10 a1_11 a1_12).bind fun t283 => (if t283 = true then ((spec_PrefixHas.f k a0_1 a0_2 a0_3 a0_4 a0_5 a0_6 a1_0 a1_1 a1_2 a1_3 a1_4).bind fun t284 => (if t284 = true then ((spec_PrefixHas.f k a0_7 a0_8 a0_9 a0_10 a0_11 a0_12 a1_5 a1_6 a1_7 a1_8 a1_9).bind fun t285 => (spec_RuleHas.j0 k (!t285) a0_0 a0_1 a0_2 a0_3 a0_4 a0_5 a0_6 a0_7 a0_8 a0_9 a0_10 a0_11 a0_12 a0_13 a0_14 a0_15 a0_16 a0_17 a0_18 a0_19 a0_20 a1_0 a1_1 a1_2 a1_3 a1_4 a1_5 a1_6 a1_7 a1_8 a1_9 a1_10 a1_11 a1_12)) else (spec_RuleHas.j0 k true a0_0 a0_1 a0_2 a0_3 a0_4 a0_5 a0_6 a0_7 a0_8 a0_9 a0_10 a0_11 a0_12 a0_13 a0_14 a0_15 a0_16 a0_17 a0_18 a0_19 a0_20 a1_0 a1_1 a1_2 a1_3 a1_4 a1_5 a1_6 a1_7 a1_8 a1_9 a1_10 a1_11 a1_12))) else (spec_RuleHas.j0 k true a0_0 a0_1 a0_2 a0_3 a0_4 a0_5 a0_6 a0_7 a0_8 a0_9 a0_10 a0_11 a0_12 a0_13 a0_14 a0_15 a0_16 a0_17 a0_18 a0_19 a0_20 a1_0 a1_1 a1_2 a1_3 a1_4 a1_5 a1_6 a1_7 a1_8 a1_9 a1_10 a1_11 a1_12))) else (spec_RuleHas.j0 k true a0_0 a0_1 a0_2 a0_3 a0_4 a0_5 a0_6 a0_7 a0_8 a0_9 a0_10 a0_11 a0_12 a0_13 a0_14 a0_15 a0_16 a0_17 a0_18 a0_19 a0_20 a1_0 a1_1 a1_2 a1_3 a1_4 a1_5 a1_6 a1_7 a1_8 a1_9 a1_10 a1_11 a1_12))
theorem spec_RuleHas.mono_l : ∀ k, (∀ y0 y1 y2 y3 y4 y5 y6 y7 y8 y9 y10 y11 y12 y13 y14 y15 y16 y17 y18 y19 y20 y21 y22 y23 y24 y25 y26 y27 y28 y29 y30 y31 y32 y33 y34, LeO (spec_RuleHas.j0 k y0 y1 y2 y3 y4 y5 y6 y7 y8 y9 y10 y11 y12 y13 y14 y15 y16 y17 y18 y19 y20 y21 y22 y23 y24 y25 y26 y27 y28 y29 y30 y31 y32 y33 y34) (spec_RuleHas.j0 (k + 1) y0 y1 y2 y3 y4 y5 y6 y7 y8 y9 y10 y11 y12 y13 y14 y15 y16 y17 y18 y19 y20 y21 y22 y23 y24 y25 y26 y27 y28 y29 y30 y31 y32 y33 y34))
 | 0 => fun _ _ _ _ _ _ _ _ _ _ _ _ _ _ _ _ _ _ _ _ _ _ _ _ _ _ _ _ _ _ _ _ _ _ _ r h => by simp [spec_RuleHas.j0] at h
 | k + 1 => by
  have ih0 := spec_RuleHas.mono_l k
  ·intro y0 y1 y2 y3 y4 y5 y6 y7 y8 y9 y10 y11 y12 y13 y14 y15 y16 y17 y18 y19 y20 y21 y22 y23 y24 y25 y26 y27 y28 y29 y30 y31 y32 y33 y34
   unfold spec_RuleHas.j0
   repeat' first
   | (with_reducible exact ih0 _ _ _ _ _ _ _ _ _ _ _ _ _ _ _ _ _ _ _ _ _ _ _ _ _ _ _ _ _ _ _ _ _ _ _)
   | (with_reducible exact spec_PrefixHas.mono _ _ _ _ _ _ _ _ _ _ _ _)
   | (with_reducible exact spec_RuleOk.mono _ _ _ _ _ _ _ _ _ _ _ _ _ _ _ _ _ _ _ _ _ _)
   | (with_reducible exact LeO.refl _)
   | (with_reducible exact LeO.none _)
   | (with_reducible refine LeO.ite ?_ ?_)
   | (with_reducible refine LeO.bind ?_ (fun _ => ?_))
   | exact ih0 _ _ _ _ _ _ _ _ _ _ _ _ _ _ _ _ _ _ _ _ _ _ _ _ _ _ _ _ _ _ _ _ _ _ _
   | exact spec_PrefixHas.mono _ _ _ _ _ _ _ _ _ _ _ _
   | exact spec_RuleOk.mono _ _ _ _ _ _ _ _ _ _ _ _ _ _ _ _ _ _ _ _ _ _
   | exact LeO.none _
   | refine LeO.ite ?_ ?_
   | refine LeO.bind ?_ (fun _ => ?_)
theorem spec_RuleHas.mono : ∀ a0 a1 a2 a3 a4 a5 a6 a7 a8 a9 a10 a11 a12 a13 a14 a15 a16 a17 a18 a19 a20 a21 a22 a23 a24 a25 a26 a27 a28 a29 a30 a31 a32 a33 k, LeO (spec_RuleHas.f k a0 a1 a2 a3 a4 a5 a6 a7 a8 a9 a10 a11 a12 a13 a14 a15 a16 a17 a18 a19 a20 a21 a22 a23 a24 a25 a26 a27 a28 a29 a30 a31 a32 a33) (spec_RuleHas.f (k + 1) a0 a1 a2 a3 a4 a5 a6 a7 a8 a9 a10 a11 a12 a13 a14 a15 a16 a17 a18 a19 a20 a21 a22 a23 a24 a25 a26 a27 a28 a29 a30 a31 a32 a33) := by
 intro a0 a1 a2 a3 a4 a5 a6 a7 a8 a9 a10 a11 a12 a13 a14 a15 a16 a17 a18 a19 a20 a21 a22 a23 a24 a25 a26 a27 a28 a29 a30 a31 a32 a33 k
 have ih0 := spec_RuleHas.mono_l k
 unfold spec_RuleHas.f
 repeat' first
   | (with_reducible exact ih0 _ _ _ _ _ _ _ _ _ _ _ _ _ _ _ _ _ _ _ _ _ _ _ _ _ _ _ _ _ _ _ _ _ _ _)
   | (with_reducible exact spec_PrefixHas.mono _ _ _ _ _ _ _ _ _ _ _ _)
   | (with_reducible exact spec_RuleOk.mono _ _ _ _ _ _ _ _ _ _ _ _ _ _ _ _ _ _ _ _ _ _)
   | (with_reducible exact LeO.refl _)
   | (with_reducible exact LeO.none _)
   | (with_reducible refine LeO.ite ?_ ?_)
   | (with_reducible refine LeO.bind ?_ (fun _ => ?_))
   | exact ih0 _ _ _ _ _ _ _ _ _ _ _ _ _ _ _ _ _ _ _ _ _ _ _ _ _ _ _ _ _ _ _ _ _ _ _
   | exact spec_PrefixHas.mono _ _ _ _ _ _ _ _ _ _ _ _
   | exact spec_RuleOk.mono _ _ _ _ _ _ _ _ _ _ _ _ _ _ _ _ _ _ _ _ _ _
   | exact LeO.none _
   | refine LeO.ite ?_ ?_
   | refine LeO.bind ?_ (fun _ => ?_)
set_option maxHeartbeats 8000000 in
set_option maxRecDepth 100000 in
theorem spec_RuleHas.calls (k : Nat) (a0_0 : Int) (a0_1 : Int) (a0_2 : Int) (a0_3 : Int) (a0_4 : Int) (a0_5 : Int) (a0_6 : Int) (a0_7 : Int) (a0_8 : Int) (a0_9 : Int) (a0_10 : Int) (a0_11 : Int) (a0_12 : Int) (a0_13 : Int) (a0_14 : Int) (a0_15 : Int) (a0_16 : Int) (a0_17 : Int) (a0_18 : Int) (a0_19 : Int) (a0_20 : Int) (a1_0 : Int) (a1_1 : Int) (a1_2 : Int) (a1_3 : Int) (a1_4 : Int) (a1_5 : Int) (a1_6 : Int) (a1_7 : Int) (a1_8 : Int) (a1_9 : Int) (a1_10 : Int) (a1_11 : Int) (a1_12 : Int) (r : Bool) (w : World) (h : spec_RuleHas.f k a0_0 a0_1 a0_2 a0_3 a0_4 a0_5 a0_6 a0_7 a0_8 a0_9 a0_10 a0_11 a0_12 a0_13 a0_14 a0_15 a0_16 a0_17 a0_18 a0_19 a0_20 a1_0 a1_1 a1_2 a1_3 a1_4 a1_5 a1_6 a1_7 a1_8 a1_9 a1_10 a1_11 a1_12 = some r) :
  Calls Try.prog 31 #[.agg #[.int .i64 a0_0, .int .i64 a0_1, .int .i64 a0_2, .int .i64 a0_3, .int .i64 a0_4, .int .i64 a0_5, .int .i64 a0_6, .int .i64 a0_7, .int .i64 a0_8, .int .i64 a0_9, .int .i64 a0_10, .int .i64 a0_11, .int .i64 a0_12, .int .i64 a0_13, .int .i64 a0_14, .int .i64 a0_15, .int .i64 a0_16, .int .i64 a0_17, .int .i64 a0_18, .int .i64 a0_19, .int .i64 a0_20], .agg #[.int .i64 a1_0, .int .i64 a1_1, .int .i64 a1_2, .int .i64 a1_3, .int .i64 a1_4, .int .i64 a1_5, .int .i64 a1_6, .int .i64 a1_7, .int .i64 a1_8, .int .i64 a1_9, .int .i64 a1_10, .int .i64 a1_11, .int .i64 a1_12]] w fun e w' => e = .returned (.bool r) ∧ Below w.heap.size w w' := by
 have hu55 := Try.underlying55
 have hu36 := Try.underlying36
 have hu53 := Try.underlying53
 have hu34 := Try.underlying34
 have HB := Gv.a0 (Below.refl w.heap.size w)
 have H : ((spec_RuleOk.f k a0_0 a0_1 a0_2 a0_3 a0_4 a0_5 a0_6 a0_7 a0_8 a0_9 a0_10 a0_11 a0_12 a0_13 a0_14 a0_15 a0_16 a0_17 a0_18 a0_19 a0_20).bind fun t282 => (if t282 = true then ((spec_KeyOk.f a1_0 a1_1 a1_2 a1_3 a1_4 a1_5 a1_6 a1_7 a1_8 a1_9 a1_10 a1_11 a1_12).bind fun t283 => (if t283 = true then ((spec_PrefixHas.f k a0_1 a0_2 a0_3 a0_4 a0_5 a0_6 a1_0 a1_1 a1_2 a1_3 a1_4).bind fun t284 => (if t284 = true then ((spec_PrefixHas.f k a0_7 a0_8 a0_9 a0_10 a0_11 a0_12 a1_5 a1_6 a1_7 a1_8 a1_9).bind fun t285 => (spec_RuleHas.j0 k (!t285) a0_0 a0_1 a0_2 a0_3 a0_4 a0_5 a0_6 a0_7 a0_8 a0_9 a0_10 a0_11 a0_12 a0_13 a0_14 a0_15 a0_16 a0_17 a0_18 a0_19 a0_20 a1_0 a1_1 a1_2 a1_3 a1_4 a1_5 a1_6 a1_7 a1_8 a1_9 a1_10 a1_11 a1_12)) else (spec_RuleHas.j0 k true a0_0 a0_1 a0_2 a0_3 a0_4 a0_5 a0_6 a0_7 a0_8 a0_9 a0_10 a0_11 a0_12 a0_13 a0_14 a0_15 a0_16 a0_17 a0_18 a0_19 a0_20 a1_0 a1_1 a1_2 a1_3 a1_4 a1_5 a1_6 a1_7 a1_8 a1_9 a1_10 a1_11 a1_12))) else (spec_RuleHas.j0 k true a0_0 a0_1 a0_2 a0_3 a0_4 a0_5 a0_6 a0_7 a0_8 a0_9 a0_10 a0_11 a0_12 a0_13 a0_14 a0_15 a0_16 a0_17 a0_18 a0_19 a0_20 a1_0 a1_1 a1_2 a1_3 a1_4 a1_5 a1_6 a1_7 a1_8 a1_9 a1_10 a1_11 a1_12))) else (spec_RuleHas.j0 k true a0_0 a0_1 a0_2 a0_3 a0_4 a0_5 a0_6 a0_7 a0_8 a0_9 a0_10 a0_11 a0_12 a0_13 a0_14 a0_15 a0_16 a0_17 a0_18 a0_19 a0_20 a1_0 a1_1 a1_2 a1_3 a1_4 a1_5 a1_6 a1_7 a1_8 a1_9 a1_10 a1_11 a1_12))) = some r := h
 clear h
 have HC3 := Gv.a0 H
 clear H
 go_enter Try.func31, Try.ntmps31
 go_upto_region 1 with (first | ((with_reducible refine gate_dst (N := 2) rfl ?_); refine box_event ?hg (N := 2) ?hd (cs := #[.int .i64 a0_0, .int .i64 a0_1, .int .i64 a0_2, .int .i64 a0_3, .int .i64 a0_4, .int .i64 a0_5, .int .i64 a0_6, .int .i64 a0_7, .int .i64 a0_8, .int .i64 a0_9, .int .i64 a0_10, .int .i64 a0_11, .int .i64 a0_12, .int .i64 a0_13, .int .i64 a0_14, .int .i64 a0_15, .int .i64 a0_16, .int .i64 a0_17, .int .i64 a0_18, .int .i64 a0_19, .int .i64 a0_20]) (t := 55) ?hr ?_; (case hd => rfl); (case hg => rfl); (case hr => first | (go_simp; done) | (go_simp; rfl)); intro gb280 hg w4 hbox hb; have n0_ := Gv.a0 (below_step Gv.bw hb); have n1_ := Gv.a0 (hbox); have n2_ := Gv.a0 ((Gv.ble hg Gv.bw : w.heap.size ≤ gb280)); have n3_ := Gv.a0 ((Gv.ble hg Gv.bw : w.heap.size ≤ gb280)); clear HB; have HB := n0_; have BK280 := n1_; have GW280 := n2_; have GE280 := n3_; clear n0_ n1_ n2_ n3_; clear hb hbox hg) | ((with_reducible refine gate_store (t := 55) (p := 2) rfl ?_); refine Gv.store_event rfl rfl rfl rfl rfl (Gv.kb BK280.out) (by kernel_rfl) rfl (by simp; and_intros <;> rfl) ?_; intro w4s hbox hoth hbel; have n0_ := Gv.a0 (hbox); have n1_ := Gv.a0 (hbel w Gv.bw GE280.out); clear BK280 HB; have BK280 := n0_; have HB := n1_; clear n0_ n1_ hbox hoth hbel) | ((with_reducible refine gate_dst (N := 3) rfl ?_); refine box_event ?hg (N := 3) ?hd (cs := #[.int .i64 a1_0, .int .i64 a1_1, .int .i64 a1_2, .int .i64 a1_3, .int .i64 a1_4, .int .i64 a1_5, .int .i64 a1_6, .int .i64 a1_7, .int .i64 a1_8, .int .i64 a1_9, .int .i64 a1_10, .int .i64 a1_11, .int .i64 a1_12]) (t := 36) ?hr ?_; (case hd => rfl); (case hg => rfl); (case hr => first | (go_simp; done) | (go_simp; rfl)); intro gb281 hg w5 hbox hb; have n0_ := Gv.a0 (Gv.bb BK280.out hb); have n1_ := Gv.a0 (below_step Gv.bw hb); have n2_ := Gv.a0 (hbox); have n3_ := Gv.a0 ((Gv.ble hg Gv.bw : w.heap.size ≤ gb281)); have n4_ := Gv.a0 ((Gv.ble hg Gv.bw : w.heap.size ≤ gb281)); have n5_ := Gv.a0 ((Gv.nlt hg (Gv.kb BK280.out) : gb280 ≠ gb281)); have n6_ := Gv.a0 ((Gv.ngt hg (Gv.kb BK280.out) : gb281 ≠ gb280)); clear BK280; clear HB; have BK280 := n0_; have HB := n1_; have BK281 := n2_; have GW281 := n3_; have GE281 := n4_; have NB280_281 := n5_; have NB281_280 := n6_; clear n0_ n1_ n2_ n3_ n4_ n5_ n6_; clear hb hbox hg) | ((with_reducible refine gate_store (t := 36) (p := 3) rfl ?_); refine Gv.store_event rfl rfl rfl rfl rfl (Gv.kb BK281.out) (by kernel_rfl) rfl (by simp; and_intros <;> rfl) ?_; intro w5s hbox hoth hbel; have n0_ := Gv.a0 (hbox); have n1_ := Gv.a0 (hbel w Gv.bw GE281.out); have n2_ := Gv.a0 ((hoth gb280 NB280_281.out).trans (Gv.kb BK280.out)); clear BK281 HB BK280; have BK281 := n0_; have HB := n1_; have BK280 := n2_; clear n0_ n1_ n2_ hbox hoth hbel) | ((with_reducible refine Gv.gate_load (t := 55) rfl ?_); (try (refine gate_guard (by rfl) ?_; dsimp only)); refine wpList_load_row rfl 55 _ rfl gb280 rfl 55 _ _ _ (by first | exact Gv.kb0 BK280.out | exact Gv.kb1 (Gv.kb0 BK280.out)) Try.underlying55 rfl (by kernel_rfl) ?_) | ((with_reducible refine Gv.gate_load (t := 36) rfl ?_); (try (refine gate_guard (by rfl) ?_; dsimp only)); refine wpList_load_row rfl 36 _ rfl gb281 rfl 36 _ _ _ (by first | exact Gv.kb0 BK281.out | exact Gv.kb1 (Gv.kb0 BK281.out)) Try.underlying36 rfl (by kernel_rfl) ?_))
 (try simp only [Act.put, List.setIfInBounds_toArray, List.set_cons_zero, List.set_cons_succ])
 go_cut [28] (fun v28 wc => ∃ (kq : Nat) (x28_2 : Bool), v28 = .bool x28_2 ∧ Aside0 (spec_RuleHas.j0 kq x28_2 a0_0 a0_1 a0_2 a0_3 a0_4 a0_5 a0_6 a0_7 a0_8 a0_9 a0_10 a0_11 a0_12 a0_13 a0_14 a0_15 a0_16 a0_17 a0_18 a0_19 a0_20 a1_0 a1_1 a1_2 a1_3 a1_4 a1_5 a1_6 a1_7 a1_8 a1_9 a1_10 a1_11 a1_12 = some r) ∧ Aside0 (kq ≤ k) ∧ Aside0 (wc.heap[gb280]? = some (.cells #[.int .i64 a0_0, .int .i64 a0_1, .int .i64 a0_2, .int .i64 a0_3, .int .i64 a0_4, .int .i64 a0_5, .int .i64 a0_6, .int .i64 a0_7, .int .i64 a0_8, .int .i64 a0_9, .int .i64 a0_10, .int .i64 a0_11, .int .i64 a0_12, .int .i64 a0_13, .int .i64 a0_14, .int .i64 a0_15, .int .i64 a0_16, .int .i64 a0_17, .int .i64 a0_18, .int .i64 a0_19, .int .i64 a0_20] 55 (0, 0))) ∧ Aside0 (wc.heap[gb281]? = some (.cells #[.int .i64 a1_0, .int .i64 a1_1, .int .i64 a1_2, .int .i64 a1_3, .int .i64 a1_4, .int .i64 a1_5, .int .i64 a1_6, .int .i64 a1_7, .int .i64 a1_8, .int .i64 a1_9, .int .i64 a1_10, .int .i64 a1_11, .int .i64 a1_12] 36 (0, 0))) ∧ Aside0 (Below w.heap.size w wc))
 case first =>
  have H := HC3.out
  clear HC3
  replace H := Option.bind_eq_some_iff.mp H
  obtain ⟨t282, A60, H⟩ := H
  replace H : (if t282 = true then ((spec_KeyOk.f a1_0 a1_1 a1_2 a1_3 a1_4 a1_5 a1_6 a1_7 a1_8 a1_9 a1_10 a1_11 a1_12).bind fun t283 => (if t283 = true then ((spec_PrefixHas.f k a0_1 a0_2 a0_3 a0_4 a0_5 a0_6 a1_0 a1_1 a1_2 a1_3 a1_4).bind fun t284 => (if t284 = true then ((spec_PrefixHas.f k a0_7 a0_8 a0_9 a0_10 a0_11 a0_12 a1_5 a1_6 a1_7 a1_8 a1_9).bind fun t285 => (spec_RuleHas.j0 k (!t285) a0_0 a0_1 a0_2 a0_3 a0_4 a0_5 a0_6 a0_7 a0_8 a0_9 a0_10 a0_11 a0_12 a0_13 a0_14 a0_15 a0_16 a0_17 a0_18 a0_19 a0_20 a1_0 a1_1 a1_2 a1_3 a1_4 a1_5 a1_6 a1_7 a1_8 a1_9 a1_10 a1_11 a1_12)) else (spec_RuleHas.j0 k true a0_0 a0_1 a0_2 a0_3 a0_4 a0_5 a0_6 a0_7 a0_8 a0_9 a0_10 a0_11 a0_12 a0_13 a0_14 a0_15 a0_16 a0_17 a0_18 a0_19 a0_20 a1_0 a1_1 a1_2 a1_3 a1_4 a1_5 a1_6 a1_7 a1_8 a1_9 a1_10 a1_11 a1_12))) else (spec_RuleHas.j0 k true a0_0 a0_1 a0_2 a0_3 a0_4 a0_5 a0_6 a0_7 a0_8 a0_9 a0_10 a0_11 a0_12 a0_13 a0_14 a0_15 a0_16 a0_17 a0_18 a0_19 a0_20 a1_0 a1_1 a1_2 a1_3 a1_4 a1_5 a1_6 a1_7 a1_8 a1_9 a1_10 a1_11 a1_12))) else (spec_RuleHas.j0 k true a0_0 a0_1 a0_2 a0_3 a0_4 a0_5 a0_6 a0_7 a0_8 a0_9 a0_10 a0_11 a0_12 a0_13 a0_14 a0_15 a0_16 a0_17 a0_18 a0_19 a0_20 a1_0 a1_1 a1_2 a1_3 a1_4 a1_5 a1_6 a1_7 a1_8 a1_9 a1_10 a1_11 a1_12)) = some r := H
  have A6 := Gv.a0 A60
  clear A60
  by_cases c7 : t282 = true
  ·subst c7
   have H1 : ((spec_KeyOk.f a1_0 a1_1 a1_2 a1_3 a1_4 a1_5 a1_6 a1_7 a1_8 a1_9 a1_10 a1_11 a1_12).bind fun t283 => (if t283 = true then ((spec_PrefixHas.f k a0_1 a0_2 a0_3 a0_4 a0_5 a0_6 a1_0 a1_1 a1_2 a1_3 a1_4).bind fun t284 => (if t284 = true then ((spec_PrefixHas.f k a0_7 a0_8 a0_9 a0_10 a0_11 a0_12 a1_5 a1_6 a1_7 a1_8 a1_9).bind fun t285 => (spec_RuleHas.j0 k (!t285) a0_0 a0_1 a0_2 a0_3 a0_4 a0_5 a0_6 a0_7 a0_8 a0_9 a0_10 a0_11 a0_12 a0_13 a0_14 a0_15 a0_16 a0_17 a0_18 a0_19 a0_20 a1_0 a1_1 a1_2 a1_3 a1_4 a1_5 a1_6 a1_7 a1_8 a1_9 a1_10 a1_11 a1_12)) else (spec_RuleHas.j0 k true a0_0 a0_1 a0_2 a0_3 a0_4 a0_5 a0_6 a0_7 a0_8 a0_9 a0_10 a0_11 a0_12 a0_13 a0_14 a0_15 a0_16 a0_17 a0_18 a0_19 a0_20 a1_0 a1_1 a1_2 a1_3 a1_4 a1_5 a1_6 a1_7 a1_8 a1_9 a1_10 a1_11 a1_12))) else (spec_RuleHas.j0 k true a0_0 a0_1 a0_2 a0_3 a0_4 a0_5 a0_6 a0_7 a0_8 a0_9 a0_10 a0_11 a0_12 a0_13 a0_14 a0_15 a0_16 a0_17 a0_18 a0_19 a0_20 a1_0 a1_1 a1_2 a1_3 a1_4 a1_5 a1_6 a1_7 a1_8 a1_9 a1_10 a1_11 a1_12))) = some r := by rw [if_pos rfl] at H; exact H
   clear H
   have H := H1
   clear H1
   replace H := Option.bind_eq_some_iff.mp H
   obtain ⟨t283, A80, H⟩ := H
   replace H : (if t283 = true then ((spec_PrefixHas.f k a0_1 a0_2 a0_3 a0_4 a0_5 a0_6 a1_0 a1_1 a1_2 a1_3 a1_4).bind fun t284 => (if t284 = true then ((spec_PrefixHas.f k a0_7 a0_8 a0_9 a0_10 a0_11 a0_12 a1_5 a1_6 a1_7 a1_8 a1_9).bind fun t285 => (spec_RuleHas.j0 k (!t285) a0_0 a0_1 a0_2 a0_3 a0_4 a0_5 a0_6 a0_7 a0_8 a0_9 a0_10 a0_11 a0_12 a0_13 a0_14 a0_15 a0_16 a0_17 a0_18 a0_19 a0_20 a1_0 a1_1 a1_2 a1_3 a1_4 a1_5 a1_6 a1_7 a1_8 a1_9 a1_10 a1_11 a1_12)) else (spec_RuleHas.j0 k true a0_0 a0_1 a0_2 a0_3 a0_4 a0_5 a0_6 a0_7 a0_8 a0_9 a0_10 a0_11 a0_12 a0_13 a0_14 a0_15 a0_16 a0_17 a0_18 a0_19 a0_20 a1_0 a1_1 a1_2 a1_3 a1_4 a1_5 a1_6 a1_7 a1_8 a1_9 a1_10 a1_11 a1_12))) else (spec_RuleHas.j0 k true a0_0 a0_1 a0_2 a0_3 a0_4 a0_5 a0_6 a0_7 a0_8 a0_9 a0_10 a0_11 a0_12 a0_13 a0_14 a0_15 a0_16 a0_17 a0_18 a0_19 a0_20 a1_0 a1_1 a1_2 a1_3 a1_4 a1_5 a1_6 a1_7 a1_8 a1_9 a1_10 a1_11 a1_12)) = some r := H
   have A8 := Gv.a0 A80
   clear A80
   by_cases c9 : t283 = true
   ·subst c9
    have H1 : ((spec_PrefixHas.f k a0_1 a0_2 a0_3 a0_4 a0_5 a0_6 a1_0 a1_1 a1_2 a1_3 a1_4).bind fun t284 => (if t284 = true then ((spec_PrefixHas.f k a0_7 a0_8 a0_9 a0_10 a0_11 a0_12 a1_5 a1_6 a1_7 a1_8 a1_9).bind fun t285 => (spec_RuleHas.j0 k (!t285) a0_0 a0_1 a0_2 a0_3 a0_4 a0_5 a0_6 a0_7 a0_8 a0_9 a0_10 a0_11 a0_12 a0_13 a0_14 a0_15 a0_16 a0_17 a0_18 a0_19 a0_20 a1_0 a1_1 a1_2 a1_3 a1_4 a1_5 a1_6 a1_7 a1_8 a1_9 a1_10 a1_11 a1_12)) else (spec_RuleHas.j0 k true a0_0 a0_1 a0_2 a0_3 a0_4 a0_5 a0_6 a0_7 a0_8 a0_9 a0_10 a0_11 a0_12 a0_13 a0_14 a0_15 a0_16 a0_17 a0_18 a0_19 a0_20 a1_0 a1_1 a1_2 a1_3 a1_4 a1_5 a1_6 a1_7 a1_8 a1_9 a1_10 a1_11 a1_12))) = some r := by rw [if_pos rfl] at H; exact H
    clear H
    have H := H1
    clear H1
    replace H := Option.bind_eq_some_iff.mp H
    obtain ⟨t284, A100, H⟩ := H
    replace H : (if t284 = true then ((spec_PrefixHas.f k a0_7 a0_8 a0_9 a0_10 a0_11 a0_12 a1_5 a1_6 a1_7 a1_8 a1_9).bind fun t285 => (spec_RuleHas.j0 k (!t285) a0_0 a0_1 a0_2 a0_3 a0_4 a0_5 a0_6 a0_7 a0_8 a0_9 a0_10 a0_11 a0_12 a0_13 a0_14 a0_15 a0_16 a0_17 a0_18 a0_19 a0_20 a1_0 a1_1 a1_2 a1_3 a1_4 a1_5 a1_6 a1_7 a1_8 a1_9 a1_10 a1_11 a1_12)) else (spec_RuleHas.j0 k true a0_0 a0_1 a0_2 a0_3 a0_4 a0_5 a0_6 a0_7 a0_8 a0_9 a0_10 a0_11 a0_12 a0_13 a0_14 a0_15 a0_16 a0_17 a0_18 a0_19 a0_20 a1_0 a1_1 a1_2 a1_3 a1_4 a1_5 a1_6 a1_7 a1_8 a1_9 a1_10 a1_11 a1_12)) = some r := H
    have A10 := Gv.a0 A100
    clear A100
    by_cases c11 : t284 = true
    ·subst c11
     have H1 : ((spec_PrefixHas.f k a0_7 a0_8 a0_9 a0_10 a0_11 a0_12 a1_5 a1_6 a1_7 a1_8 a1_9).bind fun t285 => (spec_RuleHas.j0 k (!t285) a0_0 a0_1 a0_2 a0_3 a0_4 a0_5 a0_6 a0_7 a0_8 a0_9 a0_10 a0_11 a0_12 a0_13 a0_14 a0_15 a0_16 a0_17 a0_18 a0_19 a0_20 a1_0 a1_1 a1_2 a1_3 a1_4 a1_5 a1_6 a1_7 a1_8 a1_9 a1_10 a1_11 a1_12)) = some r := by rw [if_pos rfl] at H; exact H
     clear H
     have H := H1
     clear H1
     replace H := Option.bind_eq_some_iff.mp H
     obtain ⟨t285, A120, H⟩ := H
     replace H : (spec_RuleHas.j0 k (!t285) a0_0 a0_1 a0_2 a0_3 a0_4 a0_5 a0_6 a0_7 a0_8 a0_9 a0_10 a0_11 a0_12 a0_13 a0_14 a0_15 a0_16 a0_17 a0_18 a0_19 a0_20 a1_0 a1_1 a1_2 a1_3 a1_4 a1_5 a1_6 a1_7 a1_8 a1_9 a1_10 a1_11 a1_12) = some r := H
     have A12 := Gv.a0 A120
     clear A120
     have H' := Gv.a0 H
     clear H
     have hnb13 := NB280_281.out
     have hnc13 := NB281_280.out
     obtain ⟨hcz14_0, hcz14_1, hcz14_2, hcz14_3, hcz14_4, hcz14_5, hcz14_6, hcz14_7, hcz14_8, hcz14_9, hcz14_10, hcz14_11, hcz14_12, hcz14_13, hcz14_14, hcz14_15, hcz14_16, hcz14_17, hcz14_18, hcz14_19, hcz14_20⟩ := Gv.c21 BK280.out
     obtain ⟨hfz14_0, hfz14_1, hfz14_2, hfz14_3, hfz14_4, hfz14_5, hfz14_6, hfz14_7, hfz14_8, hfz14_9, hfz14_10, hfz14_11, hfz14_12, hfz14_13, hfz14_14, hfz14_15, hfz14_16, hfz14_17, hfz14_18, hfz14_19, hfz14_20⟩ := Gv.f21 BK280.out
     go_wp2_with (first | ((with_reducible refine gate_callee (f := 28) rfl ?_); refine goesL_ (some 6) rfl rfl Try.func28 (by kernel_rfl) rfl #[.agg #[.int .i64 a0_0, .int .i64 a0_1, .int .i64 a0_2, .int .i64 a0_3, .int .i64 a0_4, .int .i64 a0_5, .int .i64 a0_6, .int .i64 a0_7, .int .i64 a0_8, .int .i64 a0_9, .int .i64 a0_10, .int .i64 a0_11, .int .i64 a0_12, .int .i64 a0_13, .int .i64 a0_14, .int .i64 a0_15, .int .i64 a0_16, .int .i64 a0_17, .int .i64 a0_18, .int .i64 a0_19, .int .i64 a0_20]] rfl Gv.lm ?_; (with_reducible refine (spec_RuleOk.calls k a0_0 a0_1 a0_2 a0_3 a0_4 a0_5 a0_6 a0_7 a0_8 a0_9 a0_10 a0_11 a0_12 a0_13 a0_14 a0_15 a0_16 a0_17 a0_18 a0_19 a0_20 true _ A6.out).mono ?_); rintro e w15 ⟨rfl, hb⟩; refine ⟨_, rfl, ?_⟩; have n0_ := Gv.a0 (Gv.bb BK280.out hb); have n1_ := Gv.a0 (Gv.bb BK281.out hb); have n2_ := Gv.a0 (below_step Gv.bw hb); clear BK280; clear BK281; clear HB; have BK280 := n0_; have BK281 := n1_; have HB := n2_; clear n0_ n1_ n2_; (try clear hb); (try clear hb2); (try clear hk); (try clear hi); obtain ⟨hcz16_0, hcz16_1, hcz16_2, hcz16_3, hcz16_4, hcz16_5, hcz16_6, hcz16_7, hcz16_8, hcz16_9, hcz16_10, hcz16_11, hcz16_12⟩ := Gv.c13 BK281.out; obtain ⟨hfz16_0, hfz16_1, hfz16_2, hfz16_3, hfz16_4, hfz16_5, hfz16_6, hfz16_7, hfz16_8, hfz16_9, hfz16_10, hfz16_11, hfz16_12⟩ := Gv.f13 BK281.out) | (go_at_call 50; (with_reducible refine (spec_KeyOk.calls a1_0 a1_1 a1_2 a1_3 a1_4 a1_5 a1_6 a1_7 a1_8 a1_9 a1_10 a1_11 a1_12 true _ A8.out).mono ?_); rintro e w17 ⟨rfl, hb⟩; have n0_ := Gv.a0 (Gv.bb BK280.out hb); have n1_ := Gv.a0 (Gv.bb BK281.out hb); have n2_ := Gv.a0 (below_step Gv.bw hb); clear BK280; clear BK281; clear HB; have BK280 := n0_; have BK281 := n1_; have HB := n2_; clear n0_ n1_ n2_; (try clear hb); (try clear hb2); (try clear hk); (try clear hi); obtain ⟨hcz18_0, hcz18_1, hcz18_2, hcz18_3, hcz18_4, hcz18_5, hcz18_6, hcz18_7, hcz18_8, hcz18_9, hcz18_10, hcz18_11, hcz18_12, hcz18_13, hcz18_14, hcz18_15, hcz18_16, hcz18_17, hcz18_18, hcz18_19, hcz18_20⟩ := Gv.c21 BK280.out; obtain ⟨hfz18_0, hfz18_1, hfz18_2, hfz18_3, hfz18_4, hfz18_5, hfz18_6, hfz18_7, hfz18_8, hfz18_9, hfz18_10, hfz18_11, hfz18_12, hfz18_13, hfz18_14, hfz18_15, hfz18_16, hfz18_17, hfz18_18, hfz18_19, hfz18_20⟩ := Gv.f21 BK280.out; obtain ⟨hcz19_0, hcz19_1, hcz19_2, hcz19_3, hcz19_4, hcz19_5, hcz19_6, hcz19_7, hcz19_8, hcz19_9, hcz19_10, hcz19_11, hcz19_12⟩ := Gv.c13 BK281.out; obtain ⟨hfz19_0, hfz19_1, hfz19_2, hfz19_3, hfz19_4, hfz19_5, hfz19_6, hfz19_7, hfz19_8, hfz19_9, hfz19_10, hfz19_11, hfz19_12⟩ := Gv.f13 BK281.out) | (go_at_call 51; (with_reducible refine (spec_PrefixHas.calls k a0_1 a0_2 a0_3 a0_4 a0_5 a0_6 a1_0 a1_1 a1_2 a1_3 a1_4 true _ A10.out).mono ?_); rintro e w20 ⟨rfl, hb⟩; have n0_ := Gv.a0 (Gv.bb BK280.out hb); have n1_ := Gv.a0 (Gv.bb BK281.out hb); have n2_ := Gv.a0 (below_step Gv.bw hb); clear BK280; clear BK281; clear HB; have BK280 := n0_; have BK281 := n1_; have HB := n2_; clear n0_ n1_ n2_; (try clear hb); (try clear hb2); (try clear hk); (try clear hi); obtain ⟨hcz21_0, hcz21_1, hcz21_2, hcz21_3, hcz21_4, hcz21_5, hcz21_6, hcz21_7, hcz21_8, hcz21_9, hcz21_10, hcz21_11, hcz21_12, hcz21_13, hcz21_14, hcz21_15, hcz21_16, hcz21_17, hcz21_18, hcz21_19, hcz21_20⟩ := Gv.c21 BK280.out; obtain ⟨hfz21_0, hfz21_1, hfz21_2, hfz21_3, hfz21_4, hfz21_5, hfz21_6, hfz21_7, hfz21_8, hfz21_9, hfz21_10, hfz21_11, hfz21_12, hfz21_13, hfz21_14, hfz21_15, hfz21_16, hfz21_17, hfz21_18, hfz21_19, hfz21_20⟩ := Gv.f21 BK280.out; obtain ⟨hcz22_0, hcz22_1, hcz22_2, hcz22_3, hcz22_4, hcz22_5, hcz22_6, hcz22_7, hcz22_8, hcz22_9, hcz22_10, hcz22_11, hcz22_12⟩ := Gv.c13 BK281.out; obtain ⟨hfz22_0, hfz22_1, hfz22_2, hfz22_3, hfz22_4, hfz22_5, hfz22_6, hfz22_7, hfz22_8, hfz22_9, hfz22_10, hfz22_11, hfz22_12⟩ := Gv.f13 BK281.out) | (go_at_call 51; (with_reducible refine (spec_PrefixHas.calls k a0_7 a0_8 a0_9 a0_10 a0_11 a0_12 a1_5 a1_6 a1_7 a1_8 a1_9 t285 _ A12.out).mono ?_); rintro e w23 ⟨rfl, hb⟩; have n0_ := Gv.a0 (Gv.bb BK280.out hb); have n1_ := Gv.a0 (Gv.bb BK281.out hb); have n2_ := Gv.a0 (below_step Gv.bw hb); clear BK280; clear BK281; clear HB; have BK280 := n0_; have BK281 := n1_; have HB := n2_; clear n0_ n1_ n2_; (try clear hb); (try clear hb2); (try clear hk); (try clear hi)) | ((with_reducible refine Gv.gate_load (t := 55) rfl ?_); (try (refine gate_guard (by rfl) ?_; dsimp only)); refine wpList_load_row rfl 55 _ rfl gb280 rfl 55 _ _ _ (by first | exact Gv.kb0 BK280.out | exact Gv.kb1 (Gv.kb0 BK280.out)) Try.underlying55 rfl (by kernel_rfl) ?_) | ((with_reducible refine Gv.gate_load (t := 36) rfl ?_); (try (refine gate_guard (by rfl) ?_; dsimp only)); refine wpList_load_row rfl 36 _ rfl gb281 rfl 36 _ _ _ (by first | exact Gv.kb0 BK281.out | exact Gv.kb1 (Gv.kb0 BK281.out)) Try.underlying36 rfl (by kernel_rfl) ?_))
     go_meet
     case rel => exact ⟨_, (!t285), Gv.rq, H', ⟨by first | omega | exact Nat.le_refl _⟩, ⟨by (with_reducible repeat (first | refine blk_drewN ?_ _ | refine blk_drew ?_ | refine blk_alloc ?_ _)); exact BK280.out⟩, ⟨by (with_reducible repeat (first | refine blk_drewN ?_ _ | refine blk_drew ?_ | refine blk_alloc ?_ _)); exact BK281.out⟩, ⟨Gv.bw⟩⟩
    ·replace c11 := Bool.eq_false_iff.mpr c11
     subst c11
     have H1 : (spec_RuleHas.j0 k true a0_0 a0_1 a0_2 a0_3 a0_4 a0_5 a0_6 a0_7 a0_8 a0_9 a0_10 a0_11 a0_12 a0_13 a0_14 a0_15 a0_16 a0_17 a0_18 a0_19 a0_20 a1_0 a1_1 a1_2 a1_3 a1_4 a1_5 a1_6 a1_7 a1_8 a1_9 a1_10 a1_11 a1_12) = some r := by rw [if_neg (show ¬ (false = true) by decide)] at H; exact H
     clear H
     have H := H1
     clear H1
     have H' := Gv.a0 H
     clear H
     have hnb24 := NB280_281.out
     have hnc24 := NB281_280.out
     obtain ⟨hcz25_0, hcz25_1, hcz25_2, hcz25_3, hcz25_4, hcz25_5, hcz25_6, hcz25_7, hcz25_8, hcz25_9, hcz25_10, hcz25_11, hcz25_12, hcz25_13, hcz25_14, hcz25_15, hcz25_16, hcz25_17, hcz25_18, hcz25_19, hcz25_20⟩ := Gv.c21 BK280.out
     obtain ⟨hfz25_0, hfz25_1, hfz25_2, hfz25_3, hfz25_4, hfz25_5, hfz25_6, hfz25_7, hfz25_8, hfz25_9, hfz25_10, hfz25_11, hfz25_12, hfz25_13, hfz25_14, hfz25_15, hfz25_16, hfz25_17, hfz25_18, hfz25_19, hfz25_20⟩ := Gv.f21 BK280.out
     go_wp2_with (first | ((with_reducible refine gate_callee (f := 28) rfl ?_); refine goesL_ (some 6) rfl rfl Try.func28 (by kernel_rfl) rfl #[.agg #[.int .i64 a0_0, .int .i64 a0_1, .int .i64 a0_2, .int .i64 a0_3, .int .i64 a0_4, .int .i64 a0_5, .int .i64 a0_6, .int .i64 a0_7, .int .i64 a0_8, .int .i64 a0_9, .int .i64 a0_10, .int .i64 a0_11, .int .i64 a0_12, .int .i64 a0_13, .int .i64 a0_14, .int .i64 a0_15, .int .i64 a0_16, .int .i64 a0_17, .int .i64 a0_18, .int .i64 a0_19, .int .i64 a0_20]] rfl Gv.lm ?_; (with_reducible refine (spec_RuleOk.calls k a0_0 a0_1 a0_2 a0_3 a0_4 a0_5 a0_6 a0_7 a0_8 a0_9 a0_10 a0_11 a0_12 a0_13 a0_14 a0_15 a0_16 a0_17 a0_18 a0_19 a0_20 true _ A6.out).mono ?_); rintro e w26 ⟨rfl, hb⟩; refine ⟨_, rfl, ?_⟩; have n0_ := Gv.a0 (Gv.bb BK280.out hb); have n1_ := Gv.a0 (Gv.bb BK281.out hb); have n2_ := Gv.a0 (below_step Gv.bw hb); clear BK280; clear BK281; clear HB; have BK280 := n0_; have BK281 := n1_; have HB := n2_; clear n0_ n1_ n2_; (try clear hb); (try clear hb2); (try clear hk); (try clear hi); obtain ⟨hcz27_0, hcz27_1, hcz27_2, hcz27_3, hcz27_4, hcz27_5, hcz27_6, hcz27_7, hcz27_8, hcz27_9, hcz27_10, hcz27_11, hcz27_12⟩ := Gv.c13 BK281.out; obtain ⟨hfz27_0, hfz27_1, hfz27_2, hfz27_3, hfz27_4, hfz27_5, hfz27_6, hfz27_7, hfz27_8, hfz27_9, hfz27_10, hfz27_11, hfz27_12⟩ := Gv.f13 BK281.out) | (go_at_call 50; (with_reducible refine (spec_KeyOk.calls a1_0 a1_1 a1_2 a1_3 a1_4 a1_5 a1_6 a1_7 a1_8 a1_9 a1_10 a1_11 a1_12 true _ A8.out).mono ?_); rintro e w28 ⟨rfl, hb⟩; have n0_ := Gv.a0 (Gv.bb BK280.out hb); have n1_ := Gv.a0 (Gv.bb BK281.out hb); have n2_ := Gv.a0 (below_step Gv.bw hb); clear BK280; clear BK281; clear HB; have BK280 := n0_; have BK281 := n1_; have HB := n2_; clear n0_ n1_ n2_; (try clear hb); (try clear hb2); (try clear hk); (try clear hi); obtain ⟨hcz29_0, hcz29_1, hcz29_2, hcz29_3, hcz29_4, hcz29_5, hcz29_6, hcz29_7, hcz29_8, hcz29_9, hcz29_10, hcz29_11, hcz29_12, hcz29_13, hcz29_14, hcz29_15, hcz29_16, hcz29_17, hcz29_18, hcz29_19, hcz29_20⟩ := Gv.c21 BK280.out; obtain ⟨hfz29_0, hfz29_1, hfz29_2, hfz29_3, hfz29_4, hfz29_5, hfz29_6, hfz29_7, hfz29_8, hfz29_9, hfz29_10, hfz29_11, hfz29_12, hfz29_13, hfz29_14, hfz29_15, hfz29_16, hfz29_17, hfz29_18, hfz29_19, hfz29_20⟩ := Gv.f21 BK280.out; obtain ⟨hcz30_0, hcz30_1, hcz30_2, hcz30_3, hcz30_4, hcz30_5, hcz30_6, hcz30_7, hcz30_8, hcz30_9, hcz30_10, hcz30_11, hcz30_12⟩ := Gv.c13 BK281.out; obtain ⟨hfz30_0, hfz30_1, hfz30_2, hfz30_3, hfz30_4, hfz30_5, hfz30_6, hfz30_7, hfz30_8, hfz30_9, hfz30_10, hfz30_11, hfz30_12⟩ := Gv.f13 BK281.out) | (go_at_call 51; (with_reducible refine (spec_PrefixHas.calls k a0_1 a0_2 a0_3 a0_4 a0_5 a0_6 a1_0 a1_1 a1_2 a1_3 a1_4 false _ A10.out).mono ?_); rintro e w31 ⟨rfl, hb⟩; have n0_ := Gv.a0 (Gv.bb BK280.out hb); have n1_ := Gv.a0 (Gv.bb BK281.out hb); have n2_ := Gv.a0 (below_step Gv.bw hb); clear BK280; clear BK281; clear HB; have BK280 := n0_; have BK281 := n1_; have HB := n2_; clear n0_ n1_ n2_; (try clear hb); (try clear hb2); (try clear hk); (try clear hi)) | ((with_reducible refine Gv.gate_load (t := 55) rfl ?_); (try (refine gate_guard (by rfl) ?_; dsimp only)); refine wpList_load_row rfl 55 _ rfl gb280 rfl 55 _ _ _ (by first | exact Gv.kb0 BK280.out | exact Gv.kb1 (Gv.kb0 BK280.out)) Try.underlying55 rfl (by kernel_rfl) ?_) | ((with_reducible refine Gv.gate_load (t := 36) rfl ?_); (try (refine gate_guard (by rfl) ?_; dsimp only)); refine wpList_load_row rfl 36 _ rfl gb281 rfl 36 _ _ _ (by first | exact Gv.kb0 BK281.out | exact Gv.kb1 (Gv.kb0 BK281.out)) Try.underlying36 rfl (by kernel_rfl) ?_))
     go_meet
     case rel => exact ⟨_, (true), Gv.rq, H', ⟨by first | omega | exact Nat.le_refl _⟩, ⟨by (with_reducible repeat (first | refine blk_drewN ?_ _ | refine blk_drew ?_ | refine blk_alloc ?_ _)); exact BK280.out⟩, ⟨by (with_reducible repeat (first | refine blk_drewN ?_ _ | refine blk_drew ?_ | refine blk_alloc ?_ _)); exact BK281.out⟩, ⟨Gv.bw⟩⟩
   ·replace c9 := Bool.eq_false_iff.mpr c9
    subst c9
    have H1 : (spec_RuleHas.j0 k true a0_0 a0_1 a0_2 a0_3 a0_4 a0_5 a0_6 a0_7 a0_8 a0_9 a0_10 a0_11 a0_12 a0_13 a0_14 a0_15 a0_16 a0_17 a0_18 a0_19 a0_20 a1_0 a1_1 a1_2 a1_3 a1_4 a1_5 a1_6 a1_7 a1_8 a1_9 a1_10 a1_11 a1_12) = some r := by rw [if_neg (show ¬ (false = true) by decide)] at H; exact H
    clear H
    have H := H1
    clear H1
    have H' := Gv.a0 H
    clear H
    have hnb32 := NB280_281.out
    have hnc32 := NB281_280.out
    obtain ⟨hcz33_0, hcz33_1, hcz33_2, hcz33_3, hcz33_4, hcz33_5, hcz33_6, hcz33_7, hcz33_8, hcz33_9, hcz33_10, hcz33_11, hcz33_12, hcz33_13, hcz33_14, hcz33_15, hcz33_16, hcz33_17, hcz33_18, hcz33_19, hcz33_20⟩ := Gv.c21 BK280.out
    obtain ⟨hfz33_0, hfz33_1, hfz33_2, hfz33_3, hfz33_4, hfz33_5, hfz33_6, hfz33_7, hfz33_8, hfz33_9, hfz33_10, hfz33_11, hfz33_12, hfz33_13, hfz33_14, hfz33_15, hfz33_16, hfz33_17, hfz33_18, hfz33_19, hfz33_20⟩ := Gv.f21 BK280.out
    go_wp2_with (first | ((with_reducible refine gate_callee (f := 28) rfl ?_); refine goesL_ (some 6) rfl rfl Try.func28 (by kernel_rfl) rfl #[.agg #[.int .i64 a0_0, .int .i64 a0_1, .int .i64 a0_2, .int .i64 a0_3, .int .i64 a0_4, .int .i64 a0_5, .int .i64 a0_6, .int .i64 a0_7, .int .i64 a0_8, .int .i64 a0_9, .int .i64 a0_10, .int .i64 a0_11, .int .i64 a0_12, .int .i64 a0_13, .int .i64 a0_14, .int .i64 a0_15, .int .i64 a0_16, .int .i64 a0_17, .int .i64 a0_18, .int .i64 a0_19, .int .i64 a0_20]] rfl Gv.lm ?_; (with_reducible refine (spec_RuleOk.calls k a0_0 a0_1 a0_2 a0_3 a0_4 a0_5 a0_6 a0_7 a0_8 a0_9 a0_10 a0_11 a0_12 a0_13 a0_14 a0_15 a0_16 a0_17 a0_18 a0_19 a0_20 true _ A6.out).mono ?_); rintro e w34 ⟨rfl, hb⟩; refine ⟨_, rfl, ?_⟩; have n0_ := Gv.a0 (Gv.bb BK280.out hb); have n1_ := Gv.a0 (Gv.bb BK281.out hb); have n2_ := Gv.a0 (below_step Gv.bw hb); clear BK280; clear BK281; clear HB; have BK280 := n0_; have BK281 := n1_; have HB := n2_; clear n0_ n1_ n2_; (try clear hb); (try clear hb2); (try clear hk); (try clear hi); obtain ⟨hcz35_0, hcz35_1, hcz35_2, hcz35_3, hcz35_4, hcz35_5, hcz35_6, hcz35_7, hcz35_8, hcz35_9, hcz35_10, hcz35_11, hcz35_12⟩ := Gv.c13 BK281.out; obtain ⟨hfz35_0, hfz35_1, hfz35_2, hfz35_3, hfz35_4, hfz35_5, hfz35_6, hfz35_7, hfz35_8, hfz35_9, hfz35_10, hfz35_11, hfz35_12⟩ := Gv.f13 BK281.out) | (go_at_call 50; (with_reducible refine (spec_KeyOk.calls a1_0 a1_1 a1_2 a1_3 a1_4 a1_5 a1_6 a1_7 a1_8 a1_9 a1_10 a1_11 a1_12 false _ A8.out).mono ?_); rintro e w36 ⟨rfl, hb⟩; have n0_ := Gv.a0 (Gv.bb BK280.out hb); have n1_ := Gv.a0 (Gv.bb BK281.out hb); have n2_ := Gv.a0 (below_step Gv.bw hb); clear BK280; clear BK281; clear HB; have BK280 := n0_; have BK281 := n1_; have HB := n2_; clear n0_ n1_ n2_; (try clear hb); (try clear hb2); (try clear hk); (try clear hi)) | ((with_reducible refine Gv.gate_load (t := 55) rfl ?_); (try (refine gate_guard (by rfl) ?_; dsimp only)); refine wpList_load_row rfl 55 _ rfl gb280 rfl 55 _ _ _ (by first | exact Gv.kb0 BK280.out | exact Gv.kb1 (Gv.kb0 BK280.out)) Try.underlying55 rfl (by kernel_rfl) ?_) | ((with_reducible refine Gv.gate_load (t := 36) rfl ?_); (try (refine gate_guard (by rfl) ?_; dsimp only)); refine wpList_load_row rfl 36 _ rfl gb281 rfl 36 _ _ _ (by first | exact Gv.kb0 BK281.out | exact Gv.kb1 (Gv.kb0 BK281.out)) Try.underlying36 rfl (by kernel_rfl) ?_))
    go_meet
    case rel => exact ⟨_, (true), Gv.rq, H', ⟨by first | omega | exact Nat.le_refl _⟩, ⟨by (with_reducible repeat (first | refine blk_drewN ?_ _ | refine blk_drew ?_ | refine blk_alloc ?_ _)); exact BK280.out⟩, ⟨by (with_reducible repeat (first | refine blk_drewN ?_ _ | refine blk_drew ?_ | refine blk_alloc ?_ _)); exact BK281.out⟩, ⟨Gv.bw⟩⟩
  ·replace c7 := Bool.eq_false_iff.mpr c7
   subst c7
   have H1 : (spec_RuleHas.j0 k true a0_0 a0_1 a0_2 a0_3 a0_4 a0_5 a0_6 a0_7 a0_8 a0_9 a0_10 a0_11 a0_12 a0_13 a0_14 a0_15 a0_16 a0_17 a0_18 a0_19 a0_20 a1_0 a1_1 a1_2 a1_3 a1_4 a1_5 a1_6 a1_7 a1_8 a1_9 a1_10 a1_11 a1_12) = some r := by rw [if_neg (show ¬ (false = true) by decide)] at H; exact H
   clear H
   have H := H1
   clear H1
   have H' := Gv.a0 H
   clear H
   have hnb37 := NB280_281.out
   have hnc37 := NB281_280.out
   obtain ⟨hcz38_0, hcz38_1, hcz38_2, hcz38_3, hcz38_4, hcz38_5, hcz38_6, hcz38_7, hcz38_8, hcz38_9, hcz38_10, hcz38_11, hcz38_12, hcz38_13, hcz38_14, hcz38_15, hcz38_16, hcz38_17, hcz38_18, hcz38_19, hcz38_20⟩ := Gv.c21 BK280.out
   obtain ⟨hfz38_0, hfz38_1, hfz38_2, hfz38_3, hfz38_4, hfz38_5, hfz38_6, hfz38_7, hfz38_8, hfz38_9, hfz38_10, hfz38_11, hfz38_12, hfz38_13, hfz38_14, hfz38_15, hfz38_16, hfz38_17, hfz38_18, hfz38_19, hfz38_20⟩ := Gv.f21 BK280.out
   go_wp2_with (first | ((with_reducible refine gate_callee (f := 28) rfl ?_); refine goesL_ (some 6) rfl rfl Try.func28 (by kernel_rfl) rfl #[.agg #[.int .i64 a0_0, .int .i64 a0_1, .int .i64 a0_2, .int .i64 a0_3, .int .i64 a0_4, .int .i64 a0_5, .int .i64 a0_6, .int .i64 a0_7, .int .i64 a0_8, .int .i64 a0_9, .int .i64 a0_10, .int .i64 a0_11, .int .i64 a0_12, .int .i64 a0_13, .int .i64 a0_14, .int .i64 a0_15, .int .i64 a0_16, .int .i64 a0_17, .int .i64 a0_18, .int .i64 a0_19, .int .i64 a0_20]] rfl Gv.lm ?_; (with_reducible refine (spec_RuleOk.calls k a0_0 a0_1 a0_2 a0_3 a0_4 a0_5 a0_6 a0_7 a0_8 a0_9 a0_10 a0_11 a0_12 a0_13 a0_14 a0_15 a0_16 a0_17 a0_18 a0_19 a0_20 false _ A6.out).mono ?_); rintro e w39 ⟨rfl, hb⟩; refine ⟨_, rfl, ?_⟩; have n0_ := Gv.a0 (Gv.bb BK280.out hb); have n1_ := Gv.a0 (Gv.bb BK281.out hb); have n2_ := Gv.a0 (below_step Gv.bw hb); clear BK280; clear BK281; clear HB; have BK280 := n0_; have BK281 := n1_; have HB := n2_; clear n0_ n1_ n2_; (try clear hb); (try clear hb2); (try clear hk); (try clear hi)) | ((with_reducible refine Gv.gate_load (t := 55) rfl ?_); (try (refine gate_guard (by rfl) ?_; dsimp only)); refine wpList_load_row rfl 55 _ rfl gb280 rfl 55 _ _ _ (by first | exact Gv.kb0 BK280.out | exact Gv.kb1 (Gv.kb0 BK280.out)) Try.underlying55 rfl (by kernel_rfl) ?_) | ((with_reducible refine Gv.gate_load (t := 36) rfl ?_); (try (refine gate_guard (by rfl) ?_; dsimp only)); refine wpList_load_row rfl 36 _ rfl gb281 rfl 36 _ _ _ (by first | exact Gv.kb0 BK281.out | exact Gv.kb1 (Gv.kb0 BK281.out)) Try.underlying36 rfl (by kernel_rfl) ?_))
   go_meet
   case rel => exact ⟨_, (true), Gv.rq, H', ⟨by first | omega | exact Nat.le_refl _⟩, ⟨by (with_reducible repeat (first | refine blk_drewN ?_ _ | refine blk_drew ?_ | refine blk_alloc ?_ _)); exact BK280.out⟩, ⟨by (with_reducible repeat (first | refine blk_drewN ?_ _ | refine blk_drew ?_ | refine blk_alloc ?_ _)); exact BK281.out⟩, ⟨Gv.bw⟩⟩
 case rest =>
  clear HC3
  try clear c1
  try clear c2
  try clear p2
  try clear c3
  try clear c7
  try clear c9
  try clear c11
  try clear c13
  try clear c24
  try clear c28
  try clear c31
  try clear c32
  try clear c37
  try clear hcz14_0 hcz14_1
  try clear hcz14_10 hcz14_11 hcz14_12 hcz14_13 hcz14_14 hcz14_15 hcz14_16 hcz14_17 hcz14_18 hcz14_19
  try clear hcz14_2
  try clear hcz14_20
  try clear hcz14_3 hcz14_4 hcz14_5 hcz14_6 hcz14_7 hcz14_8 hcz14_9
  try clear hcz16_0 hcz16_1
  try clear hcz16_10 hcz16_11 hcz16_12
  try clear hcz16_2 hcz16_3 hcz16_4 hcz16_5 hcz16_6 hcz16_7 hcz16_8 hcz16_9
  try clear hcz18_0 hcz18_1
  try clear hcz18_10 hcz18_11 hcz18_12 hcz18_13 hcz18_14 hcz18_15 hcz18_16 hcz18_17 hcz18_18 hcz18_19
  try clear hcz18_2
  try clear hcz18_20
  try clear hcz18_3 hcz18_4 hcz18_5 hcz18_6 hcz18_7 hcz18_8 hcz18_9
  try clear hcz19_0 hcz19_1
  try clear hcz19_10 hcz19_11 hcz19_12
  try clear hcz19_2 hcz19_3 hcz19_4 hcz19_5 hcz19_6 hcz19_7 hcz19_8 hcz19_9
  try clear hcz21_0 hcz21_1
  try clear hcz21_10 hcz21_11 hcz21_12 hcz21_13 hcz21_14 hcz21_15 hcz21_16 hcz21_17 hcz21_18 hcz21_19
  try clear hcz21_2
  try clear hcz21_20
  try clear hcz21_3 hcz21_4 hcz21_5 hcz21_6 hcz21_7 hcz21_8 hcz21_9
  try clear hcz22_0 hcz22_1
  try clear hcz22_10 hcz22_11 hcz22_12
  try clear hcz22_2 hcz22_3 hcz22_4 hcz22_5 hcz22_6 hcz22_7 hcz22_8 hcz22_9
  try clear hcz25_0 hcz25_1
  try clear hcz25_10 hcz25_11 hcz25_12 hcz25_13 hcz25_14 hcz25_15 hcz25_16 hcz25_17 hcz25_18 hcz25_19
  try clear hcz25_2
  try clear hcz25_20
  try clear hcz25_3 hcz25_4 hcz25_5 hcz25_6 hcz25_7 hcz25_8 hcz25_9
  try clear hcz27_0 hcz27_1
  try clear hcz27_10 hcz27_11 hcz27_12
  try clear hcz27_2 hcz27_3 hcz27_4 hcz27_5 hcz27_6 hcz27_7 hcz27_8 hcz27_9
  try clear hcz29_0 hcz29_1
  try clear hcz29_10 hcz29_11 hcz29_12 hcz29_13 hcz29_14 hcz29_15 hcz29_16 hcz29_17 hcz29_18 hcz29_19
  try clear hcz29_2
  try clear hcz29_20
  try clear hcz29_3 hcz29_4 hcz29_5 hcz29_6 hcz29_7 hcz29_8 hcz29_9
  try clear hcz30_0 hcz30_1
  try clear hcz30_10 hcz30_11 hcz30_12
  try clear hcz30_2 hcz30_3 hcz30_4 hcz30_5 hcz30_6 hcz30_7 hcz30_8 hcz30_9
  try clear hcz33_0 hcz33_1
  try clear hcz33_10 hcz33_11 hcz33_12 hcz33_13 hcz33_14 hcz33_15 hcz33_16 hcz33_17 hcz33_18 hcz33_19
  try clear hcz33_2
  try clear hcz33_20
  try clear hcz33_3 hcz33_4 hcz33_5 hcz33_6 hcz33_7 hcz33_8 hcz33_9
  try clear hcz35_0 hcz35_1
  try clear hcz35_10 hcz35_11 hcz35_12
  try clear hcz35_2 hcz35_3 hcz35_4 hcz35_5 hcz35_6 hcz35_7 hcz35_8 hcz35_9
  try clear hcz38_0 hcz38_1
  try clear hcz38_10 hcz38_11 hcz38_12 hcz38_13 hcz38_14 hcz38_15 hcz38_16 hcz38_17 hcz38_18 hcz38_19
  try clear hcz38_2
  try clear hcz38_20
  try clear hcz38_3 hcz38_4 hcz38_5 hcz38_6 hcz38_7 hcz38_8 hcz38_9
  try clear hfz14_0 hfz14_1
  try clear hfz14_10 hfz14_11 hfz14_12 hfz14_13 hfz14_14 hfz14_15 hfz14_16 hfz14_17 hfz14_18 hfz14_19
  try clear hfz14_2
  try clear hfz14_20
  try clear hfz14_3 hfz14_4 hfz14_5 hfz14_6 hfz14_7 hfz14_8 hfz14_9
  try clear hfz16_0 hfz16_1
  try clear hfz16_10 hfz16_11 hfz16_12
  try clear hfz16_2 hfz16_3 hfz16_4 hfz16_5 hfz16_6 hfz16_7 hfz16_8 hfz16_9
  try clear hfz18_0 hfz18_1
  try clear hfz18_10 hfz18_11 hfz18_12 hfz18_13 hfz18_14 hfz18_15 hfz18_16 hfz18_17 hfz18_18 hfz18_19
  try clear hfz18_2
  try clear hfz18_20
  try clear hfz18_3 hfz18_4 hfz18_5 hfz18_6 hfz18_7 hfz18_8 hfz18_9
  try clear hfz19_0 hfz19_1
  try clear hfz19_10 hfz19_11 hfz19_12
  try clear hfz19_2 hfz19_3 hfz19_4 hfz19_5 hfz19_6 hfz19_7 hfz19_8 hfz19_9
  try clear hfz21_0 hfz21_1
  try clear hfz21_10 hfz21_11 hfz21_12 hfz21_13 hfz21_14 hfz21_15 hfz21_16 hfz21_17 hfz21_18 hfz21_19
  try clear hfz21_2
  try clear hfz21_20
  try clear hfz21_3 hfz21_4 hfz21_5 hfz21_6 hfz21_7 hfz21_8 hfz21_9
  try clear hfz22_0 hfz22_1
  try clear hfz22_10 hfz22_11 hfz22_12
  try clear hfz22_2 hfz22_3 hfz22_4 hfz22_5 hfz22_6 hfz22_7 hfz22_8 hfz22_9
  try clear hfz25_0 hfz25_1
  try clear hfz25_10 hfz25_11 hfz25_12 hfz25_13 hfz25_14 hfz25_15 hfz25_16 hfz25_17 hfz25_18 hfz25_19
  try clear hfz25_2
  try clear hfz25_20
  try clear hfz25_3 hfz25_4 hfz25_5 hfz25_6 hfz25_7 hfz25_8 hfz25_9
  try clear hfz27_0 hfz27_1
  try clear hfz27_10 hfz27_11 hfz27_12
  try clear hfz27_2 hfz27_3 hfz27_4 hfz27_5 hfz27_6 hfz27_7 hfz27_8 hfz27_9
  try clear hfz29_0 hfz29_1
  try clear hfz29_10 hfz29_11 hfz29_12 hfz29_13 hfz29_14 hfz29_15 hfz29_16 hfz29_17 hfz29_18 hfz29_19
  try clear hfz29_2
  try clear hfz29_20
  try clear hfz29_3 hfz29_4 hfz29_5 hfz29_6 hfz29_7 hfz29_8 hfz29_9
  try clear hfz30_0 hfz30_1
  try clear hfz30_10 hfz30_11 hfz30_12
  try clear hfz30_2 hfz30_3 hfz30_4 hfz30_5 hfz30_6 hfz30_7 hfz30_8 hfz30_9
  try clear hfz33_0 hfz33_1
  try clear hfz33_10 hfz33_11 hfz33_12 hfz33_13 hfz33_14 hfz33_15 hfz33_16 hfz33_17 hfz33_18 hfz33_19
  try clear hfz33_2
  try clear hfz33_20
  try clear hfz33_3 hfz33_4 hfz33_5 hfz33_6 hfz33_7 hfz33_8 hfz33_9
  try clear hfz35_0 hfz35_1
  try clear hfz35_10 hfz35_11 hfz35_12
  try clear hfz35_2 hfz35_3 hfz35_4 hfz35_5 hfz35_6 hfz35_7 hfz35_8 hfz35_9
  try clear hfz38_0 hfz38_1
  try clear hfz38_10 hfz38_11 hfz38_12 hfz38_13 hfz38_14 hfz38_15 hfz38_16 hfz38_17 hfz38_18 hfz38_19
  try clear hfz38_2
  try clear hfz38_20
  try clear hfz38_3 hfz38_4 hfz38_5 hfz38_6 hfz38_7 hfz38_8 hfz38_9
  obtain ⟨kq, x28_2, rfl, HA, HJ2, BK280, BK281, HB⟩ := hcut
  cases kq with
  | zero => exact absurd HA.out (by simp [spec_RuleHas.j0])
  | succ kj2 =>
   have H := HA.out
   clear HA
   simp only [spec_RuleHas.j0] at H
   by_cases c40 : x28_2 = true
   ·subst c40
    have H1 : (some false) = some r := by rw [if_pos rfl] at H; exact H
    clear H
    have H := H1
    clear H1
    obtain rfl := Option.some.inj H
    go_wp2_with (first | ((with_reducible refine Gv.gate_load (t := 55) rfl ?_); (try (refine gate_guard (by rfl) ?_; dsimp only)); refine wpList_load_row rfl 55 _ rfl gb280 rfl 55 _ _ _ (by first | exact Gv.kb0 BK280.out | exact Gv.kb1 (Gv.kb0 BK280.out)) Try.underlying55 rfl (by kernel_rfl) ?_) | ((with_reducible refine Gv.gate_load (t := 36) rfl ?_); (try (refine gate_guard (by rfl) ?_; dsimp only)); refine wpList_load_row rfl 36 _ rfl gb281 rfl 36 _ _ _ (by first | exact Gv.kb0 BK281.out | exact Gv.kb1 (Gv.kb0 BK281.out)) Try.underlying36 rfl (by kernel_rfl) ?_))
    go_ret
    exact ⟨Gv.rt, Gv.bw⟩
   ·replace c40 := Bool.eq_false_iff.mpr c40
    subst c40
    have H1 : (if a0_13 = (-1) then (if a1_11 ≥ a0_14 then (if a1_11 ≤ a0_15 then (if a1_12 ≥ a0_16 then (some (decide (a1_12 ≤ a0_17))) else (some false)) else (some false)) else (some false)) else (if a0_13 = a1_10 then (if a1_11 ≥ a0_14 then (if a1_11 ≤ a0_15 then (if a1_12 ≥ a0_16 then (some (decide (a1_12 ≤ a0_17))) else (some false)) else (some false)) else (some false)) else (some false))) = some r := by rw [if_neg (show ¬ (false = true) by decide)] at H; exact H
    clear H
    have H := H1
    clear H1
    by_cases c41 : a0_13 = (-1)
    ·rw [if_pos c41] at H
     have c41b0 : (a0_13 == (-1)) = true := beq_iff_eq.mpr c41
     have c41b1 : (a0_13 != (-1)) = false := bne_eq_false_iff_eq.mpr c41
     clear c41
     by_cases c42 : a1_11 ≥ a0_14
     ·rw [if_pos c42] at H
      have c42b0 : decide (a0_14 ≤ a1_11) = true := decide_eq_true c42
      clear c42
      by_cases c43 : a1_11 ≤ a0_15
      ·rw [if_pos c43] at H
       have c43b0 : decide (a1_11 ≤ a0_15) = true := decide_eq_true c43
       clear c43
       by_cases c44 : a1_12 ≥ a0_16
       ·rw [if_pos c44] at H
        have c44b0 : decide (a0_16 ≤ a1_12) = true := decide_eq_true c44
        clear c44
        obtain rfl := Option.some.inj H
        have hnb45 := NB280_281.out
        have hnc45 := NB281_280.out
        obtain ⟨hcz46_0, hcz46_1, hcz46_2, hcz46_3, hcz46_4, hcz46_5, hcz46_6, hcz46_7, hcz46_8, hcz46_9, hcz46_10, hcz46_11, hcz46_12, hcz46_13, hcz46_14, hcz46_15, hcz46_16, hcz46_17, hcz46_18, hcz46_19, hcz46_20⟩ := Gv.c21 BK280.out
        obtain ⟨hfz46_0, hfz46_1, hfz46_2, hfz46_3, hfz46_4, hfz46_5, hfz46_6, hfz46_7, hfz46_8, hfz46_9, hfz46_10, hfz46_11, hfz46_12, hfz46_13, hfz46_14, hfz46_15, hfz46_16, hfz46_17, hfz46_18, hfz46_19, hfz46_20⟩ := Gv.f21 BK280.out
        obtain ⟨hcz47_0, hcz47_1, hcz47_2, hcz47_3, hcz47_4, hcz47_5, hcz47_6, hcz47_7, hcz47_8, hcz47_9, hcz47_10, hcz47_11, hcz47_12⟩ := Gv.c13 BK281.out
        obtain ⟨hfz47_0, hfz47_1, hfz47_2, hfz47_3, hfz47_4, hfz47_5, hfz47_6, hfz47_7, hfz47_8, hfz47_9, hfz47_10, hfz47_11, hfz47_12⟩ := Gv.f13 BK281.out
        go_wp2_with (first | ((with_reducible refine Gv.gate_load (t := 55) rfl ?_); (try (refine gate_guard (by rfl) ?_; dsimp only)); refine wpList_load_row rfl 55 _ rfl gb280 rfl 55 _ _ _ (by first | exact Gv.kb0 BK280.out | exact Gv.kb1 (Gv.kb0 BK280.out)) Try.underlying55 rfl (by kernel_rfl) ?_) | ((with_reducible refine Gv.gate_load (t := 36) rfl ?_); (try (refine gate_guard (by rfl) ?_; dsimp only)); refine wpList_load_row rfl 36 _ rfl gb281 rfl 36 _ _ _ (by first | exact Gv.kb0 BK281.out | exact Gv.kb1 (Gv.kb0 BK281.out)) Try.underlying36 rfl (by kernel_rfl) ?_))
        go_ret
        exact ⟨Gv.rt, Gv.bw⟩
       ·rw [if_neg c44] at H
        have c44b0 : decide (a0_16 ≤ a1_12) = false := decide_eq_false c44
        clear c44
        obtain rfl := Option.some.inj H
        have hnb48 := NB280_281.out
        have hnc48 := NB281_280.out
        obtain ⟨hcz49_0, hcz49_1, hcz49_2, hcz49_3, hcz49_4, hcz49_5, hcz49_6, hcz49_7, hcz49_8, hcz49_9, hcz49_10, hcz49_11, hcz49_12, hcz49_13, hcz49_14, hcz49_15, hcz49_16, hcz49_17, hcz49_18, hcz49_19, hcz49_20⟩ := Gv.c21 BK280.out
        obtain ⟨hfz49_0, hfz49_1, hfz49_2, hfz49_3, hfz49_4, hfz49_5, hfz49_6, hfz49_7, hfz49_8, hfz49_9, hfz49_10, hfz49_11, hfz49_12, hfz49_13, hfz49_14, hfz49_15, hfz49_16, hfz49_17, hfz49_18, hfz49_19, hfz49_20⟩ := Gv.f21 BK280.out
        obtain ⟨hcz50_0, hcz50_1, hcz50_2, hcz50_3, hcz50_4, hcz50_5, hcz50_6, hcz50_7, hcz50_8, hcz50_9, hcz50_10, hcz50_11, hcz50_12⟩ := Gv.c13 BK281.out
        obtain ⟨hfz50_0, hfz50_1, hfz50_2, hfz50_3, hfz50_4, hfz50_5, hfz50_6, hfz50_7, hfz50_8, hfz50_9, hfz50_10, hfz50_11, hfz50_12⟩ := Gv.f13 BK281.out
        go_wp2_with (first | ((with_reducible refine Gv.gate_load (t := 55) rfl ?_); (try (refine gate_guard (by rfl) ?_; dsimp only)); refine wpList_load_row rfl 55 _ rfl gb280 rfl 55 _ _ _ (by first | exact Gv.kb0 BK280.out | exact Gv.kb1 (Gv.kb0 BK280.out)) Try.underlying55 rfl (by kernel_rfl) ?_) | ((with_reducible refine Gv.gate_load (t := 36) rfl ?_); (try (refine gate_guard (by rfl) ?_; dsimp only)); refine wpList_load_row rfl 36 _ rfl gb281 rfl 36 _ _ _ (by first | exact Gv.kb0 BK281.out | exact Gv.kb1 (Gv.kb0 BK281.out)) Try.underlying36 rfl (by kernel_rfl) ?_))
        go_ret
        exact ⟨Gv.rt, Gv.bw⟩
      ·rw [if_neg c43] at H
       have c43b0 : decide (a1_11 ≤ a0_15) = false := decide_eq_false c43
       clear c43
       obtain rfl := Option.some.inj H
       have hnb51 := NB280_281.out
       have hnc51 := NB281_280.out
       obtain ⟨hcz52_0, hcz52_1, hcz52_2, hcz52_3, hcz52_4, hcz52_5, hcz52_6, hcz52_7, hcz52_8, hcz52_9, hcz52_10, hcz52_11, hcz52_12, hcz52_13, hcz52_14, hcz52_15, hcz52_16, hcz52_17, hcz52_18, hcz52_19, hcz52_20⟩ := Gv.c21 BK280.out
       obtain ⟨hfz52_0, hfz52_1, hfz52_2, hfz52_3, hfz52_4, hfz52_5, hfz52_6, hfz52_7, hfz52_8, hfz52_9, hfz52_10, hfz52_11, hfz52_12, hfz52_13, hfz52_14, hfz52_15, hfz52_16, hfz52_17, hfz52_18, hfz52_19, hfz52_20⟩ := Gv.f21 BK280.out
       obtain ⟨hcz53_0, hcz53_1, hcz53_2, hcz53_3, hcz53_4, hcz53_5, hcz53_6, hcz53_7, hcz53_8, hcz53_9, hcz53_10, hcz53_11, hcz53_12⟩ := Gv.c13 BK281.out
       obtain ⟨hfz53_0, hfz53_1, hfz53_2, hfz53_3, hfz53_4, hfz53_5, hfz53_6, hfz53_7, hfz53_8, hfz53_9, hfz53_10, hfz53_11, hfz53_12⟩ := Gv.f13 BK281.out
       go_wp2_with (first | ((with_reducible refine Gv.gate_load (t := 55) rfl ?_); (try (refine gate_guard (by rfl) ?_; dsimp only)); refine wpList_load_row rfl 55 _ rfl gb280 rfl 55 _ _ _ (by first | exact Gv.kb0 BK280.out | exact Gv.kb1 (Gv.kb0 BK280.out)) Try.underlying55 rfl (by kernel_rfl) ?_) | ((with_reducible refine Gv.gate_load (t := 36) rfl ?_); (try (refine gate_guard (by rfl) ?_; dsimp only)); refine wpList_load_row rfl 36 _ rfl gb281 rfl 36 _ _ _ (by first | exact Gv.kb0 BK281.out | exact Gv.kb1 (Gv.kb0 BK281.out)) Try.underlying36 rfl (by kernel_rfl) ?_))
       go_ret
       exact ⟨Gv.rt, Gv.bw⟩
     ·rw [if_neg c42] at H
      have c42b0 : decide (a0_14 ≤ a1_11) = false := decide_eq_false c42
      clear c42
      obtain rfl := Option.some.inj H
      have hnb54 := NB280_281.out
      have hnc54 := NB281_280.out
      obtain ⟨hcz55_0, hcz55_1, hcz55_2, hcz55_3, hcz55_4, hcz55_5, hcz55_6, hcz55_7, hcz55_8, hcz55_9, hcz55_10, hcz55_11, hcz55_12, hcz55_13, hcz55_14, hcz55_15, hcz55_16, hcz55_17, hcz55_18, hcz55_19, hcz55_20⟩ := Gv.c21 BK280.out
      obtain ⟨hfz55_0, hfz55_1, hfz55_2, hfz55_3, hfz55_4, hfz55_5, hfz55_6, hfz55_7, hfz55_8, hfz55_9, hfz55_10, hfz55_11, hfz55_12, hfz55_13, hfz55_14, hfz55_15, hfz55_16, hfz55_17, hfz55_18, hfz55_19, hfz55_20⟩ := Gv.f21 BK280.out
      obtain ⟨hcz56_0, hcz56_1, hcz56_2, hcz56_3, hcz56_4, hcz56_5, hcz56_6, hcz56_7, hcz56_8, hcz56_9, hcz56_10, hcz56_11, hcz56_12⟩ := Gv.c13 BK281.out
      obtain ⟨hfz56_0, hfz56_1, hfz56_2, hfz56_3, hfz56_4, hfz56_5, hfz56_6, hfz56_7, hfz56_8, hfz56_9, hfz56_10, hfz56_11, hfz56_12⟩ := Gv.f13 BK281.out
      go_wp2_with (first | ((with_reducible refine Gv.gate_load (t := 55) rfl ?_); (try (refine gate_guard (by rfl) ?_; dsimp only)); refine wpList_load_row rfl 55 _ rfl gb280 rfl 55 _ _ _ (by first | exact Gv.kb0 BK280.out | exact Gv.kb1 (Gv.kb0 BK280.out)) Try.underlying55 rfl (by kernel_rfl) ?_) | ((with_reducible refine Gv.gate_load (t := 36) rfl ?_); (try (refine gate_guard (by rfl) ?_; dsimp only)); refine wpList_load_row rfl 36 _ rfl gb281 rfl 36 _ _ _ (by first | exact Gv.kb0 BK281.out | exact Gv.kb1 (Gv.kb0 BK281.out)) Try.underlying36 rfl (by kernel_rfl) ?_))
      go_ret
      exact ⟨Gv.rt, Gv.bw⟩
    ·rw [if_neg c41] at H
     have c41b0 : (a0_13 == (-1)) = false := beq_eq_false_iff_ne.mpr c41
     have c41b1 : (a0_13 != (-1)) = true := bne_iff_ne.mpr c41
     by_cases c57 : a0_13 = a1_10
     ·rw [if_pos c57] at H
      have c57b0 : (a0_13 == a1_10) = true := beq_iff_eq.mpr c57
      have c57b1 : (a0_13 != a1_10) = false := bne_eq_false_iff_eq.mpr c57
      clear c57
      by_cases c58 : a1_11 ≥ a0_14
      ·rw [if_pos c58] at H
       have c58b0 : decide (a0_14 ≤ a1_11) = true := decide_eq_true c58
       clear c58
       by_cases c59 : a1_11 ≤ a0_15
       ·rw [if_pos c59] at H
        have c59b0 : decide (a1_11 ≤ a0_15) = true := decide_eq_true c59
        clear c59
        by_cases c60 : a1_12 ≥ a0_16
        ·rw [if_pos c60] at H
         have c60b0 : decide (a0_16 ≤ a1_12) = true := decide_eq_true c60
         clear c60
         obtain rfl := Option.some.inj H
         have hnb61 := NB280_281.out
         have hnc61 := NB281_280.out
         obtain ⟨hcz62_0, hcz62_1, hcz62_2, hcz62_3, hcz62_4, hcz62_5, hcz62_6, hcz62_7, hcz62_8, hcz62_9, hcz62_10, hcz62_11, hcz62_12, hcz62_13, hcz62_14, hcz62_15, hcz62_16, hcz62_17, hcz62_18, hcz62_19, hcz62_20⟩ := Gv.c21 BK280.out
         obtain ⟨hfz62_0, hfz62_1, hfz62_2, hfz62_3, hfz62_4, hfz62_5, hfz62_6, hfz62_7, hfz62_8, hfz62_9, hfz62_10, hfz62_11, hfz62_12, hfz62_13, hfz62_14, hfz62_15, hfz62_16, hfz62_17, hfz62_18, hfz62_19, hfz62_20⟩ := Gv.f21 BK280.out
         obtain ⟨hcz63_0, hcz63_1, hcz63_2, hcz63_3, hcz63_4, hcz63_5, hcz63_6, hcz63_7, hcz63_8, hcz63_9, hcz63_10, hcz63_11, hcz63_12⟩ := Gv.c13 BK281.out
         obtain ⟨hfz63_0, hfz63_1, hfz63_2, hfz63_3, hfz63_4, hfz63_5, hfz63_6, hfz63_7, hfz63_8, hfz63_9, hfz63_10, hfz63_11, hfz63_12⟩ := Gv.f13 BK281.out
         go_wp2_with (first | ((with_reducible refine Gv.gate_load (t := 55) rfl ?_); (try (refine gate_guard (by rfl) ?_; dsimp only)); refine wpList_load_row rfl 55 _ rfl gb280 rfl 55 _ _ _ (by first | exact Gv.kb0 BK280.out | exact Gv.kb1 (Gv.kb0 BK280.out)) Try.underlying55 rfl (by kernel_rfl) ?_) | ((with_reducible refine Gv.gate_load (t := 36) rfl ?_); (try (refine gate_guard (by rfl) ?_; dsimp only)); refine wpList_load_row rfl 36 _ rfl gb281 rfl 36 _ _ _ (by first | exact Gv.kb0 BK281.out | exact Gv.kb1 (Gv.kb0 BK281.out)) Try.underlying36 rfl (by kernel_rfl) ?_))
         go_ret
         exact ⟨Gv.rt, Gv.bw⟩
        ·rw [if_neg c60] at H
         have c60b0 : decide (a0_16 ≤ a1_12) = false := decide_eq_false c60
         clear c60
         obtain rfl := Option.some.inj H
         have hnb64 := NB280_281.out
         have hnc64 := NB281_280.out
         obtain ⟨hcz65_0, hcz65_1, hcz65_2, hcz65_3, hcz65_4, hcz65_5, hcz65_6, hcz65_7, hcz65_8, hcz65_9, hcz65_10, hcz65_11, hcz65_12, hcz65_13, hcz65_14, hcz65_15, hcz65_16, hcz65_17, hcz65_18, hcz65_19, hcz65_20⟩ := Gv.c21 BK280.out
         obtain ⟨hfz65_0, hfz65_1, hfz65_2, hfz65_3, hfz65_4, hfz65_5, hfz65_6, hfz65_7, hfz65_8, hfz65_9, hfz65_10, hfz65_11, hfz65_12, hfz65_13, hfz65_14, hfz65_15, hfz65_16, hfz65_17, hfz65_18, hfz65_19, hfz65_20⟩ := Gv.f21 BK280.out
         obtain ⟨hcz66_0, hcz66_1, hcz66_2, hcz66_3, hcz66_4, hcz66_5, hcz66_6, hcz66_7, hcz66_8, hcz66_9, hcz66_10, hcz66_11, hcz66_12⟩ := Gv.c13 BK281.out
         obtain ⟨hfz66_0, hfz66_1, hfz66_2, hfz66_3, hfz66_4, hfz66_5, hfz66_6, hfz66_7, hfz66_8, hfz66_9, hfz66_10, hfz66_11, hfz66_12⟩ := Gv.f13 BK281.out
         go_wp2_with (first | ((with_reducible refine Gv.gate_load (t := 55) rfl ?_); (try (refine gate_guard (by rfl) ?_; dsimp only)); refine wpList_load_row rfl 55 _ rfl gb280 rfl 55 _ _ _ (by first | exact Gv.kb0 BK280.out | exact Gv.kb1 (Gv.kb0 BK280.out)) Try.underlying55 rfl (by kernel_rfl) ?_) | ((with_reducible refine Gv.gate_load (t := 36) rfl ?_); (try (refine gate_guard (by rfl) ?_; dsimp only)); refine wpList_load_row rfl 36 _ rfl gb281 rfl 36 _ _ _ (by first | exact Gv.kb0 BK281.out | exact Gv.kb1 (Gv.kb0 BK281.out)) Try.underlying36 rfl (by kernel_rfl) ?_))
         go_ret
         exact ⟨Gv.rt, Gv.bw⟩
       ·rw [if_neg c59] at H
        have c59b0 : decide (a1_11 ≤ a0_15) = false := decide_eq_false c59
        clear c59
        obtain rfl := Option.some.inj H
        have hnb67 := NB280_281.out
        have hnc67 := NB281_280.out
        obtain ⟨hcz68_0, hcz68_1, hcz68_2, hcz68_3, hcz68_4, hcz68_5, hcz68_6, hcz68_7, hcz68_8, hcz68_9, hcz68_10, hcz68_11, hcz68_12, hcz68_13, hcz68_14, hcz68_15, hcz68_16, hcz68_17, hcz68_18, hcz68_19, hcz68_20⟩ := Gv.c21 BK280.out
        obtain ⟨hfz68_0, hfz68_1, hfz68_2, hfz68_3, hfz68_4, hfz68_5, hfz68_6, hfz68_7, hfz68_8, hfz68_9, hfz68_10, hfz68_11, hfz68_12, hfz68_13, hfz68_14, hfz68_15, hfz68_16, hfz68_17, hfz68_18, hfz68_19, hfz68_20⟩ := Gv.f21 BK280.out
        obtain ⟨hcz69_0, hcz69_1, hcz69_2, hcz69_3, hcz69_4, hcz69_5, hcz69_6, hcz69_7, hcz69_8, hcz69_9, hcz69_10, hcz69_11, hcz69_12⟩ := Gv.c13 BK281.out
        obtain ⟨hfz69_0, hfz69_1, hfz69_2, hfz69_3, hfz69_4, hfz69_5, hfz69_6, hfz69_7, hfz69_8, hfz69_9, hfz69_10, hfz69_11, hfz69_12⟩ := Gv.f13 BK281.out
        go_wp2_with (first | ((with_reducible refine Gv.gate_load (t := 55) rfl ?_); (try (refine gate_guard (by rfl) ?_; dsimp only)); refine wpList_load_row rfl 55 _ rfl gb280 rfl 55 _ _ _ (by first | exact Gv.kb0 BK280.out | exact Gv.kb1 (Gv.kb0 BK280.out)) Try.underlying55 rfl (by kernel_rfl) ?_) | ((with_reducible refine Gv.gate_load (t := 36) rfl ?_); (try (refine gate_guard (by rfl) ?_; dsimp only)); refine wpList_load_row rfl 36 _ rfl gb281 rfl 36 _ _ _ (by first | exact Gv.kb0 BK281.out | exact Gv.kb1 (Gv.kb0 BK281.out)) Try.underlying36 rfl (by kernel_rfl) ?_))
        go_ret
        exact ⟨Gv.rt, Gv.bw⟩
      ·rw [if_neg c58] at H
       have c58b0 : decide (a0_14 ≤ a1_11) = false := decide_eq_false c58
       clear c58
       obtain rfl := Option.some.inj H
       have hnb70 := NB280_281.out
       have hnc70 := NB281_280.out
       obtain ⟨hcz71_0, hcz71_1, hcz71_2, hcz71_3, hcz71_4, hcz71_5, hcz71_6, hcz71_7, hcz71_8, hcz71_9, hcz71_10, hcz71_11, hcz71_12, hcz71_13, hcz71_14, hcz71_15, hcz71_16, hcz71_17, hcz71_18, hcz71_19, hcz71_20⟩ := Gv.c21 BK280.out
       obtain ⟨hfz71_0, hfz71_1, hfz71_2, hfz71_3, hfz71_4, hfz71_5, hfz71_6, hfz71_7, hfz71_8, hfz71_9, hfz71_10, hfz71_11, hfz71_12, hfz71_13, hfz71_14, hfz71_15, hfz71_16, hfz71_17, hfz71_18, hfz71_19, hfz71_20⟩ := Gv.f21 BK280.out
       obtain ⟨hcz72_0, hcz72_1, hcz72_2, hcz72_3, hcz72_4, hcz72_5, hcz72_6, hcz72_7, hcz72_8, hcz72_9, hcz72_10, hcz72_11, hcz72_12⟩ := Gv.c13 BK281.out
       obtain ⟨hfz72_0, hfz72_1, hfz72_2, hfz72_3, hfz72_4, hfz72_5, hfz72_6, hfz72_7, hfz72_8, hfz72_9, hfz72_10, hfz72_11, hfz72_12⟩ := Gv.f13 BK281.out
       go_wp2_with (first | ((with_reducible refine Gv.gate_load (t := 55) rfl ?_); (try (refine gate_guard (by rfl) ?_; dsimp only)); refine wpList_load_row rfl 55 _ rfl gb280 rfl 55 _ _ _ (by first | exact Gv.kb0 BK280.out | exact Gv.kb1 (Gv.kb0 BK280.out)) Try.underlying55 rfl (by kernel_rfl) ?_) | ((with_reducible refine Gv.gate_load (t := 36) rfl ?_); (try (refine gate_guard (by rfl) ?_; dsimp only)); refine wpList_load_row rfl 36 _ rfl gb281 rfl 36 _ _ _ (by first | exact Gv.kb0 BK281.out | exact Gv.kb1 (Gv.kb0 BK281.out)) Try.underlying36 rfl (by kernel_rfl) ?_))
       go_ret
       exact ⟨Gv.rt, Gv.bw⟩
     ·rw [if_neg c57] at H
      have c57b0 : (a0_13 == a1_10) = false := beq_eq_false_iff_ne.mpr c57
      have c57b1 : (a0_13 != a1_10) = true := bne_iff_ne.mpr c57
      obtain rfl := Option.some.inj H
      have hnb73 := NB280_281.out
      have hnc73 := NB281_280.out
      obtain ⟨hcz74_0, hcz74_1, hcz74_2, hcz74_3, hcz74_4, hcz74_5, hcz74_6, hcz74_7, hcz74_8, hcz74_9, hcz74_10, hcz74_11, hcz74_12, hcz74_13, hcz74_14, hcz74_15, hcz74_16, hcz74_17, hcz74_18, hcz74_19, hcz74_20⟩ := Gv.c21 BK280.out
      obtain ⟨hfz74_0, hfz74_1, hfz74_2, hfz74_3, hfz74_4, hfz74_5, hfz74_6, hfz74_7, hfz74_8, hfz74_9, hfz74_10, hfz74_11, hfz74_12, hfz74_13, hfz74_14, hfz74_15, hfz74_16, hfz74_17, hfz74_18, hfz74_19, hfz74_20⟩ := Gv.f21 BK280.out
      obtain ⟨hcz75_0, hcz75_1, hcz75_2, hcz75_3, hcz75_4, hcz75_5, hcz75_6, hcz75_7, hcz75_8, hcz75_9, hcz75_10, hcz75_11, hcz75_12⟩ := Gv.c13 BK281.out
      obtain ⟨hfz75_0, hfz75_1, hfz75_2, hfz75_3, hfz75_4, hfz75_5, hfz75_6, hfz75_7, hfz75_8, hfz75_9, hfz75_10, hfz75_11, hfz75_12⟩ := Gv.f13 BK281.out
      go_wp2_with (first | ((with_reducible refine Gv.gate_load (t := 55) rfl ?_); (try (refine gate_guard (by rfl) ?_; dsimp only)); refine wpList_load_row rfl 55 _ rfl gb280 rfl 55 _ _ _ (by first | exact Gv.kb0 BK280.out | exact Gv.kb1 (Gv.kb0 BK280.out)) Try.underlying55 rfl (by kernel_rfl) ?_) | ((with_reducible refine Gv.gate_load (t := 36) rfl ?_); (try (refine gate_guard (by rfl) ?_; dsimp only)); refine wpList_load_row rfl 36 _ rfl gb281 rfl 36 _ _ _ (by first | exact Gv.kb0 BK281.out | exact Gv.kb1 (Gv.kb0 BK281.out)) Try.underlying36 rfl (by kernel_rfl) ?_))
      go_ret
      exact ⟨Gv.rt, Gv.bw⟩

end Go.Proofs.Ytbihbbkdciebhaa.PRf
