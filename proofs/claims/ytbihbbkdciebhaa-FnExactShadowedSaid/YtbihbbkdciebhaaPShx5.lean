/- Plain Lean functions of a law's Go functions, their contracts, by a program of this session (wip/pr.py over the kit's print). -/
import Derived.Test.YtbihbbkdciebhaaPShx0
import Derived.Test.YtbihbbkdciebhaaPShx1
import Derived.Test.YtbihbbkdciebhaaPShx3
import Derived.Test.YtbihbbkdciebhaaPShx4
namespace Go.Proofs.Ytbihbbkdciebhaa.PSh
open Go.RowKit Go.Proofs.YtbihbbkdciebhaaW.PrintWords Go.Proofs.YtbihbbkdciebhaaW.PrintLast Go.Proofs.YtbihbbkdciebhaaW.PrintMore
attribute [local go_sem] max2_int min2_int max_two min_two max_three min_three max_four min_four   -- for this text's walks alone
set_option linter.unusedVariables false
set_option linter.unusedSimpArgs false

attribute [local go_sem high] eqA34
/-! ### spec_RulesOk: function 9 -/
def spec_RulesOk.l0 : Nat → List (S55) → Int → Option (Bool)
 | 0, _, _ => none
 | k + 1, x0, x3 => if x3 < (x0.length : Int) then (if 0 ≤ x3 then ((spec_RuleOk.f k ((rd_T55 x0 x3).f0) ((rd_T55 x0 x3).f1.f0.f0) ((rd_T55 x0 x3).f1.f0.f1) ((rd_T55 x0 x3).f1.f0.f2) ((rd_T55 x0 x3).f1.f0.f3) ((rd_T55 x0 x3).f1.f0.f4) ((rd_T55 x0 x3).f1.f1) ((rd_T55 x0 x3).f2.f0.f0) ((rd_T55 x0 x3).f2.f0.f1) ((rd_T55 x0 x3).f2.f0.f2) ((rd_T55 x0 x3).f2.f0.f3) ((rd_T55 x0 x3).f2.f0.f4) ((rd_T55 x0 x3).f2.f1) ((rd_T55 x0 x3).f3) ((rd_T55 x0 x3).f4) ((rd_T55 x0 x3).f5) ((rd_T55 x0 x3).f6) ((rd_T55 x0 x3).f7) ((rd_T55 x0 x3).f8) ((rd_T55 x0 x3).f9) ((rd_T55 x0 x3).f10)).bind fun t258 => (if t258 = true then (if x3 > 0 then (if 0 ≤ (wrap64 (x3 - 1)) then (if (wrap64 (x3 - 1)) < (x0.length : Int) then (if ((rd_T55 x0 (wrap64 (x3 - 1))).f0) ≥ ((rd_T55 x0 x3).f0) then (some false) else (spec_RulesOk.l0 k x0 (wrap64 (x3 + 1)))) else (none)) else (none)) else (spec_RulesOk.l0 k x0 (wrap64 (x3 + 1)))) else (some false))) else (none)) else (some true)
def spec_RulesOk.f (k : Nat) (l0 : List (S55)) : Option (Bool) := if (l0.length : Int) > 32 then (some false) else (spec_RulesOk.l0 k l0 0)
theorem spec_RulesOk.mono_l : ∀ k, (∀ y0 y1, LeO (spec_RulesOk.l0 k y0 y1) (spec_RulesOk.l0 (k + 1) y0 y1))
 | 0 => fun _ _ r h => by simp [spec_RulesOk.l0] at h
 | k + 1 => by
  have ih0 := spec_RulesOk.mono_l k
  ·intro y0 y1
   unfold spec_RulesOk.l0
   repeat' first
   | (with_reducible exact ih0 _ _)
   | (with_reducible exact spec_RuleOk.mono _ _ _ _ _ _ _ _ _ _ _ _ _ _ _ _ _ _ _ _ _ _)
   | (with_reducible exact LeO.refl _)
   | (with_reducible exact LeO.none _)
   | (with_reducible refine LeO.ite ?_ ?_)
   | (with_reducible refine LeO.bind ?_ (fun _ => ?_))
   | exact ih0 _ _
   | exact spec_RuleOk.mono _ _ _ _ _ _ _ _ _ _ _ _ _ _ _ _ _ _ _ _ _ _
   | exact LeO.none _
   | refine LeO.ite ?_ ?_
   | refine LeO.bind ?_ (fun _ => ?_)
theorem spec_RulesOk.mono : ∀ a0 k, LeO (spec_RulesOk.f k a0) (spec_RulesOk.f (k + 1) a0) := by
 intro a0 k
 have ih0 := spec_RulesOk.mono_l k
 unfold spec_RulesOk.f
 repeat' first
   | (with_reducible exact ih0 _ _)
   | (with_reducible exact spec_RuleOk.mono _ _ _ _ _ _ _ _ _ _ _ _ _ _ _ _ _ _ _ _ _ _)
   | (with_reducible exact LeO.refl _)
   | (with_reducible exact LeO.none _)
   | (with_reducible refine LeO.ite ?_ ?_)
   | (with_reducible refine LeO.bind ?_ (fun _ => ?_))
   | exact ih0 _ _
   | exact spec_RuleOk.mono _ _ _ _ _ _ _ _ _ _ _ _ _ _ _ _ _ _ _ _ _ _
   | exact LeO.none _
   | refine LeO.ite ?_ ?_
   | refine LeO.bind ?_ (fun _ => ?_)
def spec_RulesOk.T6 : Bool × List (List Nat × List Nat) := (true, [([], []), ([], []), ([0, 1], [0, 1]), ([2], [2]), ([3], [3]), ([4], [4]), ([5, 4], [5]), ([6], [6]), ([7, 6], [6, 7]), ([8, 6, 6], [6, 8]), ([9], [9]), ([9], [9]), ([11, 9], [9, 11]), ([10, 12, 9], [9, 10, 12]), ([13, 9], [9, 13]), ([14, 9], [9, 14]), ([9], [9]), ([9], [9]), ([16, 17, 9], [9, 16, 17]), ([18, 9], [9, 18]), ([19, 9], [9, 19]), ([15, 20, 9], [9, 15, 20]), ([9, 21, 6], [6, 9, 21]), ([6, 22], [6, 22])])
def spec_RulesOk.B6 : List Nat := [0, 0, 3, 7, 15, 31, 63, 127, 255, 511, 1023, 1023, 3071, 8191, 16383, 32767, 1023, 1023, 197631, 459775, 984063, 2097151, 4194303, 8388607]
theorem spec_RulesOk.tab6 : rtab .any (opsOf Try.f9 6) = spec_RulesOk.T6 := by kernel_rfl
theorem spec_RulesOk.bits6 : waitsOk spec_RulesOk.T6.2 spec_RulesOk.B6 = true := by kernel_rfl
set_option maxHeartbeats 8000000 in
set_option maxRecDepth 100000 in
theorem spec_RulesOk.calls (k : Nat) (A0 : Option Addr) (c0 : Nat) (l0 : List (S55)) (r : Bool) (w : World) (hr0 : Kd.C k55 w A0 l0.length l0) (hc0 : l0.length ≤ c0) (h : spec_RulesOk.f k l0 = some r) :
  Calls Try.prog 9 #[.slice A0 l0.length c0] w fun e w' => e = .returned (.bool r) ∧ Below w.heap.size w w' := by
 have hu55 := Try.underlying55
 have HR0 := Gv.a0 hr0
 have HC0 := Gv.a0 hc0
 clear hr0 hc0
 have HB := Gv.a0 (Below.refl w.heap.size w)
 have H : (if (l0.length : Int) > 32 then (some false) else (spec_RulesOk.l0 k l0 0)) = some r := h
 clear h
 by_cases c2 : (l0.length : Int) > 32
 ·rw [if_pos c2] at H
  have c2b0 : decide (32 < (l0.length : Int)) = true := decide_eq_true c2
  have c2b1 : decide (32 < l0.length) = true := decide_eq_true (by omega)
  clear c2
  obtain rfl := Option.some.inj H
  go_enter Try.func9, Try.ntmps9
  go_wp2
  go_ret
  exact ⟨Gv.rt, Gv.bw⟩
 ·rw [if_neg c2] at H
  have c2b0 : decide (32 < (l0.length : Int)) = false := decide_eq_false c2
  have c2b1 : decide (32 < l0.length) = false := decide_eq_false (by omega)
  clear c2
  have H' := Gv.a0 H
  clear H
  go_enter Try.func9, Try.ntmps9
  go_wp2
  go_loopg [3] k (fun kq v3 w' => ∃ (x3_1 : Int), v3 = .int .i64 x3_1 ∧ Aside0 (spec_RulesOk.l0 kq l0 x3_1 = some r) ∧ Aside0 (kq ≤ k) ∧ Aside0 (Below w.heap.size w w'))
  case atStart => exact ⟨(0), Gv.rq, H', ⟨Nat.le_refl _⟩, ⟨Gv.bw⟩⟩
  case round =>
   clear H'
   try clear c2
   try clear c2b0
   try clear c2b1
   try clear p2
   obtain ⟨x3_1, rfl, HA, HK1, HB⟩ := hrel
   cases gk with
   | zero => exact absurd HA.out (by simp [spec_RulesOk.l0])
   | succ k1 =>
    have H := HA.out
    clear HA
    simp only [spec_RulesOk.l0] at H
    by_cases c3 : x3_1 < (l0.length : Int)
    ·rw [if_pos c3] at H
     have c3b0 : decide (x3_1 < (l0.length : Int)) = true := decide_eq_true c3
     clear c3
     by_cases c4 : 0 ≤ x3_1
     ·rw [if_pos c4] at H
      have c4b0 : decide (0 ≤ x3_1) = true := decide_eq_true c4
      clear c4
      replace H := Option.bind_eq_some_iff.mp H
      obtain ⟨t258, A50, H⟩ := H
      replace H : (if t258 = true then (if x3_1 > 0 then (if 0 ≤ (wrap64 (x3_1 - 1)) then (if (wrap64 (x3_1 - 1)) < (l0.length : Int) then (if ((rd_T55 l0 (wrap64 (x3_1 - 1))).f0) ≥ ((rd_T55 l0 x3_1).f0) then (some false) else (spec_RulesOk.l0 k1 l0 (wrap64 (x3_1 + 1)))) else (none)) else (none)) else (spec_RulesOk.l0 k1 l0 (wrap64 (x3_1 + 1)))) else (some false)) = some r := H
      have A5 := Gv.a0 A50
      clear A50
      by_cases c6 : t258 = true
      ·subst c6
       have H1 : (if x3_1 > 0 then (if 0 ≤ (wrap64 (x3_1 - 1)) then (if (wrap64 (x3_1 - 1)) < (l0.length : Int) then (if ((rd_T55 l0 (wrap64 (x3_1 - 1))).f0) ≥ ((rd_T55 l0 x3_1).f0) then (some false) else (spec_RulesOk.l0 k1 l0 (wrap64 (x3_1 + 1)))) else (none)) else (none)) else (spec_RulesOk.l0 k1 l0 (wrap64 (x3_1 + 1)))) = some r := by rw [if_pos rfl] at H; exact H
       clear H
       have H := H1
       clear H1
       by_cases c7 : x3_1 > 0
       ·rw [if_pos c7] at H
        have c7b0 : decide (0 < x3_1) = true := decide_eq_true c7
        clear c7
        obtain ⟨ji8, hji8⟩ : ∃ j_ : Int, (wrap64 (x3_1 - 1)) = j_ := ⟨_, rfl⟩
        replace H : (if 0 ≤ (ji8) then (if (ji8) < (l0.length : Int) then (if ((rd_T55 l0 (ji8)).f0) ≥ ((rd_T55 l0 x3_1).f0) then (some false) else (spec_RulesOk.l0 k1 l0 (wrap64 (x3_1 + 1)))) else (none)) else (none)) = some r := by first | (rw [hji8] at H; exact H) | (simp only [hji8] at H ⊢; exact H)
        (try rw [hji8] at A5)
        have hji8w : (IntKind.i64.wrap (x3_1 - 1)) = ji8 := (i64_w _).trans hji8
        by_cases c9 : 0 ≤ (ji8)
        ·rw [if_pos c9] at H
         have c9b0 : decide (0 ≤ (ji8)) = true := decide_eq_true c9
         clear c9
         by_cases c10 : (ji8) < (l0.length : Int)
         ·rw [if_pos c10] at H
          have c10b0 : decide ((ji8) < (l0.length : Int)) = true := decide_eq_true c10
          clear c10
          by_cases c11 : ((rd_T55 l0 (ji8)).f0) ≥ ((rd_T55 l0 x3_1).f0)
          ·rw [if_pos c11] at H
           have c11b0 : decide (((rd_T55 l0 x3_1).f0) ≤ ((rd_T55 l0 (ji8)).f0)) = true := decide_eq_true c11
           clear c11
           obtain rfl := Option.some.inj H
           try go_wp2
           have n0_ := Gv.a0 (below_drew1 HB.out)
           clear HB
           have HB := n0_
           clear n0_
           have p257 : 0 ≤ (x3_1 : Int) := of_decide_eq_true (by first | (with_reducible assumption) | assumption)
           have q257 : x3_1 < (l0.length : Int) := of_decide_eq_true (by first | (with_reducible assumption) | assumption)
           obtain ⟨ad257, e257, hx257_0, hx257_1, hx257_2, hx257_3, hx257_4, hx257_5, hx257_6, hx257_7, hx257_8, hx257_9, hx257_10, hx257_11, hx257_12, hx257_13, hx257_14, hx257_15, hx257_16, hx257_17, hx257_18, hx257_19, hx257_20⟩ := at_T55 HR0.out x3_1 p257 q257
           have hw257_20 := hx257_20
           have hw257_19 := hx257_19
           have hw257_18 := hx257_18
           have hw257_17 := hx257_17
           have hw257_16 := hx257_16
           have hw257_15 := hx257_15
           have hw257_14 := hx257_14
           have hw257_13 := hx257_13
           have hw257_12 := hx257_12
           have hw257_11 := hx257_11
           have hw257_10 := hx257_10
           have hw257_9 := hx257_9
           have hw257_8 := hx257_8
           have hw257_7 := hx257_7
           have hw257_6 := hx257_6
           have hw257_5 := hx257_5
           have hw257_4 := hx257_4
           have hw257_3 := hx257_3
           have hw257_2 := hx257_2
           have hw257_1 := hx257_1
           have hw257_0 := hx257_0
           cases e257
           replace hx257_0 := Gv.bx HB.out hx257_0
           replace hx257_1 := Gv.bx HB.out hx257_1
           replace hx257_2 := Gv.bx HB.out hx257_2
           replace hx257_3 := Gv.bx HB.out hx257_3
           replace hx257_4 := Gv.bx HB.out hx257_4
           replace hx257_5 := Gv.bx HB.out hx257_5
           replace hx257_6 := Gv.bx HB.out hx257_6
           replace hx257_7 := Gv.bx HB.out hx257_7
           replace hx257_8 := Gv.bx HB.out hx257_8
           replace hx257_9 := Gv.bx HB.out hx257_9
           replace hx257_10 := Gv.bx HB.out hx257_10
           replace hx257_11 := Gv.bx HB.out hx257_11
           replace hx257_12 := Gv.bx HB.out hx257_12
           replace hx257_13 := Gv.bx HB.out hx257_13
           replace hx257_14 := Gv.bx HB.out hx257_14
           replace hx257_15 := Gv.bx HB.out hx257_15
           replace hx257_16 := Gv.bx HB.out hx257_16
           replace hx257_17 := Gv.bx HB.out hx257_17
           replace hx257_18 := Gv.bx HB.out hx257_18
           replace hx257_19 := Gv.bx HB.out hx257_19
           replace hx257_20 := Gv.bx HB.out hx257_20
           replace p257 := eq_true p257
           replace q257 := eq_true q257
           have p259 : 0 ≤ ((ji8) : Int) := of_decide_eq_true (by first | (with_reducible assumption) | assumption)
           have q259 : (ji8) < (l0.length : Int) := of_decide_eq_true (by first | (with_reducible assumption) | assumption)
           obtain ⟨ad259, e259, hx259_0, _, _, _, _, _, _, _, _, _, _, _, _, _, _, _, _, _, _, _, _⟩ := at_T55 HR0.out (ji8) p259 q259
           have hw259_0 := hx259_0
           obtain rfl : ad257 = ad259 := (by injection e259)
           replace hx259_0 := Gv.bx HB.out hx259_0
           replace p259 := eq_true p259
           replace q259 := eq_true q259
           have p260 : 0 ≤ (x3_1 : Int) := of_decide_eq_true (by first | (with_reducible assumption) | assumption)
           have q260 : x3_1 < (l0.length : Int) := of_decide_eq_true (by first | (with_reducible assumption) | assumption)
           obtain ⟨ad260, e260, hx260_0, _, _, _, _, _, _, _, _, _, _, _, _, _, _, _, _, _, _, _, _⟩ := at_T55 HR0.out x3_1 p260 q260
           have hw260_0 := hx260_0
           obtain rfl : ad257 = ad260 := (by injection e260)
           replace hx260_0 := Gv.bx HB.out hx260_0
           replace p260 := eq_true p260
           replace q260 := eq_true q260
           refine start_ (n := 24) (S := fun w' => w'.cell? (ad257.add ((x3_1).toNat * 21)) = some (.int .i64 ((rd_T55 l0 x3_1).f0)) ∧ w'.cell? ⟨(ad257.add ((x3_1).toNat * 21)).block, (ad257.add ((x3_1).toNat * 21)).off + 1, none⟩ = some (.int .i64 ((rd_T55 l0 x3_1).f1.f0.f0)) ∧ w'.cell? ⟨(ad257.add ((x3_1).toNat * 21)).block, (ad257.add ((x3_1).toNat * 21)).off + 2, none⟩ = some (.int .i64 ((rd_T55 l0 x3_1).f1.f0.f1)) ∧ w'.cell? ⟨(ad257.add ((x3_1).toNat * 21)).block, (ad257.add ((x3_1).toNat * 21)).off + 3, none⟩ = some (.int .i64 ((rd_T55 l0 x3_1).f1.f0.f2)) ∧ w'.cell? ⟨(ad257.add ((x3_1).toNat * 21)).block, (ad257.add ((x3_1).toNat * 21)).off + 4, none⟩ = some (.int .i64 ((rd_T55 l0 x3_1).f1.f0.f3)) ∧ w'.cell? ⟨(ad257.add ((x3_1).toNat * 21)).block, (ad257.add ((x3_1).toNat * 21)).off + 5, none⟩ = some (.int .i64 ((rd_T55 l0 x3_1).f1.f0.f4)) ∧ w'.cell? ⟨(ad257.add ((x3_1).toNat * 21)).block, (ad257.add ((x3_1).toNat * 21)).off + 6, none⟩ = some (.int .i64 ((rd_T55 l0 x3_1).f1.f1)) ∧ w'.cell? ⟨(ad257.add ((x3_1).toNat * 21)).block, (ad257.add ((x3_1).toNat * 21)).off + 7, none⟩ = some (.int .i64 ((rd_T55 l0 x3_1).f2.f0.f0)) ∧ w'.cell? ⟨(ad257.add ((x3_1).toNat * 21)).block, (ad257.add ((x3_1).toNat * 21)).off + 8, none⟩ = some (.int .i64 ((rd_T55 l0 x3_1).f2.f0.f1)) ∧ w'.cell? ⟨(ad257.add ((x3_1).toNat * 21)).block, (ad257.add ((x3_1).toNat * 21)).off + 9, none⟩ = some (.int .i64 ((rd_T55 l0 x3_1).f2.f0.f2)) ∧ w'.cell? ⟨(ad257.add ((x3_1).toNat * 21)).block, (ad257.add ((x3_1).toNat * 21)).off + 10, none⟩ = some (.int .i64 ((rd_T55 l0 x3_1).f2.f0.f3)) ∧ w'.cell? ⟨(ad257.add ((x3_1).toNat * 21)).block, (ad257.add ((x3_1).toNat * 21)).off + 11, none⟩ = some (.int .i64 ((rd_T55 l0 x3_1).f2.f0.f4)) ∧ w'.cell? ⟨(ad257.add ((x3_1).toNat * 21)).block, (ad257.add ((x3_1).toNat * 21)).off + 12, none⟩ = some (.int .i64 ((rd_T55 l0 x3_1).f2.f1)) ∧ w'.cell? ⟨(ad257.add ((x3_1).toNat * 21)).block, (ad257.add ((x3_1).toNat * 21)).off + 13, none⟩ = some (.int .i64 ((rd_T55 l0 x3_1).f3)) ∧ w'.cell? ⟨(ad257.add ((x3_1).toNat * 21)).block, (ad257.add ((x3_1).toNat * 21)).off + 14, none⟩ = some (.int .i64 ((rd_T55 l0 x3_1).f4)) ∧ w'.cell? ⟨(ad257.add ((x3_1).toNat * 21)).block, (ad257.add ((x3_1).toNat * 21)).off + 15, none⟩ = some (.int .i64 ((rd_T55 l0 x3_1).f5)) ∧ w'.cell? ⟨(ad257.add ((x3_1).toNat * 21)).block, (ad257.add ((x3_1).toNat * 21)).off + 16, none⟩ = some (.int .i64 ((rd_T55 l0 x3_1).f6)) ∧ w'.cell? ⟨(ad257.add ((x3_1).toNat * 21)).block, (ad257.add ((x3_1).toNat * 21)).off + 17, none⟩ = some (.int .i64 ((rd_T55 l0 x3_1).f7)) ∧ w'.cell? ⟨(ad257.add ((x3_1).toNat * 21)).block, (ad257.add ((x3_1).toNat * 21)).off + 18, none⟩ = some (.int .i64 ((rd_T55 l0 x3_1).f8)) ∧ w'.cell? ⟨(ad257.add ((x3_1).toNat * 21)).block, (ad257.add ((x3_1).toNat * 21)).off + 19, none⟩ = some (.int .i64 ((rd_T55 l0 x3_1).f9)) ∧ w'.cell? ⟨(ad257.add ((x3_1).toNat * 21)).block, (ad257.add ((x3_1).toNat * 21)).off + 20, none⟩ = some (.int .i64 ((rd_T55 l0 x3_1).f10)) ∧ w'.cell? (ad257.add (((ji8)).toNat * 21)) = some (.int .i64 ((rd_T55 l0 (ji8)).f0)) ∧ w'.cell? (ad257.add ((x3_1).toNat * 21)) = some (.int .i64 ((rd_T55 l0 x3_1).f0))) (ds := []) #[false, false, false, false, false, false, false, false, false, false, false, false, false, false, false, false, false, false, false, false, false, false, false, false] (by kernel_rfl) rfl rfl ⟨(Gv.bx HB.out hw257_0), (Gv.bx HB.out hw257_1), (Gv.bx HB.out hw257_2), (Gv.bx HB.out hw257_3), (Gv.bx HB.out hw257_4), (Gv.bx HB.out hw257_5), (Gv.bx HB.out hw257_6), (Gv.bx HB.out hw257_7), (Gv.bx HB.out hw257_8), (Gv.bx HB.out hw257_9), (Gv.bx HB.out hw257_10), (Gv.bx HB.out hw257_11), (Gv.bx HB.out hw257_12), (Gv.bx HB.out hw257_13), (Gv.bx HB.out hw257_14), (Gv.bx HB.out hw257_15), (Gv.bx HB.out hw257_16), (Gv.bx HB.out hw257_17), (Gv.bx HB.out hw257_18), (Gv.bx HB.out hw257_19), (Gv.bx HB.out hw257_20), (Gv.bx HB.out hw259_0), (Gv.bx HB.out hw260_0)⟩ (fun hHeld => ?_); refine with_tabW spec_RulesOk.tab6 spec_RulesOk.bits6 (fun HT_ HW_ => ?_)
           generalize wr.drew = w12 at HB hx257_0 hx257_1 hx257_10 hx257_11 hx257_12 hx257_13 hx257_14 hx257_15 hx257_16 hx257_17 hx257_18 hx257_19 hx257_2 hx257_20 hx257_3 hx257_4 hx257_5 hx257_6 hx257_7 hx257_8 hx257_9 hx259_0 hx260_0 hHeld ⊢
           refine Gv.pu 0 (some 13) HT_ ?_
           refine Gv.pu 1 (some 14) HT_ ?_
           refine Gv.pu 2 (some 15) HT_ ?_
           refine take_ (i := 3) (N := some 16) (v := ?_) (a' := ?_) #[true, true, true, true, false, false, false, false, false, false, false, false, false, false, false, false, false, false, false, false, false, false, false, false] rfl rfl (take_ofW HT_.out HW_.out (by kernel_rfl)) (fun _ _ _ h => h) (Or.inl ⟨by rfl, ?_⟩) hHeld ?_ ?_
           rotate_left
           ·rintro w' ⟨s0, s1, s2, s3, s4, s5, s6, s7, s8, s9, s10, s11, s12, s13, s14, s15, s16, s17, s18, s19, s20, s21, s22⟩
            first | ((refine Gv.load_run (t := 55) (A := ad257.add ((x3_1).toNat * 21)) (cs := [_, _, _, _, _, _, _, _, _, _, _, _, _, _, _, _, _, _, _, _, _]) (x := ?xx7_) ?ho7_ ?hx7_ ⟨s0, s1, s2, s3, s4, s5, s6, s7, s8, s9, s10, s11, s12, s13, s14, s15, s16, s17, s18, s19, s20, trivial⟩ Try.underlying55 rfl (by kernel_rfl)); (case ho7_ => rfl); (case hx7_ => rfl)) | (go_simp; with_reducible rfl)
           rotate_left
           ·simp only [Act.put, List.setIfInBounds_toArray, List.set_cons_zero, List.set_cons_succ, i64_w, i32_w]
            rfl
           refine one_ (i := 4) (N := some 17) #[true, true, true, true, true, false, false, false, false, false, false, false, false, false, false, false, false, false, false, false, false, false, false, false] rfl rfl (one_of HT_.out (by kernel_rfl)) (by decide) (fun K hK => ?_)
           refine goes_ Try.func28 (by kernel_rfl) rfl #[.agg #[.int .i64 ((rd_T55 l0 x3_1).f0), .int .i64 ((rd_T55 l0 x3_1).f1.f0.f0), .int .i64 ((rd_T55 l0 x3_1).f1.f0.f1), .int .i64 ((rd_T55 l0 x3_1).f1.f0.f2), .int .i64 ((rd_T55 l0 x3_1).f1.f0.f3), .int .i64 ((rd_T55 l0 x3_1).f1.f0.f4), .int .i64 ((rd_T55 l0 x3_1).f1.f1), .int .i64 ((rd_T55 l0 x3_1).f2.f0.f0), .int .i64 ((rd_T55 l0 x3_1).f2.f0.f1), .int .i64 ((rd_T55 l0 x3_1).f2.f0.f2), .int .i64 ((rd_T55 l0 x3_1).f2.f0.f3), .int .i64 ((rd_T55 l0 x3_1).f2.f0.f4), .int .i64 ((rd_T55 l0 x3_1).f2.f1), .int .i64 ((rd_T55 l0 x3_1).f3), .int .i64 ((rd_T55 l0 x3_1).f4), .int .i64 ((rd_T55 l0 x3_1).f5), .int .i64 ((rd_T55 l0 x3_1).f6), .int .i64 ((rd_T55 l0 x3_1).f7), .int .i64 ((rd_T55 l0 x3_1).f8), .int .i64 ((rd_T55 l0 x3_1).f9), .int .i64 ((rd_T55 l0 x3_1).f10)]] (by rfl) rfl rfl Gv.lm ?_
           with_reducible refine (spec_RuleOk.calls k1 ((rd_T55 l0 x3_1).f0) ((rd_T55 l0 x3_1).f1.f0.f0) ((rd_T55 l0 x3_1).f1.f0.f1) ((rd_T55 l0 x3_1).f1.f0.f2) ((rd_T55 l0 x3_1).f1.f0.f3) ((rd_T55 l0 x3_1).f1.f0.f4) ((rd_T55 l0 x3_1).f1.f1) ((rd_T55 l0 x3_1).f2.f0.f0) ((rd_T55 l0 x3_1).f2.f0.f1) ((rd_T55 l0 x3_1).f2.f0.f2) ((rd_T55 l0 x3_1).f2.f0.f3) ((rd_T55 l0 x3_1).f2.f0.f4) ((rd_T55 l0 x3_1).f2.f1) ((rd_T55 l0 x3_1).f3) ((rd_T55 l0 x3_1).f4) ((rd_T55 l0 x3_1).f5) ((rd_T55 l0 x3_1).f6) ((rd_T55 l0 x3_1).f7) ((rd_T55 l0 x3_1).f8) ((rd_T55 l0 x3_1).f9) ((rd_T55 l0 x3_1).f10) true _ A5.out).mono ?_
           rintro e w13 ⟨rfl, hb⟩
           refine ⟨_, rfl, ?_⟩
           have n0_ := Gv.a0 (below_step Gv.bw hb)
           clear HB
           have HB := n0_
           clear n0_
           (try clear hb)
           (try clear hb2)
           (try clear hk)
           (try clear hi)
           refine hK.out _ _ ⟨(Gv.bx HB.out hw257_0), (Gv.bx HB.out hw257_1), (Gv.bx HB.out hw257_2), (Gv.bx HB.out hw257_3), (Gv.bx HB.out hw257_4), (Gv.bx HB.out hw257_5), (Gv.bx HB.out hw257_6), (Gv.bx HB.out hw257_7), (Gv.bx HB.out hw257_8), (Gv.bx HB.out hw257_9), (Gv.bx HB.out hw257_10), (Gv.bx HB.out hw257_11), (Gv.bx HB.out hw257_12), (Gv.bx HB.out hw257_13), (Gv.bx HB.out hw257_14), (Gv.bx HB.out hw257_15), (Gv.bx HB.out hw257_16), (Gv.bx HB.out hw257_17), (Gv.bx HB.out hw257_18), (Gv.bx HB.out hw257_19), (Gv.bx HB.out hw257_20), (Gv.bx HB.out hw259_0), (Gv.bx HB.out hw260_0)⟩ (fun hHeld => ?_)
           clear hK K
           refine norm_ (a' := ?_) ?_ ?_
           rotate_left
           ·show Act.put _ (some 17) _ = _
            simp only [Act.put, List.setIfInBounds_toArray, List.set_cons_zero, List.set_cons_succ, i64_w, i32_w]
            rfl
           refine Gv.pu 5 (some 18) HT_ ?_
           refine Gv.pu 6 (some 19) HT_ ?_
           refine Gv.pu 7 (some 20) HT_ ?_
           refine Gv.pu 8 (some 21) HT_ ?_
           refine Gv.pu 9 (some 22) HT_ ?_
           refine Gv.pu 10 (some 23) HT_ ?_
           refine Gv.pu 11 (some 24) HT_ ?_
           refine Gv.pu 12 (some 25) HT_ ?_
           refine Gv.pu 13 (some 26) HT_ ?_
           refine Gv.pu 14 (some 27) HT_ ?_
           refine Gv.pu 16 (some 29) HT_ ?_
           refine Gv.pu 17 (some 30) HT_ ?_
           refine Gv.pu 18 (some 31) HT_ ?_
           refine Gv.pu 19 (some 32) HT_ ?_
           refine take_ (i := 15) (N := some 28) (v := ?_) (a' := ?_) #[true, true, true, true, true, true, true, true, true, true, true, true, true, true, true, true, true, true, true, true, false, false, false, false] rfl rfl (take_ofW HT_.out HW_.out (by kernel_rfl)) (fun _ _ _ h => h) (Or.inl ⟨by rfl, ?_⟩) hHeld ?_ ?_
           rotate_left
           ·rintro w' ⟨s0, s1, s2, s3, s4, s5, s6, s7, s8, s9, s10, s11, s12, s13, s14, s15, s16, s17, s18, s19, s20, s21, s22⟩
            first | ((refine Gv.load_run (t := 55) (A := ad257.add ((x3_1).toNat * 21)) (cs := [_, _, _, _, _, _, _, _, _, _, _, _, _, _, _, _, _, _, _, _, _]) (x := ?xx9_) ?ho9_ ?hx9_ ⟨s0, s1, s2, s3, s4, s5, s6, s7, s8, s9, s10, s11, s12, s13, s14, s15, s16, s17, s18, s19, s20, trivial⟩ Try.underlying55 rfl (by kernel_rfl)); (case ho9_ => rfl); (case hx9_ => rfl)) | (go_simp; with_reducible rfl)
           rotate_left
           ·simp only [Act.put, List.setIfInBounds_toArray, List.set_cons_zero, List.set_cons_succ, i64_w, i32_w]
            rfl
           refine take_ (i := 20) (N := some 33) (v := ?_) (a' := ?_) #[true, true, true, true, true, true, true, true, true, true, true, true, true, true, true, true, true, true, true, true, true, false, false, false] rfl rfl (take_ofW HT_.out HW_.out (by kernel_rfl)) (fun _ _ _ h => h) (Or.inl ⟨by rfl, ?_⟩) hHeld ?_ ?_
           rotate_left
           ·rintro w' ⟨s0, s1, s2, s3, s4, s5, s6, s7, s8, s9, s10, s11, s12, s13, s14, s15, s16, s17, s18, s19, s20, s21, s22⟩
            first | ((refine Gv.load_run (t := 55) (A := ad257.add ((x3_1).toNat * 21)) (cs := [_, _, _, _, _, _, _, _, _, _, _, _, _, _, _, _, _, _, _, _, _]) (x := ?xx11_) ?ho11_ ?hx11_ ⟨s0, s1, s2, s3, s4, s5, s6, s7, s8, s9, s10, s11, s12, s13, s14, s15, s16, s17, s18, s19, s20, trivial⟩ Try.underlying55 rfl (by kernel_rfl)); (case ho11_ => rfl); (case hx11_ => rfl)) | (go_simp; with_reducible rfl)
           rotate_left
           ·simp only [Act.put, List.setIfInBounds_toArray, List.set_cons_zero, List.set_cons_succ, i64_w, i32_w]
            rfl
           refine Gv.pu 21 (some 34) HT_ ?_
           refine Gv.pu 22 (some 35) HT_ ?_
           refine Gv.pu 23 (some 36) HT_ ?_
           refine done_ (done_of HT_.out (by kernel_rfl)) ?_
           try go_wp2
           go_ret
           exact ⟨by first | rfl | (simp [errW_none, errW_some] <;> rfl) | (simp only [← hji8]; first | rfl | (simp [errW_none, errW_some] <;> rfl)) | (simp [*, errW_none, errW_some] <;> rfl), Gv.bw⟩
          ·rw [if_neg c11] at H
           have c11b0 : decide (((rd_T55 l0 x3_1).f0) ≤ ((rd_T55 l0 (ji8)).f0)) = false := decide_eq_false c11
           clear c11
           have H' := Gv.a0 H
           clear H
           try go_wp2
           have n0_ := Gv.a0 (below_drew1 HB.out)
           clear HB
           have HB := n0_
           clear n0_
           have p257 : 0 ≤ (x3_1 : Int) := of_decide_eq_true (by first | (with_reducible assumption) | assumption)
           have q257 : x3_1 < (l0.length : Int) := of_decide_eq_true (by first | (with_reducible assumption) | assumption)
           obtain ⟨ad257, e257, hx257_0, hx257_1, hx257_2, hx257_3, hx257_4, hx257_5, hx257_6, hx257_7, hx257_8, hx257_9, hx257_10, hx257_11, hx257_12, hx257_13, hx257_14, hx257_15, hx257_16, hx257_17, hx257_18, hx257_19, hx257_20⟩ := at_T55 HR0.out x3_1 p257 q257
           have hw257_20 := hx257_20
           have hw257_19 := hx257_19
           have hw257_18 := hx257_18
           have hw257_17 := hx257_17
           have hw257_16 := hx257_16
           have hw257_15 := hx257_15
           have hw257_14 := hx257_14
           have hw257_13 := hx257_13
           have hw257_12 := hx257_12
           have hw257_11 := hx257_11
           have hw257_10 := hx257_10
           have hw257_9 := hx257_9
           have hw257_8 := hx257_8
           have hw257_7 := hx257_7
           have hw257_6 := hx257_6
           have hw257_5 := hx257_5
           have hw257_4 := hx257_4
           have hw257_3 := hx257_3
           have hw257_2 := hx257_2
           have hw257_1 := hx257_1
           have hw257_0 := hx257_0
           cases e257
           replace hx257_0 := Gv.bx HB.out hx257_0
           replace hx257_1 := Gv.bx HB.out hx257_1
           replace hx257_2 := Gv.bx HB.out hx257_2
           replace hx257_3 := Gv.bx HB.out hx257_3
           replace hx257_4 := Gv.bx HB.out hx257_4
           replace hx257_5 := Gv.bx HB.out hx257_5
           replace hx257_6 := Gv.bx HB.out hx257_6
           replace hx257_7 := Gv.bx HB.out hx257_7
           replace hx257_8 := Gv.bx HB.out hx257_8
           replace hx257_9 := Gv.bx HB.out hx257_9
           replace hx257_10 := Gv.bx HB.out hx257_10
           replace hx257_11 := Gv.bx HB.out hx257_11
           replace hx257_12 := Gv.bx HB.out hx257_12
           replace hx257_13 := Gv.bx HB.out hx257_13
           replace hx257_14 := Gv.bx HB.out hx257_14
           replace hx257_15 := Gv.bx HB.out hx257_15
           replace hx257_16 := Gv.bx HB.out hx257_16
           replace hx257_17 := Gv.bx HB.out hx257_17
           replace hx257_18 := Gv.bx HB.out hx257_18
           replace hx257_19 := Gv.bx HB.out hx257_19
           replace hx257_20 := Gv.bx HB.out hx257_20
           replace p257 := eq_true p257
           replace q257 := eq_true q257
           have p259 : 0 ≤ ((ji8) : Int) := of_decide_eq_true (by first | (with_reducible assumption) | assumption)
           have q259 : (ji8) < (l0.length : Int) := of_decide_eq_true (by first | (with_reducible assumption) | assumption)
           obtain ⟨ad259, e259, hx259_0, _, _, _, _, _, _, _, _, _, _, _, _, _, _, _, _, _, _, _, _⟩ := at_T55 HR0.out (ji8) p259 q259
           have hw259_0 := hx259_0
           obtain rfl : ad257 = ad259 := (by injection e259)
           replace hx259_0 := Gv.bx HB.out hx259_0
           replace p259 := eq_true p259
           replace q259 := eq_true q259
           have p260 : 0 ≤ (x3_1 : Int) := of_decide_eq_true (by first | (with_reducible assumption) | assumption)
           have q260 : x3_1 < (l0.length : Int) := of_decide_eq_true (by first | (with_reducible assumption) | assumption)
           obtain ⟨ad260, e260, hx260_0, _, _, _, _, _, _, _, _, _, _, _, _, _, _, _, _, _, _, _, _⟩ := at_T55 HR0.out x3_1 p260 q260
           have hw260_0 := hx260_0
           obtain rfl : ad257 = ad260 := (by injection e260)
           replace hx260_0 := Gv.bx HB.out hx260_0
           replace p260 := eq_true p260
           replace q260 := eq_true q260
           refine start_ (n := 24) (S := fun w' => w'.cell? (ad257.add ((x3_1).toNat * 21)) = some (.int .i64 ((rd_T55 l0 x3_1).f0)) ∧ w'.cell? ⟨(ad257.add ((x3_1).toNat * 21)).block, (ad257.add ((x3_1).toNat * 21)).off + 1, none⟩ = some (.int .i64 ((rd_T55 l0 x3_1).f1.f0.f0)) ∧ w'.cell? ⟨(ad257.add ((x3_1).toNat * 21)).block, (ad257.add ((x3_1).toNat * 21)).off + 2, none⟩ = some (.int .i64 ((rd_T55 l0 x3_1).f1.f0.f1)) ∧ w'.cell? ⟨(ad257.add ((x3_1).toNat * 21)).block, (ad257.add ((x3_1).toNat * 21)).off + 3, none⟩ = some (.int .i64 ((rd_T55 l0 x3_1).f1.f0.f2)) ∧ w'.cell? ⟨(ad257.add ((x3_1).toNat * 21)).block, (ad257.add ((x3_1).toNat * 21)).off + 4, none⟩ = some (.int .i64 ((rd_T55 l0 x3_1).f1.f0.f3)) ∧ w'.cell? ⟨(ad257.add ((x3_1).toNat * 21)).block, (ad257.add ((x3_1).toNat * 21)).off + 5, none⟩ = some (.int .i64 ((rd_T55 l0 x3_1).f1.f0.f4)) ∧ w'.cell? ⟨(ad257.add ((x3_1).toNat * 21)).block, (ad257.add ((x3_1).toNat * 21)).off + 6, none⟩ = some (.int .i64 ((rd_T55 l0 x3_1).f1.f1)) ∧ w'.cell? ⟨(ad257.add ((x3_1).toNat * 21)).block, (ad257.add ((x3_1).toNat * 21)).off + 7, none⟩ = some (.int .i64 ((rd_T55 l0 x3_1).f2.f0.f0)) ∧ w'.cell? ⟨(ad257.add ((x3_1).toNat * 21)).block, (ad257.add ((x3_1).toNat * 21)).off + 8, none⟩ = some (.int .i64 ((rd_T55 l0 x3_1).f2.f0.f1)) ∧ w'.cell? ⟨(ad257.add ((x3_1).toNat * 21)).block, (ad257.add ((x3_1).toNat * 21)).off + 9, none⟩ = some (.int .i64 ((rd_T55 l0 x3_1).f2.f0.f2)) ∧ w'.cell? ⟨(ad257.add ((x3_1).toNat * 21)).block, (ad257.add ((x3_1).toNat * 21)).off + 10, none⟩ = some (.int .i64 ((rd_T55 l0 x3_1).f2.f0.f3)) ∧ w'.cell? ⟨(ad257.add ((x3_1).toNat * 21)).block, (ad257.add ((x3_1).toNat * 21)).off + 11, none⟩ = some (.int .i64 ((rd_T55 l0 x3_1).f2.f0.f4)) ∧ w'.cell? ⟨(ad257.add ((x3_1).toNat * 21)).block, (ad257.add ((x3_1).toNat * 21)).off + 12, none⟩ = some (.int .i64 ((rd_T55 l0 x3_1).f2.f1)) ∧ w'.cell? ⟨(ad257.add ((x3_1).toNat * 21)).block, (ad257.add ((x3_1).toNat * 21)).off + 13, none⟩ = some (.int .i64 ((rd_T55 l0 x3_1).f3)) ∧ w'.cell? ⟨(ad257.add ((x3_1).toNat * 21)).block, (ad257.add ((x3_1).toNat * 21)).off + 14, none⟩ = some (.int .i64 ((rd_T55 l0 x3_1).f4)) ∧ w'.cell? ⟨(ad257.add ((x3_1).toNat * 21)).block, (ad257.add ((x3_1).toNat * 21)).off + 15, none⟩ = some (.int .i64 ((rd_T55 l0 x3_1).f5)) ∧ w'.cell? ⟨(ad257.add ((x3_1).toNat * 21)).block, (ad257.add ((x3_1).toNat * 21)).off + 16, none⟩ = some (.int .i64 ((rd_T55 l0 x3_1).f6)) ∧ w'.cell? ⟨(ad257.add ((x3_1).toNat * 21)).block, (ad257.add ((x3_1).toNat * 21)).off + 17, none⟩ = some (.int .i64 ((rd_T55 l0 x3_1).f7)) ∧ w'.cell? ⟨(ad257.add ((x3_1).toNat * 21)).block, (ad257.add ((x3_1).toNat * 21)).off + 18, none⟩ = some (.int .i64 ((rd_T55 l0 x3_1).f8)) ∧ w'.cell? ⟨(ad257.add ((x3_1).toNat * 21)).block, (ad257.add ((x3_1).toNat * 21)).off + 19, none⟩ = some (.int .i64 ((rd_T55 l0 x3_1).f9)) ∧ w'.cell? ⟨(ad257.add ((x3_1).toNat * 21)).block, (ad257.add ((x3_1).toNat * 21)).off + 20, none⟩ = some (.int .i64 ((rd_T55 l0 x3_1).f10)) ∧ w'.cell? (ad257.add (((ji8)).toNat * 21)) = some (.int .i64 ((rd_T55 l0 (ji8)).f0)) ∧ w'.cell? (ad257.add ((x3_1).toNat * 21)) = some (.int .i64 ((rd_T55 l0 x3_1).f0))) (ds := []) #[false, false, false, false, false, false, false, false, false, false, false, false, false, false, false, false, false, false, false, false, false, false, false, false] (by kernel_rfl) rfl rfl ⟨(Gv.bx HB.out hw257_0), (Gv.bx HB.out hw257_1), (Gv.bx HB.out hw257_2), (Gv.bx HB.out hw257_3), (Gv.bx HB.out hw257_4), (Gv.bx HB.out hw257_5), (Gv.bx HB.out hw257_6), (Gv.bx HB.out hw257_7), (Gv.bx HB.out hw257_8), (Gv.bx HB.out hw257_9), (Gv.bx HB.out hw257_10), (Gv.bx HB.out hw257_11), (Gv.bx HB.out hw257_12), (Gv.bx HB.out hw257_13), (Gv.bx HB.out hw257_14), (Gv.bx HB.out hw257_15), (Gv.bx HB.out hw257_16), (Gv.bx HB.out hw257_17), (Gv.bx HB.out hw257_18), (Gv.bx HB.out hw257_19), (Gv.bx HB.out hw257_20), (Gv.bx HB.out hw259_0), (Gv.bx HB.out hw260_0)⟩ (fun hHeld => ?_); refine with_tabW spec_RulesOk.tab6 spec_RulesOk.bits6 (fun HT_ HW_ => ?_)
           generalize wr.drew = w14 at HB hx257_0 hx257_1 hx257_10 hx257_11 hx257_12 hx257_13 hx257_14 hx257_15 hx257_16 hx257_17 hx257_18 hx257_19 hx257_2 hx257_20 hx257_3 hx257_4 hx257_5 hx257_6 hx257_7 hx257_8 hx257_9 hx259_0 hx260_0 hHeld ⊢
           refine Gv.pu 0 (some 13) HT_ ?_
           refine Gv.pu 1 (some 14) HT_ ?_
           refine Gv.pu 2 (some 15) HT_ ?_
           refine take_ (i := 3) (N := some 16) (v := ?_) (a' := ?_) #[true, true, true, true, false, false, false, false, false, false, false, false, false, false, false, false, false, false, false, false, false, false, false, false] rfl rfl (take_ofW HT_.out HW_.out (by kernel_rfl)) (fun _ _ _ h => h) (Or.inl ⟨by rfl, ?_⟩) hHeld ?_ ?_
           rotate_left
           ·rintro w' ⟨s0, s1, s2, s3, s4, s5, s6, s7, s8, s9, s10, s11, s12, s13, s14, s15, s16, s17, s18, s19, s20, s21, s22⟩
            first | ((refine Gv.load_run (t := 55) (A := ad257.add ((x3_1).toNat * 21)) (cs := [_, _, _, _, _, _, _, _, _, _, _, _, _, _, _, _, _, _, _, _, _]) (x := ?xx13_) ?ho13_ ?hx13_ ⟨s0, s1, s2, s3, s4, s5, s6, s7, s8, s9, s10, s11, s12, s13, s14, s15, s16, s17, s18, s19, s20, trivial⟩ Try.underlying55 rfl (by kernel_rfl)); (case ho13_ => rfl); (case hx13_ => rfl)) | (go_simp; with_reducible rfl)
           rotate_left
           ·simp only [Act.put, List.setIfInBounds_toArray, List.set_cons_zero, List.set_cons_succ, i64_w, i32_w]
            rfl
           refine one_ (i := 4) (N := some 17) #[true, true, true, true, true, false, false, false, false, false, false, false, false, false, false, false, false, false, false, false, false, false, false, false] rfl rfl (one_of HT_.out (by kernel_rfl)) (by decide) (fun K hK => ?_)
           refine goes_ Try.func28 (by kernel_rfl) rfl #[.agg #[.int .i64 ((rd_T55 l0 x3_1).f0), .int .i64 ((rd_T55 l0 x3_1).f1.f0.f0), .int .i64 ((rd_T55 l0 x3_1).f1.f0.f1), .int .i64 ((rd_T55 l0 x3_1).f1.f0.f2), .int .i64 ((rd_T55 l0 x3_1).f1.f0.f3), .int .i64 ((rd_T55 l0 x3_1).f1.f0.f4), .int .i64 ((rd_T55 l0 x3_1).f1.f1), .int .i64 ((rd_T55 l0 x3_1).f2.f0.f0), .int .i64 ((rd_T55 l0 x3_1).f2.f0.f1), .int .i64 ((rd_T55 l0 x3_1).f2.f0.f2), .int .i64 ((rd_T55 l0 x3_1).f2.f0.f3), .int .i64 ((rd_T55 l0 x3_1).f2.f0.f4), .int .i64 ((rd_T55 l0 x3_1).f2.f1), .int .i64 ((rd_T55 l0 x3_1).f3), .int .i64 ((rd_T55 l0 x3_1).f4), .int .i64 ((rd_T55 l0 x3_1).f5), .int .i64 ((rd_T55 l0 x3_1).f6), .int .i64 ((rd_T55 l0 x3_1).f7), .int .i64 ((rd_T55 l0 x3_1).f8), .int .i64 ((rd_T55 l0 x3_1).f9), .int .i64 ((rd_T55 l0 x3_1).f10)]] (by rfl) rfl rfl Gv.lm ?_
           with_reducible refine (spec_RuleOk.calls k1 ((rd_T55 l0 x3_1).f0) ((rd_T55 l0 x3_1).f1.f0.f0) ((rd_T55 l0 x3_1).f1.f0.f1) ((rd_T55 l0 x3_1).f1.f0.f2) ((rd_T55 l0 x3_1).f1.f0.f3) ((rd_T55 l0 x3_1).f1.f0.f4) ((rd_T55 l0 x3_1).f1.f1) ((rd_T55 l0 x3_1).f2.f0.f0) ((rd_T55 l0 x3_1).f2.f0.f1) ((rd_T55 l0 x3_1).f2.f0.f2) ((rd_T55 l0 x3_1).f2.f0.f3) ((rd_T55 l0 x3_1).f2.f0.f4) ((rd_T55 l0 x3_1).f2.f1) ((rd_T55 l0 x3_1).f3) ((rd_T55 l0 x3_1).f4) ((rd_T55 l0 x3_1).f5) ((rd_T55 l0 x3_1).f6) ((rd_T55 l0 x3_1).f7) ((rd_T55 l0 x3_1).f8) ((rd_T55 l0 x3_1).f9) ((rd_T55 l0 x3_1).f10) true _ A5.out).mono ?_
           rintro e w15 ⟨rfl, hb⟩
           refine ⟨_, rfl, ?_⟩
           have n0_ := Gv.a0 (below_step Gv.bw hb)
           clear HB
           have HB := n0_
           clear n0_
           (try clear hb)
           (try clear hb2)
           (try clear hk)
           (try clear hi)
           refine hK.out _ _ ⟨(Gv.bx HB.out hw257_0), (Gv.bx HB.out hw257_1), (Gv.bx HB.out hw257_2), (Gv.bx HB.out hw257_3), (Gv.bx HB.out hw257_4), (Gv.bx HB.out hw257_5), (Gv.bx HB.out hw257_6), (Gv.bx HB.out hw257_7), (Gv.bx HB.out hw257_8), (Gv.bx HB.out hw257_9), (Gv.bx HB.out hw257_10), (Gv.bx HB.out hw257_11), (Gv.bx HB.out hw257_12), (Gv.bx HB.out hw257_13), (Gv.bx HB.out hw257_14), (Gv.bx HB.out hw257_15), (Gv.bx HB.out hw257_16), (Gv.bx HB.out hw257_17), (Gv.bx HB.out hw257_18), (Gv.bx HB.out hw257_19), (Gv.bx HB.out hw257_20), (Gv.bx HB.out hw259_0), (Gv.bx HB.out hw260_0)⟩ (fun hHeld => ?_)
           clear hK K
           refine norm_ (a' := ?_) ?_ ?_
           rotate_left
           ·show Act.put _ (some 17) _ = _
            simp only [Act.put, List.setIfInBounds_toArray, List.set_cons_zero, List.set_cons_succ, i64_w, i32_w]
            rfl
           refine Gv.pu 5 (some 18) HT_ ?_
           refine Gv.pu 6 (some 19) HT_ ?_
           refine Gv.pu 7 (some 20) HT_ ?_
           refine Gv.pu 8 (some 21) HT_ ?_
           refine Gv.pu 9 (some 22) HT_ ?_
           refine Gv.pu 10 (some 23) HT_ ?_
           refine Gv.pu 11 (some 24) HT_ ?_
           refine Gv.pu 12 (some 25) HT_ ?_
           refine Gv.pu 13 (some 26) HT_ ?_
           refine Gv.pu 14 (some 27) HT_ ?_
           refine Gv.pu 16 (some 29) HT_ ?_
           refine Gv.pu 17 (some 30) HT_ ?_
           refine Gv.pu 18 (some 31) HT_ ?_
           refine Gv.pu 19 (some 32) HT_ ?_
           refine take_ (i := 15) (N := some 28) (v := ?_) (a' := ?_) #[true, true, true, true, true, true, true, true, true, true, true, true, true, true, true, true, true, true, true, true, false, false, false, false] rfl rfl (take_ofW HT_.out HW_.out (by kernel_rfl)) (fun _ _ _ h => h) (Or.inl ⟨by rfl, ?_⟩) hHeld ?_ ?_
           rotate_left
           ·rintro w' ⟨s0, s1, s2, s3, s4, s5, s6, s7, s8, s9, s10, s11, s12, s13, s14, s15, s16, s17, s18, s19, s20, s21, s22⟩
            first | ((refine Gv.load_run (t := 55) (A := ad257.add ((x3_1).toNat * 21)) (cs := [_, _, _, _, _, _, _, _, _, _, _, _, _, _, _, _, _, _, _, _, _]) (x := ?xx15_) ?ho15_ ?hx15_ ⟨s0, s1, s2, s3, s4, s5, s6, s7, s8, s9, s10, s11, s12, s13, s14, s15, s16, s17, s18, s19, s20, trivial⟩ Try.underlying55 rfl (by kernel_rfl)); (case ho15_ => rfl); (case hx15_ => rfl)) | (go_simp; with_reducible rfl)
           rotate_left
           ·simp only [Act.put, List.setIfInBounds_toArray, List.set_cons_zero, List.set_cons_succ, i64_w, i32_w]
            rfl
           refine take_ (i := 20) (N := some 33) (v := ?_) (a' := ?_) #[true, true, true, true, true, true, true, true, true, true, true, true, true, true, true, true, true, true, true, true, true, false, false, false] rfl rfl (take_ofW HT_.out HW_.out (by kernel_rfl)) (fun _ _ _ h => h) (Or.inl ⟨by rfl, ?_⟩) hHeld ?_ ?_
           rotate_left
           ·rintro w' ⟨s0, s1, s2, s3, s4, s5, s6, s7, s8, s9, s10, s11, s12, s13, s14, s15, s16, s17, s18, s19, s20, s21, s22⟩
            first | ((refine Gv.load_run (t := 55) (A := ad257.add ((x3_1).toNat * 21)) (cs := [_, _, _, _, _, _, _, _, _, _, _, _, _, _, _, _, _, _, _, _, _]) (x := ?xx17_) ?ho17_ ?hx17_ ⟨s0, s1, s2, s3, s4, s5, s6, s7, s8, s9, s10, s11, s12, s13, s14, s15, s16, s17, s18, s19, s20, trivial⟩ Try.underlying55 rfl (by kernel_rfl)); (case ho17_ => rfl); (case hx17_ => rfl)) | (go_simp; with_reducible rfl)
           rotate_left
           ·simp only [Act.put, List.setIfInBounds_toArray, List.set_cons_zero, List.set_cons_succ, i64_w, i32_w]
            rfl
           refine Gv.pu 21 (some 34) HT_ ?_
           refine Gv.pu 22 (some 35) HT_ ?_
           refine Gv.pu 23 (some 36) HT_ ?_
           refine done_ (done_of HT_.out (by kernel_rfl)) ?_
           try go_wp2
           go_roundg k1
           case measure => have := HK1.out; omega
           case rel => exact ⟨(wrap64 (x3_1 + 1)), Gv.rq, H', ⟨by have := HK1.out; omega⟩, ⟨Gv.bw⟩⟩
         ·rw [if_neg c10] at H
          exact absurd H (by simp)
        ·rw [if_neg c9] at H
         exact absurd H (by simp)
       ·rw [if_neg c7] at H
        have c7b0 : decide (0 < x3_1) = false := decide_eq_false c7
        clear c7
        have H' := Gv.a0 H
        clear H
        try go_wp2
        have n0_ := Gv.a0 (below_drew1 HB.out)
        clear HB
        have HB := n0_
        clear n0_
        have p257 : 0 ≤ (x3_1 : Int) := of_decide_eq_true (by first | (with_reducible assumption) | assumption)
        have q257 : x3_1 < (l0.length : Int) := of_decide_eq_true (by first | (with_reducible assumption) | assumption)
        obtain ⟨ad257, e257, hx257_0, hx257_1, hx257_2, hx257_3, hx257_4, hx257_5, hx257_6, hx257_7, hx257_8, hx257_9, hx257_10, hx257_11, hx257_12, hx257_13, hx257_14, hx257_15, hx257_16, hx257_17, hx257_18, hx257_19, hx257_20⟩ := at_T55 HR0.out x3_1 p257 q257
        have hw257_20 := hx257_20
        have hw257_19 := hx257_19
        have hw257_18 := hx257_18
        have hw257_17 := hx257_17
        have hw257_16 := hx257_16
        have hw257_15 := hx257_15
        have hw257_14 := hx257_14
        have hw257_13 := hx257_13
        have hw257_12 := hx257_12
        have hw257_11 := hx257_11
        have hw257_10 := hx257_10
        have hw257_9 := hx257_9
        have hw257_8 := hx257_8
        have hw257_7 := hx257_7
        have hw257_6 := hx257_6
        have hw257_5 := hx257_5
        have hw257_4 := hx257_4
        have hw257_3 := hx257_3
        have hw257_2 := hx257_2
        have hw257_1 := hx257_1
        have hw257_0 := hx257_0
        cases e257
        replace hx257_0 := Gv.bx HB.out hx257_0
        replace hx257_1 := Gv.bx HB.out hx257_1
        replace hx257_2 := Gv.bx HB.out hx257_2
        replace hx257_3 := Gv.bx HB.out hx257_3
        replace hx257_4 := Gv.bx HB.out hx257_4
        replace hx257_5 := Gv.bx HB.out hx257_5
        replace hx257_6 := Gv.bx HB.out hx257_6
        replace hx257_7 := Gv.bx HB.out hx257_7
        replace hx257_8 := Gv.bx HB.out hx257_8
        replace hx257_9 := Gv.bx HB.out hx257_9
        replace hx257_10 := Gv.bx HB.out hx257_10
        replace hx257_11 := Gv.bx HB.out hx257_11
        replace hx257_12 := Gv.bx HB.out hx257_12
        replace hx257_13 := Gv.bx HB.out hx257_13
        replace hx257_14 := Gv.bx HB.out hx257_14
        replace hx257_15 := Gv.bx HB.out hx257_15
        replace hx257_16 := Gv.bx HB.out hx257_16
        replace hx257_17 := Gv.bx HB.out hx257_17
        replace hx257_18 := Gv.bx HB.out hx257_18
        replace hx257_19 := Gv.bx HB.out hx257_19
        replace hx257_20 := Gv.bx HB.out hx257_20
        replace p257 := eq_true p257
        replace q257 := eq_true q257
        refine start_ (n := 24) (S := fun w' => w'.cell? (ad257.add ((x3_1).toNat * 21)) = some (.int .i64 ((rd_T55 l0 x3_1).f0)) ∧ w'.cell? ⟨(ad257.add ((x3_1).toNat * 21)).block, (ad257.add ((x3_1).toNat * 21)).off + 1, none⟩ = some (.int .i64 ((rd_T55 l0 x3_1).f1.f0.f0)) ∧ w'.cell? ⟨(ad257.add ((x3_1).toNat * 21)).block, (ad257.add ((x3_1).toNat * 21)).off + 2, none⟩ = some (.int .i64 ((rd_T55 l0 x3_1).f1.f0.f1)) ∧ w'.cell? ⟨(ad257.add ((x3_1).toNat * 21)).block, (ad257.add ((x3_1).toNat * 21)).off + 3, none⟩ = some (.int .i64 ((rd_T55 l0 x3_1).f1.f0.f2)) ∧ w'.cell? ⟨(ad257.add ((x3_1).toNat * 21)).block, (ad257.add ((x3_1).toNat * 21)).off + 4, none⟩ = some (.int .i64 ((rd_T55 l0 x3_1).f1.f0.f3)) ∧ w'.cell? ⟨(ad257.add ((x3_1).toNat * 21)).block, (ad257.add ((x3_1).toNat * 21)).off + 5, none⟩ = some (.int .i64 ((rd_T55 l0 x3_1).f1.f0.f4)) ∧ w'.cell? ⟨(ad257.add ((x3_1).toNat * 21)).block, (ad257.add ((x3_1).toNat * 21)).off + 6, none⟩ = some (.int .i64 ((rd_T55 l0 x3_1).f1.f1)) ∧ w'.cell? ⟨(ad257.add ((x3_1).toNat * 21)).block, (ad257.add ((x3_1).toNat * 21)).off + 7, none⟩ = some (.int .i64 ((rd_T55 l0 x3_1).f2.f0.f0)) ∧ w'.cell? ⟨(ad257.add ((x3_1).toNat * 21)).block, (ad257.add ((x3_1).toNat * 21)).off + 8, none⟩ = some (.int .i64 ((rd_T55 l0 x3_1).f2.f0.f1)) ∧ w'.cell? ⟨(ad257.add ((x3_1).toNat * 21)).block, (ad257.add ((x3_1).toNat * 21)).off + 9, none⟩ = some (.int .i64 ((rd_T55 l0 x3_1).f2.f0.f2)) ∧ w'.cell? ⟨(ad257.add ((x3_1).toNat * 21)).block, (ad257.add ((x3_1).toNat * 21)).off + 10, none⟩ = some (.int .i64 ((rd_T55 l0 x3_1).f2.f0.f3)) ∧ w'.cell? ⟨(ad257.add ((x3_1).toNat * 21)).block, (ad257.add ((x3_1).toNat * 21)).off + 11, none⟩ = some (.int .i64 ((rd_T55 l0 x3_1).f2.f0.f4)) ∧ w'.cell? ⟨(ad257.add ((x3_1).toNat * 21)).block, (ad257.add ((x3_1).toNat * 21)).off + 12, none⟩ = some (.int .i64 ((rd_T55 l0 x3_1).f2.f1)) ∧ w'.cell? ⟨(ad257.add ((x3_1).toNat * 21)).block, (ad257.add ((x3_1).toNat * 21)).off + 13, none⟩ = some (.int .i64 ((rd_T55 l0 x3_1).f3)) ∧ w'.cell? ⟨(ad257.add ((x3_1).toNat * 21)).block, (ad257.add ((x3_1).toNat * 21)).off + 14, none⟩ = some (.int .i64 ((rd_T55 l0 x3_1).f4)) ∧ w'.cell? ⟨(ad257.add ((x3_1).toNat * 21)).block, (ad257.add ((x3_1).toNat * 21)).off + 15, none⟩ = some (.int .i64 ((rd_T55 l0 x3_1).f5)) ∧ w'.cell? ⟨(ad257.add ((x3_1).toNat * 21)).block, (ad257.add ((x3_1).toNat * 21)).off + 16, none⟩ = some (.int .i64 ((rd_T55 l0 x3_1).f6)) ∧ w'.cell? ⟨(ad257.add ((x3_1).toNat * 21)).block, (ad257.add ((x3_1).toNat * 21)).off + 17, none⟩ = some (.int .i64 ((rd_T55 l0 x3_1).f7)) ∧ w'.cell? ⟨(ad257.add ((x3_1).toNat * 21)).block, (ad257.add ((x3_1).toNat * 21)).off + 18, none⟩ = some (.int .i64 ((rd_T55 l0 x3_1).f8)) ∧ w'.cell? ⟨(ad257.add ((x3_1).toNat * 21)).block, (ad257.add ((x3_1).toNat * 21)).off + 19, none⟩ = some (.int .i64 ((rd_T55 l0 x3_1).f9)) ∧ w'.cell? ⟨(ad257.add ((x3_1).toNat * 21)).block, (ad257.add ((x3_1).toNat * 21)).off + 20, none⟩ = some (.int .i64 ((rd_T55 l0 x3_1).f10))) (ds := []) #[false, false, false, false, false, false, false, false, false, false, false, false, false, false, false, false, false, false, false, false, false, false, false, false] (by kernel_rfl) rfl rfl ⟨(Gv.bx HB.out hw257_0), (Gv.bx HB.out hw257_1), (Gv.bx HB.out hw257_2), (Gv.bx HB.out hw257_3), (Gv.bx HB.out hw257_4), (Gv.bx HB.out hw257_5), (Gv.bx HB.out hw257_6), (Gv.bx HB.out hw257_7), (Gv.bx HB.out hw257_8), (Gv.bx HB.out hw257_9), (Gv.bx HB.out hw257_10), (Gv.bx HB.out hw257_11), (Gv.bx HB.out hw257_12), (Gv.bx HB.out hw257_13), (Gv.bx HB.out hw257_14), (Gv.bx HB.out hw257_15), (Gv.bx HB.out hw257_16), (Gv.bx HB.out hw257_17), (Gv.bx HB.out hw257_18), (Gv.bx HB.out hw257_19), (Gv.bx HB.out hw257_20)⟩ (fun hHeld => ?_); refine with_tabW spec_RulesOk.tab6 spec_RulesOk.bits6 (fun HT_ HW_ => ?_)
        generalize wr.drew = w16 at HB hx257_0 hx257_1 hx257_10 hx257_11 hx257_12 hx257_13 hx257_14 hx257_15 hx257_16 hx257_17 hx257_18 hx257_19 hx257_2 hx257_20 hx257_3 hx257_4 hx257_5 hx257_6 hx257_7 hx257_8 hx257_9 hHeld ⊢
        refine Gv.pu 0 (some 13) HT_ ?_
        refine Gv.pu 1 (some 14) HT_ ?_
        refine Gv.pu 2 (some 15) HT_ ?_
        refine take_ (i := 3) (N := some 16) (v := ?_) (a' := ?_) #[true, true, true, true, false, false, false, false, false, false, false, false, false, false, false, false, false, false, false, false, false, false, false, false] rfl rfl (take_ofW HT_.out HW_.out (by kernel_rfl)) (fun _ _ _ h => h) (Or.inl ⟨by rfl, ?_⟩) hHeld ?_ ?_
        rotate_left
        ·rintro w' ⟨s0, s1, s2, s3, s4, s5, s6, s7, s8, s9, s10, s11, s12, s13, s14, s15, s16, s17, s18, s19, s20⟩
         first | ((refine Gv.load_run (t := 55) (A := ad257.add ((x3_1).toNat * 21)) (cs := [_, _, _, _, _, _, _, _, _, _, _, _, _, _, _, _, _, _, _, _, _]) (x := ?xx19_) ?ho19_ ?hx19_ ⟨s0, s1, s2, s3, s4, s5, s6, s7, s8, s9, s10, s11, s12, s13, s14, s15, s16, s17, s18, s19, s20, trivial⟩ Try.underlying55 rfl (by kernel_rfl)); (case ho19_ => rfl); (case hx19_ => rfl)) | (go_simp; with_reducible rfl)
        rotate_left
        ·simp only [Act.put, List.setIfInBounds_toArray, List.set_cons_zero, List.set_cons_succ, i64_w, i32_w]
         rfl
        refine one_ (i := 4) (N := some 17) #[true, true, true, true, true, false, false, false, false, false, false, false, false, false, false, false, false, false, false, false, false, false, false, false] rfl rfl (one_of HT_.out (by kernel_rfl)) (by decide) (fun K hK => ?_)
        refine goes_ Try.func28 (by kernel_rfl) rfl #[.agg #[.int .i64 ((rd_T55 l0 x3_1).f0), .int .i64 ((rd_T55 l0 x3_1).f1.f0.f0), .int .i64 ((rd_T55 l0 x3_1).f1.f0.f1), .int .i64 ((rd_T55 l0 x3_1).f1.f0.f2), .int .i64 ((rd_T55 l0 x3_1).f1.f0.f3), .int .i64 ((rd_T55 l0 x3_1).f1.f0.f4), .int .i64 ((rd_T55 l0 x3_1).f1.f1), .int .i64 ((rd_T55 l0 x3_1).f2.f0.f0), .int .i64 ((rd_T55 l0 x3_1).f2.f0.f1), .int .i64 ((rd_T55 l0 x3_1).f2.f0.f2), .int .i64 ((rd_T55 l0 x3_1).f2.f0.f3), .int .i64 ((rd_T55 l0 x3_1).f2.f0.f4), .int .i64 ((rd_T55 l0 x3_1).f2.f1), .int .i64 ((rd_T55 l0 x3_1).f3), .int .i64 ((rd_T55 l0 x3_1).f4), .int .i64 ((rd_T55 l0 x3_1).f5), .int .i64 ((rd_T55 l0 x3_1).f6), .int .i64 ((rd_T55 l0 x3_1).f7), .int .i64 ((rd_T55 l0 x3_1).f8), .int .i64 ((rd_T55 l0 x3_1).f9), .int .i64 ((rd_T55 l0 x3_1).f10)]] (by rfl) rfl rfl Gv.lm ?_
        with_reducible refine (spec_RuleOk.calls k1 ((rd_T55 l0 x3_1).f0) ((rd_T55 l0 x3_1).f1.f0.f0) ((rd_T55 l0 x3_1).f1.f0.f1) ((rd_T55 l0 x3_1).f1.f0.f2) ((rd_T55 l0 x3_1).f1.f0.f3) ((rd_T55 l0 x3_1).f1.f0.f4) ((rd_T55 l0 x3_1).f1.f1) ((rd_T55 l0 x3_1).f2.f0.f0) ((rd_T55 l0 x3_1).f2.f0.f1) ((rd_T55 l0 x3_1).f2.f0.f2) ((rd_T55 l0 x3_1).f2.f0.f3) ((rd_T55 l0 x3_1).f2.f0.f4) ((rd_T55 l0 x3_1).f2.f1) ((rd_T55 l0 x3_1).f3) ((rd_T55 l0 x3_1).f4) ((rd_T55 l0 x3_1).f5) ((rd_T55 l0 x3_1).f6) ((rd_T55 l0 x3_1).f7) ((rd_T55 l0 x3_1).f8) ((rd_T55 l0 x3_1).f9) ((rd_T55 l0 x3_1).f10) true _ A5.out).mono ?_
        rintro e w17 ⟨rfl, hb⟩
        refine ⟨_, rfl, ?_⟩
        have n0_ := Gv.a0 (below_step Gv.bw hb)
        clear HB
        have HB := n0_
        clear n0_
        (try clear hb)
        (try clear hb2)
        (try clear hk)
        (try clear hi)
        refine hK.out _ _ ⟨(Gv.bx HB.out hw257_0), (Gv.bx HB.out hw257_1), (Gv.bx HB.out hw257_2), (Gv.bx HB.out hw257_3), (Gv.bx HB.out hw257_4), (Gv.bx HB.out hw257_5), (Gv.bx HB.out hw257_6), (Gv.bx HB.out hw257_7), (Gv.bx HB.out hw257_8), (Gv.bx HB.out hw257_9), (Gv.bx HB.out hw257_10), (Gv.bx HB.out hw257_11), (Gv.bx HB.out hw257_12), (Gv.bx HB.out hw257_13), (Gv.bx HB.out hw257_14), (Gv.bx HB.out hw257_15), (Gv.bx HB.out hw257_16), (Gv.bx HB.out hw257_17), (Gv.bx HB.out hw257_18), (Gv.bx HB.out hw257_19), (Gv.bx HB.out hw257_20)⟩ (fun hHeld => ?_)
        clear hK K
        refine norm_ (a' := ?_) ?_ ?_
        rotate_left
        ·show Act.put _ (some 17) _ = _
         simp only [Act.put, List.setIfInBounds_toArray, List.set_cons_zero, List.set_cons_succ, i64_w, i32_w]
         rfl
        refine Gv.pu 5 (some 18) HT_ ?_
        refine Gv.pu 6 (some 19) HT_ ?_
        refine Gv.pu 7 (some 20) HT_ ?_
        refine Gv.pu 8 (some 21) HT_ ?_
        refine Gv.pu 9 (some 22) HT_ ?_
        refine Gv.pn 10 (some 23) HT_ ?_
        refine Gv.pn 11 (some 24) HT_ ?_
        refine Gv.pn 12 (some 25) HT_ ?_
        refine Gv.pn 13 (some 26) HT_ ?_
        refine Gv.pn 14 (some 27) HT_ ?_
        refine Gv.pn 15 (some 28) HT_ ?_
        refine Gv.pn 16 (some 29) HT_ ?_
        refine Gv.pn 17 (some 30) HT_ ?_
        refine Gv.pn 18 (some 31) HT_ ?_
        refine Gv.pn 19 (some 32) HT_ ?_
        refine Gv.pn 20 (some 33) HT_ ?_
        refine Gv.pn 21 (some 34) HT_ ?_
        refine Gv.pu 22 (some 35) HT_ ?_
        refine Gv.pu 23 (some 36) HT_ ?_
        refine done_ (done_of HT_.out (by kernel_rfl)) ?_
        try go_wp2
        go_roundg k1
        case measure => have := HK1.out; omega
        case rel => exact ⟨(wrap64 (x3_1 + 1)), Gv.rq, H', ⟨by have := HK1.out; omega⟩, ⟨Gv.bw⟩⟩
      ·replace c6 := Bool.eq_false_iff.mpr c6
       subst c6
       have H1 : (some false) = some r := by rw [if_neg (show ¬ (false = true) by decide)] at H; exact H
       clear H
       have H := H1
       clear H1
       obtain rfl := Option.some.inj H
       try go_wp2
       have n0_ := Gv.a0 (below_drew1 HB.out)
       clear HB
       have HB := n0_
       clear n0_
       have p257 : 0 ≤ (x3_1 : Int) := of_decide_eq_true (by first | (with_reducible assumption) | assumption)
       have q257 : x3_1 < (l0.length : Int) := of_decide_eq_true (by first | (with_reducible assumption) | assumption)
       obtain ⟨ad257, e257, hx257_0, hx257_1, hx257_2, hx257_3, hx257_4, hx257_5, hx257_6, hx257_7, hx257_8, hx257_9, hx257_10, hx257_11, hx257_12, hx257_13, hx257_14, hx257_15, hx257_16, hx257_17, hx257_18, hx257_19, hx257_20⟩ := at_T55 HR0.out x3_1 p257 q257
       have hw257_20 := hx257_20
       have hw257_19 := hx257_19
       have hw257_18 := hx257_18
       have hw257_17 := hx257_17
       have hw257_16 := hx257_16
       have hw257_15 := hx257_15
       have hw257_14 := hx257_14
       have hw257_13 := hx257_13
       have hw257_12 := hx257_12
       have hw257_11 := hx257_11
       have hw257_10 := hx257_10
       have hw257_9 := hx257_9
       have hw257_8 := hx257_8
       have hw257_7 := hx257_7
       have hw257_6 := hx257_6
       have hw257_5 := hx257_5
       have hw257_4 := hx257_4
       have hw257_3 := hx257_3
       have hw257_2 := hx257_2
       have hw257_1 := hx257_1
       have hw257_0 := hx257_0
       cases e257
       replace hx257_0 := Gv.bx HB.out hx257_0
       replace hx257_1 := Gv.bx HB.out hx257_1
       replace hx257_2 := Gv.bx HB.out hx257_2
       replace hx257_3 := Gv.bx HB.out hx257_3
       replace hx257_4 := Gv.bx HB.out hx257_4
       replace hx257_5 := Gv.bx HB.out hx257_5
       replace hx257_6 := Gv.bx HB.out hx257_6
       replace hx257_7 := Gv.bx HB.out hx257_7
       replace hx257_8 := Gv.bx HB.out hx257_8
       replace hx257_9 := Gv.bx HB.out hx257_9
       replace hx257_10 := Gv.bx HB.out hx257_10
       replace hx257_11 := Gv.bx HB.out hx257_11
       replace hx257_12 := Gv.bx HB.out hx257_12
       replace hx257_13 := Gv.bx HB.out hx257_13
       replace hx257_14 := Gv.bx HB.out hx257_14
       replace hx257_15 := Gv.bx HB.out hx257_15
       replace hx257_16 := Gv.bx HB.out hx257_16
       replace hx257_17 := Gv.bx HB.out hx257_17
       replace hx257_18 := Gv.bx HB.out hx257_18
       replace hx257_19 := Gv.bx HB.out hx257_19
       replace hx257_20 := Gv.bx HB.out hx257_20
       replace p257 := eq_true p257
       replace q257 := eq_true q257
       refine start_ (n := 24) (S := fun w' => w'.cell? (ad257.add ((x3_1).toNat * 21)) = some (.int .i64 ((rd_T55 l0 x3_1).f0)) ∧ w'.cell? ⟨(ad257.add ((x3_1).toNat * 21)).block, (ad257.add ((x3_1).toNat * 21)).off + 1, none⟩ = some (.int .i64 ((rd_T55 l0 x3_1).f1.f0.f0)) ∧ w'.cell? ⟨(ad257.add ((x3_1).toNat * 21)).block, (ad257.add ((x3_1).toNat * 21)).off + 2, none⟩ = some (.int .i64 ((rd_T55 l0 x3_1).f1.f0.f1)) ∧ w'.cell? ⟨(ad257.add ((x3_1).toNat * 21)).block, (ad257.add ((x3_1).toNat * 21)).off + 3, none⟩ = some (.int .i64 ((rd_T55 l0 x3_1).f1.f0.f2)) ∧ w'.cell? ⟨(ad257.add ((x3_1).toNat * 21)).block, (ad257.add ((x3_1).toNat * 21)).off + 4, none⟩ = some (.int .i64 ((rd_T55 l0 x3_1).f1.f0.f3)) ∧ w'.cell? ⟨(ad257.add ((x3_1).toNat * 21)).block, (ad257.add ((x3_1).toNat * 21)).off + 5, none⟩ = some (.int .i64 ((rd_T55 l0 x3_1).f1.f0.f4)) ∧ w'.cell? ⟨(ad257.add ((x3_1).toNat * 21)).block, (ad257.add ((x3_1).toNat * 21)).off + 6, none⟩ = some (.int .i64 ((rd_T55 l0 x3_1).f1.f1)) ∧ w'.cell? ⟨(ad257.add ((x3_1).toNat * 21)).block, (ad257.add ((x3_1).toNat * 21)).off + 7, none⟩ = some (.int .i64 ((rd_T55 l0 x3_1).f2.f0.f0)) ∧ w'.cell? ⟨(ad257.add ((x3_1).toNat * 21)).block, (ad257.add ((x3_1).toNat * 21)).off + 8, none⟩ = some (.int .i64 ((rd_T55 l0 x3_1).f2.f0.f1)) ∧ w'.cell? ⟨(ad257.add ((x3_1).toNat * 21)).block, (ad257.add ((x3_1).toNat * 21)).off + 9, none⟩ = some (.int .i64 ((rd_T55 l0 x3_1).f2.f0.f2)) ∧ w'.cell? ⟨(ad257.add ((x3_1).toNat * 21)).block, (ad257.add ((x3_1).toNat * 21)).off + 10, none⟩ = some (.int .i64 ((rd_T55 l0 x3_1).f2.f0.f3)) ∧ w'.cell? ⟨(ad257.add ((x3_1).toNat * 21)).block, (ad257.add ((x3_1).toNat * 21)).off + 11, none⟩ = some (.int .i64 ((rd_T55 l0 x3_1).f2.f0.f4)) ∧ w'.cell? ⟨(ad257.add ((x3_1).toNat * 21)).block, (ad257.add ((x3_1).toNat * 21)).off + 12, none⟩ = some (.int .i64 ((rd_T55 l0 x3_1).f2.f1)) ∧ w'.cell? ⟨(ad257.add ((x3_1).toNat * 21)).block, (ad257.add ((x3_1).toNat * 21)).off + 13, none⟩ = some (.int .i64 ((rd_T55 l0 x3_1).f3)) ∧ w'.cell? ⟨(ad257.add ((x3_1).toNat * 21)).block, (ad257.add ((x3_1).toNat * 21)).off + 14, none⟩ = some (.int .i64 ((rd_T55 l0 x3_1).f4)) ∧ w'.cell? ⟨(ad257.add ((x3_1).toNat * 21)).block, (ad257.add ((x3_1).toNat * 21)).off + 15, none⟩ = some (.int .i64 ((rd_T55 l0 x3_1).f5)) ∧ w'.cell? ⟨(ad257.add ((x3_1).toNat * 21)).block, (ad257.add ((x3_1).toNat * 21)).off + 16, none⟩ = some (.int .i64 ((rd_T55 l0 x3_1).f6)) ∧ w'.cell? ⟨(ad257.add ((x3_1).toNat * 21)).block, (ad257.add ((x3_1).toNat * 21)).off + 17, none⟩ = some (.int .i64 ((rd_T55 l0 x3_1).f7)) ∧ w'.cell? ⟨(ad257.add ((x3_1).toNat * 21)).block, (ad257.add ((x3_1).toNat * 21)).off + 18, none⟩ = some (.int .i64 ((rd_T55 l0 x3_1).f8)) ∧ w'.cell? ⟨(ad257.add ((x3_1).toNat * 21)).block, (ad257.add ((x3_1).toNat * 21)).off + 19, none⟩ = some (.int .i64 ((rd_T55 l0 x3_1).f9)) ∧ w'.cell? ⟨(ad257.add ((x3_1).toNat * 21)).block, (ad257.add ((x3_1).toNat * 21)).off + 20, none⟩ = some (.int .i64 ((rd_T55 l0 x3_1).f10))) (ds := []) #[false, false, false, false, false, false, false, false, false, false, false, false, false, false, false, false, false, false, false, false, false, false, false, false] (by kernel_rfl) rfl rfl ⟨(Gv.bx HB.out hw257_0), (Gv.bx HB.out hw257_1), (Gv.bx HB.out hw257_2), (Gv.bx HB.out hw257_3), (Gv.bx HB.out hw257_4), (Gv.bx HB.out hw257_5), (Gv.bx HB.out hw257_6), (Gv.bx HB.out hw257_7), (Gv.bx HB.out hw257_8), (Gv.bx HB.out hw257_9), (Gv.bx HB.out hw257_10), (Gv.bx HB.out hw257_11), (Gv.bx HB.out hw257_12), (Gv.bx HB.out hw257_13), (Gv.bx HB.out hw257_14), (Gv.bx HB.out hw257_15), (Gv.bx HB.out hw257_16), (Gv.bx HB.out hw257_17), (Gv.bx HB.out hw257_18), (Gv.bx HB.out hw257_19), (Gv.bx HB.out hw257_20)⟩ (fun hHeld => ?_); refine with_tabW spec_RulesOk.tab6 spec_RulesOk.bits6 (fun HT_ HW_ => ?_)
       generalize wr.drew = w18 at HB hx257_0 hx257_1 hx257_10 hx257_11 hx257_12 hx257_13 hx257_14 hx257_15 hx257_16 hx257_17 hx257_18 hx257_19 hx257_2 hx257_20 hx257_3 hx257_4 hx257_5 hx257_6 hx257_7 hx257_8 hx257_9 hHeld ⊢
       refine Gv.pu 0 (some 13) HT_ ?_
       refine Gv.pu 1 (some 14) HT_ ?_
       refine Gv.pu 2 (some 15) HT_ ?_
       refine take_ (i := 3) (N := some 16) (v := ?_) (a' := ?_) #[true, true, true, true, false, false, false, false, false, false, false, false, false, false, false, false, false, false, false, false, false, false, false, false] rfl rfl (take_ofW HT_.out HW_.out (by kernel_rfl)) (fun _ _ _ h => h) (Or.inl ⟨by rfl, ?_⟩) hHeld ?_ ?_
       rotate_left
       ·rintro w' ⟨s0, s1, s2, s3, s4, s5, s6, s7, s8, s9, s10, s11, s12, s13, s14, s15, s16, s17, s18, s19, s20⟩
        first | ((refine Gv.load_run (t := 55) (A := ad257.add ((x3_1).toNat * 21)) (cs := [_, _, _, _, _, _, _, _, _, _, _, _, _, _, _, _, _, _, _, _, _]) (x := ?xx21_) ?ho21_ ?hx21_ ⟨s0, s1, s2, s3, s4, s5, s6, s7, s8, s9, s10, s11, s12, s13, s14, s15, s16, s17, s18, s19, s20, trivial⟩ Try.underlying55 rfl (by kernel_rfl)); (case ho21_ => rfl); (case hx21_ => rfl)) | (go_simp; with_reducible rfl)
       rotate_left
       ·simp only [Act.put, List.setIfInBounds_toArray, List.set_cons_zero, List.set_cons_succ, i64_w, i32_w]
        rfl
       refine one_ (i := 4) (N := some 17) #[true, true, true, true, true, false, false, false, false, false, false, false, false, false, false, false, false, false, false, false, false, false, false, false] rfl rfl (one_of HT_.out (by kernel_rfl)) (by decide) (fun K hK => ?_)
       refine goes_ Try.func28 (by kernel_rfl) rfl #[.agg #[.int .i64 ((rd_T55 l0 x3_1).f0), .int .i64 ((rd_T55 l0 x3_1).f1.f0.f0), .int .i64 ((rd_T55 l0 x3_1).f1.f0.f1), .int .i64 ((rd_T55 l0 x3_1).f1.f0.f2), .int .i64 ((rd_T55 l0 x3_1).f1.f0.f3), .int .i64 ((rd_T55 l0 x3_1).f1.f0.f4), .int .i64 ((rd_T55 l0 x3_1).f1.f1), .int .i64 ((rd_T55 l0 x3_1).f2.f0.f0), .int .i64 ((rd_T55 l0 x3_1).f2.f0.f1), .int .i64 ((rd_T55 l0 x3_1).f2.f0.f2), .int .i64 ((rd_T55 l0 x3_1).f2.f0.f3), .int .i64 ((rd_T55 l0 x3_1).f2.f0.f4), .int .i64 ((rd_T55 l0 x3_1).f2.f1), .int .i64 ((rd_T55 l0 x3_1).f3), .int .i64 ((rd_T55 l0 x3_1).f4), .int .i64 ((rd_T55 l0 x3_1).f5), .int .i64 ((rd_T55 l0 x3_1).f6), .int .i64 ((rd_T55 l0 x3_1).f7), .int .i64 ((rd_T55 l0 x3_1).f8), .int .i64 ((rd_T55 l0 x3_1).f9), .int .i64 ((rd_T55 l0 x3_1).f10)]] (by rfl) rfl rfl Gv.lm ?_
       with_reducible refine (spec_RuleOk.calls k1 ((rd_T55 l0 x3_1).f0) ((rd_T55 l0 x3_1).f1.f0.f0) ((rd_T55 l0 x3_1).f1.f0.f1) ((rd_T55 l0 x3_1).f1.f0.f2) ((rd_T55 l0 x3_1).f1.f0.f3) ((rd_T55 l0 x3_1).f1.f0.f4) ((rd_T55 l0 x3_1).f1.f1) ((rd_T55 l0 x3_1).f2.f0.f0) ((rd_T55 l0 x3_1).f2.f0.f1) ((rd_T55 l0 x3_1).f2.f0.f2) ((rd_T55 l0 x3_1).f2.f0.f3) ((rd_T55 l0 x3_1).f2.f0.f4) ((rd_T55 l0 x3_1).f2.f1) ((rd_T55 l0 x3_1).f3) ((rd_T55 l0 x3_1).f4) ((rd_T55 l0 x3_1).f5) ((rd_T55 l0 x3_1).f6) ((rd_T55 l0 x3_1).f7) ((rd_T55 l0 x3_1).f8) ((rd_T55 l0 x3_1).f9) ((rd_T55 l0 x3_1).f10) false _ A5.out).mono ?_
       rintro e w19 ⟨rfl, hb⟩
       refine ⟨_, rfl, ?_⟩
       have n0_ := Gv.a0 (below_step Gv.bw hb)
       clear HB
       have HB := n0_
       clear n0_
       (try clear hb)
       (try clear hb2)
       (try clear hk)
       (try clear hi)
       refine hK.out _ _ ⟨(Gv.bx HB.out hw257_0), (Gv.bx HB.out hw257_1), (Gv.bx HB.out hw257_2), (Gv.bx HB.out hw257_3), (Gv.bx HB.out hw257_4), (Gv.bx HB.out hw257_5), (Gv.bx HB.out hw257_6), (Gv.bx HB.out hw257_7), (Gv.bx HB.out hw257_8), (Gv.bx HB.out hw257_9), (Gv.bx HB.out hw257_10), (Gv.bx HB.out hw257_11), (Gv.bx HB.out hw257_12), (Gv.bx HB.out hw257_13), (Gv.bx HB.out hw257_14), (Gv.bx HB.out hw257_15), (Gv.bx HB.out hw257_16), (Gv.bx HB.out hw257_17), (Gv.bx HB.out hw257_18), (Gv.bx HB.out hw257_19), (Gv.bx HB.out hw257_20)⟩ (fun hHeld => ?_)
       clear hK K
       refine norm_ (a' := ?_) ?_ ?_
       rotate_left
       ·show Act.put _ (some 17) _ = _
        simp only [Act.put, List.setIfInBounds_toArray, List.set_cons_zero, List.set_cons_succ, i64_w, i32_w]
        rfl
       refine Gv.pu 5 (some 18) HT_ ?_
       refine Gv.pu 6 (some 19) HT_ ?_
       refine Gv.pn 7 (some 20) HT_ ?_
       refine Gv.pn 8 (some 21) HT_ ?_
       refine Gv.pn 9 (some 22) HT_ ?_
       refine Gv.pn 10 (some 23) HT_ ?_
       refine Gv.pn 11 (some 24) HT_ ?_
       refine Gv.pn 12 (some 25) HT_ ?_
       refine Gv.pn 13 (some 26) HT_ ?_
       refine Gv.pn 14 (some 27) HT_ ?_
       refine Gv.pn 15 (some 28) HT_ ?_
       refine Gv.pn 16 (some 29) HT_ ?_
       refine Gv.pn 17 (some 30) HT_ ?_
       refine Gv.pn 18 (some 31) HT_ ?_
       refine Gv.pn 19 (some 32) HT_ ?_
       refine Gv.pn 20 (some 33) HT_ ?_
       refine Gv.pn 21 (some 34) HT_ ?_
       refine Gv.pn 22 (some 35) HT_ ?_
       refine Gv.pu 23 (some 36) HT_ ?_
       refine done_ (done_of HT_.out (by kernel_rfl)) ?_
       try go_wp2
       go_ret
       exact ⟨Gv.rt, Gv.bw⟩
     ·rw [if_neg c4] at H
      exact absurd H (by simp)
    ·rw [if_neg c3] at H
     have c3b0 : decide (x3_1 < (l0.length : Int)) = false := decide_eq_false c3
     clear c3
     obtain rfl := Option.some.inj H
     go_wp2
     go_ret
     exact ⟨Gv.rt, Gv.bw⟩

/-! ### spec_PrefixHas: function 51 -/
def spec_PrefixHas.j0 : Nat → Bool → Int → Int → Int → Int → Int → Int → Int → Int → Int → Int → Int → Option (Bool)
 | 0, _, _, _, _, _, _, _, _, _, _, _, _ => none
 | k + 1, x12, x262000, x262001, x262002, x262003, x262004, x262005, x263000, x263001, x263002, x263003, x263004 => if x12 = true then (some false) else ((spec_l03Any.f x262000 x262001 x262002 x262003 x262004 x262005).bind fun t265 => (if t265 = true then (some true) else (if x262000 = x263000 then ((spec_Cut.f k x263000 x263001 x263002 x263003 x263004 x262005).bind fun bt266 => (some (bt266.1 == x262000 && (bt266.2.1 == x262001 && (bt266.2.2.1 == x262002 && (bt266.2.2.2.1 == x262003 && (bt266.2.2.2.2 == x262004))))))) else (some false))))
def spec_PrefixHas.f (k : Nat) (a0_0 : Int) (a0_1 : Int) (a0_2 : Int) (a0_3 : Int) (a0_4 : Int) (a0_5 : Int) (a1_0 : Int) (a1_1 : Int) (a1_2 : Int) (a1_3 : Int) (a1_4 : Int) : Option (Bool) := (spec_PrefixOk.f k a0_0 a0_1 a0_2 a0_3 a0_4 a0_5).bind fun t263 => (if t263 = true then ((spec_AddrOk.f a1_0 a1_1 a1_2 a1_3 a1_4).bind fun t264 => (spec_PrefixHas.j0 k (!t264) a0_0 a0_1 a0_2 a0_3 a0_4 a0_5 a1_0 a1_1 a1_2 a1_3 a1_4)) else (spec_PrefixHas.j0 k true a0_0 a0_1 a0_2 a0_3 a0_4 a0_5 a1_0 a1_1 a1_2 a1_3 a1_4))
theorem spec_PrefixHas.mono_l : ∀ k, (∀ y0 y1 y2 y3 y4 y5 y6 y7 y8 y9 y10 y11, LeO (spec_PrefixHas.j0 k y0 y1 y2 y3 y4 y5 y6 y7 y8 y9 y10 y11) (spec_PrefixHas.j0 (k + 1) y0 y1 y2 y3 y4 y5 y6 y7 y8 y9 y10 y11))
 | 0 => fun _ _ _ _ _ _ _ _ _ _ _ _ r h => by simp [spec_PrefixHas.j0] at h
 | k + 1 => by
  have ih0 := spec_PrefixHas.mono_l k
  ·intro y0 y1 y2 y3 y4 y5 y6 y7 y8 y9 y10 y11
   unfold spec_PrefixHas.j0
   repeat' first
   | (with_reducible exact ih0 _ _ _ _ _ _ _ _ _ _ _ _)
   | (with_reducible exact spec_Cut.mono _ _ _ _ _ _ _)
   | (with_reducible exact spec_PrefixOk.mono _ _ _ _ _ _ _)
   | (with_reducible exact LeO.refl _)
   | (with_reducible exact LeO.none _)
   | (with_reducible refine LeO.ite ?_ ?_)
   | (with_reducible refine LeO.bind ?_ (fun _ => ?_))
   | exact ih0 _ _ _ _ _ _ _ _ _ _ _ _
   | exact spec_Cut.mono _ _ _ _ _ _ _
   | exact spec_PrefixOk.mono _ _ _ _ _ _ _
   | exact LeO.none _
   | refine LeO.ite ?_ ?_
   | refine LeO.bind ?_ (fun _ => ?_)
theorem spec_PrefixHas.mono : ∀ a0 a1 a2 a3 a4 a5 a6 a7 a8 a9 a10 k, LeO (spec_PrefixHas.f k a0 a1 a2 a3 a4 a5 a6 a7 a8 a9 a10) (spec_PrefixHas.f (k + 1) a0 a1 a2 a3 a4 a5 a6 a7 a8 a9 a10) := by
 intro a0 a1 a2 a3 a4 a5 a6 a7 a8 a9 a10 k
 have ih0 := spec_PrefixHas.mono_l k
 unfold spec_PrefixHas.f
 repeat' first
   | (with_reducible exact ih0 _ _ _ _ _ _ _ _ _ _ _ _)
   | (with_reducible exact spec_Cut.mono _ _ _ _ _ _ _)
   | (with_reducible exact spec_PrefixOk.mono _ _ _ _ _ _ _)
   | (with_reducible exact LeO.refl _)
   | (with_reducible exact LeO.none _)
   | (with_reducible refine LeO.ite ?_ ?_)
   | (with_reducible refine LeO.bind ?_ (fun _ => ?_))
   | exact ih0 _ _ _ _ _ _ _ _ _ _ _ _
   | exact spec_Cut.mono _ _ _ _ _ _ _
   | exact spec_PrefixOk.mono _ _ _ _ _ _ _
   | exact LeO.none _
   | refine LeO.ite ?_ ?_
   | refine LeO.bind ?_ (fun _ => ?_)
def spec_PrefixHas.T3 : Bool × List (List Nat × List Nat) := (true, [([], []), ([0], [0]), ([1, 1], [1]), ([2], [2]), ([3, 2], [2, 3]), ([4, 2], [2, 4]), ([2], [2]), ([6, 2], [2, 6]), ([5, 7, 2], [2, 5, 7]), ([8, 2, 2], [2, 8]), ([9], [9]), ([9], [9]), ([11, 9], [9, 11]), ([10, 12, 9, 9], [9, 10, 12]), ([9], [9]), ([14, 9], [9, 14]), ([13, 15, 9], [9, 13, 15]), ([9, 16, 2], [2, 9, 16]), ([2, 17], [2, 17]), ([18, 13, 0, 1, 2, 3, 4, 5, 6, 7, 8, 9, 10, 11, 12, 13, 14, 15, 16, 17, 18], [18])])
def spec_PrefixHas.B3 : List Nat := [0, 1, 3, 7, 15, 31, 7, 71, 255, 511, 1023, 1023, 3071, 8191, 1023, 17407, 65535, 131071, 262143, 524287]
theorem spec_PrefixHas.tab3 : rtab .any (opsOf Try.f51 3) = spec_PrefixHas.T3 := by kernel_rfl
theorem spec_PrefixHas.bits3 : waitsOk spec_PrefixHas.T3.2 spec_PrefixHas.B3 = true := by kernel_rfl
set_option maxHeartbeats 8000000 in
set_option maxRecDepth 100000 in
theorem spec_PrefixHas.calls (k : Nat) (a0_0 : Int) (a0_1 : Int) (a0_2 : Int) (a0_3 : Int) (a0_4 : Int) (a0_5 : Int) (a1_0 : Int) (a1_1 : Int) (a1_2 : Int) (a1_3 : Int) (a1_4 : Int) (r : Bool) (w : World) (h : spec_PrefixHas.f k a0_0 a0_1 a0_2 a0_3 a0_4 a0_5 a1_0 a1_1 a1_2 a1_3 a1_4 = some r) :
  Calls Try.prog 51 #[.agg #[.int .i64 a0_0, .int .i64 a0_1, .int .i64 a0_2, .int .i64 a0_3, .int .i64 a0_4, .int .i64 a0_5], .agg #[.int .i64 a1_0, .int .i64 a1_1, .int .i64 a1_2, .int .i64 a1_3, .int .i64 a1_4]] w fun e w' => e = .returned (.bool r) ∧ Below w.heap.size w w' := by
 have hu53 := Try.underlying53
 have hu34 := Try.underlying34
 have HB := Gv.a0 (Below.refl w.heap.size w)
 have H : ((spec_PrefixOk.f k a0_0 a0_1 a0_2 a0_3 a0_4 a0_5).bind fun t263 => (if t263 = true then ((spec_AddrOk.f a1_0 a1_1 a1_2 a1_3 a1_4).bind fun t264 => (spec_PrefixHas.j0 k (!t264) a0_0 a0_1 a0_2 a0_3 a0_4 a0_5 a1_0 a1_1 a1_2 a1_3 a1_4)) else (spec_PrefixHas.j0 k true a0_0 a0_1 a0_2 a0_3 a0_4 a0_5 a1_0 a1_1 a1_2 a1_3 a1_4))) = some r := h
 clear h
 have HC3 := Gv.a0 H
 clear H
 go_enter Try.func51, Try.ntmps51
 go_upto_region 1 with (first | ((with_reducible refine gate_dst (N := 2) rfl ?_); refine box_event ?hg (N := 2) ?hd (cs := #[.int .i64 a0_0, .int .i64 a0_1, .int .i64 a0_2, .int .i64 a0_3, .int .i64 a0_4, .int .i64 a0_5]) (t := 53) ?hr ?_; (case hd => rfl); (case hg => rfl); (case hr => first | (go_simp; done) | (go_simp; rfl)); intro gb261 hg w4 hbox hb; have n0_ := Gv.a0 (below_step Gv.bw hb); have n1_ := Gv.a0 (hbox); have n2_ := Gv.a0 ((Gv.ble hg Gv.bw : w.heap.size ≤ gb261)); have n3_ := Gv.a0 ((Gv.ble hg Gv.bw : w.heap.size ≤ gb261)); clear HB; have HB := n0_; have BK261 := n1_; have GW261 := n2_; have GE261 := n3_; clear n0_ n1_ n2_ n3_; clear hb hbox hg) | ((with_reducible refine gate_dst (N := 3) rfl ?_); refine box_event ?hg (N := 3) ?hd (cs := #[.int .i64 a1_0, .int .i64 a1_1, .int .i64 a1_2, .int .i64 a1_3, .int .i64 a1_4]) (t := 34) ?hr ?_; (case hd => rfl); (case hg => rfl); (case hr => first | (go_simp; done) | (go_simp; rfl)); intro gb262 hg w5 hbox hb; have n0_ := Gv.a0 (Gv.bb BK261.out hb); have n1_ := Gv.a0 (below_step Gv.bw hb); have n2_ := Gv.a0 (hbox); have n3_ := Gv.a0 ((Gv.ble hg Gv.bw : w.heap.size ≤ gb262)); have n4_ := Gv.a0 ((Gv.ble hg Gv.bw : w.heap.size ≤ gb262)); have n5_ := Gv.a0 ((Gv.nlt hg (Gv.kb BK261.out) : gb261 ≠ gb262)); have n6_ := Gv.a0 ((Gv.ngt hg (Gv.kb BK261.out) : gb262 ≠ gb261)); clear BK261; clear HB; have BK261 := n0_; have HB := n1_; have BK262 := n2_; have GW262 := n3_; have GE262 := n4_; have NB261_262 := n5_; have NB262_261 := n6_; clear n0_ n1_ n2_ n3_ n4_ n5_ n6_; clear hb hbox hg))
 (try simp only [Act.put, List.setIfInBounds_toArray, List.set_cons_zero, List.set_cons_succ])
 go_cut [12] (fun v12 wc => ∃ (kq : Nat) (x12_2 : Bool), v12 = .bool x12_2 ∧ Aside0 (spec_PrefixHas.j0 kq x12_2 a0_0 a0_1 a0_2 a0_3 a0_4 a0_5 a1_0 a1_1 a1_2 a1_3 a1_4 = some r) ∧ Aside0 (kq ≤ k) ∧ Aside0 (wc.heap[gb261]? = some (.cells #[.int .i64 a0_0, .int .i64 a0_1, .int .i64 a0_2, .int .i64 a0_3, .int .i64 a0_4, .int .i64 a0_5] 53 (0, 0))) ∧ Aside0 (wc.heap[gb262]? = some (.cells #[.int .i64 a1_0, .int .i64 a1_1, .int .i64 a1_2, .int .i64 a1_3, .int .i64 a1_4] 34 (0, 0))) ∧ Aside0 (Below w.heap.size w wc))
 case first =>
  have H := HC3.out
  clear HC3
  replace H := Option.bind_eq_some_iff.mp H
  obtain ⟨t263, A60, H⟩ := H
  replace H : (if t263 = true then ((spec_AddrOk.f a1_0 a1_1 a1_2 a1_3 a1_4).bind fun t264 => (spec_PrefixHas.j0 k (!t264) a0_0 a0_1 a0_2 a0_3 a0_4 a0_5 a1_0 a1_1 a1_2 a1_3 a1_4)) else (spec_PrefixHas.j0 k true a0_0 a0_1 a0_2 a0_3 a0_4 a0_5 a1_0 a1_1 a1_2 a1_3 a1_4)) = some r := H
  have A6 := Gv.a0 A60
  clear A60
  by_cases c7 : t263 = true
  ·subst c7
   have H1 : ((spec_AddrOk.f a1_0 a1_1 a1_2 a1_3 a1_4).bind fun t264 => (spec_PrefixHas.j0 k (!t264) a0_0 a0_1 a0_2 a0_3 a0_4 a0_5 a1_0 a1_1 a1_2 a1_3 a1_4)) = some r := by rw [if_pos rfl] at H; exact H
   clear H
   have H := H1
   clear H1
   replace H := Option.bind_eq_some_iff.mp H
   obtain ⟨t264, A80, H⟩ := H
   replace H : (spec_PrefixHas.j0 k (!t264) a0_0 a0_1 a0_2 a0_3 a0_4 a0_5 a1_0 a1_1 a1_2 a1_3 a1_4) = some r := H
   have A8 := Gv.a0 A80
   clear A80
   have H' := Gv.a0 H
   clear H
   have hnb9 := NB261_262.out
   have hnc9 := NB262_261.out
   obtain ⟨hcz10_0, hcz10_1, hcz10_2, hcz10_3, hcz10_4, hcz10_5⟩ := Gv.c6 BK261.out
   obtain ⟨hfz10_0, hfz10_1, hfz10_2, hfz10_3, hfz10_4, hfz10_5⟩ := Gv.f6 BK261.out
   go_wp2_with (first | ((with_reducible refine gate_callee (f := 44) rfl ?_); refine goesL_ (some 6) rfl rfl Try.func44 (by kernel_rfl) rfl #[.agg #[.int .i64 a0_0, .int .i64 a0_1, .int .i64 a0_2, .int .i64 a0_3, .int .i64 a0_4, .int .i64 a0_5]] rfl Gv.lm ?_; (with_reducible refine (spec_PrefixOk.calls k a0_0 a0_1 a0_2 a0_3 a0_4 a0_5 true _ A6.out).mono ?_); rintro e w11 ⟨rfl, hb⟩; refine ⟨_, rfl, ?_⟩; have n0_ := Gv.a0 (Gv.bb BK261.out hb); have n1_ := Gv.a0 (Gv.bb BK262.out hb); have n2_ := Gv.a0 (below_step Gv.bw hb); clear BK261; clear BK262; clear HB; have BK261 := n0_; have BK262 := n1_; have HB := n2_; clear n0_ n1_ n2_; (try clear hb); (try clear hb2); (try clear hk); (try clear hi); obtain ⟨hcz12_0, hcz12_1, hcz12_2, hcz12_3, hcz12_4⟩ := Gv.c5 BK262.out; obtain ⟨hfz12_0, hfz12_1, hfz12_2, hfz12_3, hfz12_4⟩ := Gv.f5 BK262.out) | (go_at_call 61; (with_reducible refine (spec_AddrOk.calls a1_0 a1_1 a1_2 a1_3 a1_4 t264 _ A8.out).mono ?_); rintro e w13 ⟨rfl, hb⟩; have n0_ := Gv.a0 (Gv.bb BK261.out hb); have n1_ := Gv.a0 (Gv.bb BK262.out hb); have n2_ := Gv.a0 (below_step Gv.bw hb); clear BK261; clear BK262; clear HB; have BK261 := n0_; have BK262 := n1_; have HB := n2_; clear n0_ n1_ n2_; (try clear hb); (try clear hb2); (try clear hk); (try clear hi)))
   go_meet
   case rel => exact ⟨_, (!t264), Gv.rq, H', ⟨by first | omega | exact Nat.le_refl _⟩, ⟨by (with_reducible repeat (first | refine blk_drewN ?_ _ | refine blk_drew ?_ | refine blk_alloc ?_ _)); exact BK261.out⟩, ⟨by (with_reducible repeat (first | refine blk_drewN ?_ _ | refine blk_drew ?_ | refine blk_alloc ?_ _)); exact BK262.out⟩, ⟨Gv.bw⟩⟩
  ·replace c7 := Bool.eq_false_iff.mpr c7
   subst c7
   have H1 : (spec_PrefixHas.j0 k true a0_0 a0_1 a0_2 a0_3 a0_4 a0_5 a1_0 a1_1 a1_2 a1_3 a1_4) = some r := by rw [if_neg (show ¬ (false = true) by decide)] at H; exact H
   clear H
   have H := H1
   clear H1
   have H' := Gv.a0 H
   clear H
   have hnb14 := NB261_262.out
   have hnc14 := NB262_261.out
   obtain ⟨hcz15_0, hcz15_1, hcz15_2, hcz15_3, hcz15_4, hcz15_5⟩ := Gv.c6 BK261.out
   obtain ⟨hfz15_0, hfz15_1, hfz15_2, hfz15_3, hfz15_4, hfz15_5⟩ := Gv.f6 BK261.out
   go_wp2_with (first | ((with_reducible refine gate_callee (f := 44) rfl ?_); refine goesL_ (some 6) rfl rfl Try.func44 (by kernel_rfl) rfl #[.agg #[.int .i64 a0_0, .int .i64 a0_1, .int .i64 a0_2, .int .i64 a0_3, .int .i64 a0_4, .int .i64 a0_5]] rfl Gv.lm ?_; (with_reducible refine (spec_PrefixOk.calls k a0_0 a0_1 a0_2 a0_3 a0_4 a0_5 false _ A6.out).mono ?_); rintro e w16 ⟨rfl, hb⟩; refine ⟨_, rfl, ?_⟩; have n0_ := Gv.a0 (Gv.bb BK261.out hb); have n1_ := Gv.a0 (Gv.bb BK262.out hb); have n2_ := Gv.a0 (below_step Gv.bw hb); clear BK261; clear BK262; clear HB; have BK261 := n0_; have BK262 := n1_; have HB := n2_; clear n0_ n1_ n2_; (try clear hb); (try clear hb2); (try clear hk); (try clear hi)))
   go_meet
   case rel => exact ⟨_, (true), Gv.rq, H', ⟨by first | omega | exact Nat.le_refl _⟩, ⟨by (with_reducible repeat (first | refine blk_drewN ?_ _ | refine blk_drew ?_ | refine blk_alloc ?_ _)); exact BK261.out⟩, ⟨by (with_reducible repeat (first | refine blk_drewN ?_ _ | refine blk_drew ?_ | refine blk_alloc ?_ _)); exact BK262.out⟩, ⟨Gv.bw⟩⟩
 case rest =>
  clear HC3
  try clear c1
  try clear p2
  try clear c4
  try clear c5
  try clear c7
  try clear c9
  try clear c14
  try clear hcz10_0 hcz10_1 hcz10_2 hcz10_3 hcz10_4 hcz10_5
  try clear hcz12_0 hcz12_1 hcz12_2 hcz12_3 hcz12_4
  try clear hcz15_0 hcz15_1 hcz15_2 hcz15_3 hcz15_4 hcz15_5
  try clear hfz10_0 hfz10_1 hfz10_2 hfz10_3 hfz10_4 hfz10_5
  try clear hfz12_0 hfz12_1 hfz12_2 hfz12_3 hfz12_4
  try clear hfz15_0 hfz15_1 hfz15_2 hfz15_3 hfz15_4 hfz15_5
  obtain ⟨kq, x12_2, rfl, HA, HJ2, BK261, BK262, HB⟩ := hcut
  cases kq with
  | zero => exact absurd HA.out (by simp [spec_PrefixHas.j0])
  | succ kj2 =>
   have H := HA.out
   clear HA
   simp only [spec_PrefixHas.j0] at H
   by_cases c17 : x12_2 = true
   ·subst c17
    have H1 : (some false) = some r := by rw [if_pos rfl] at H; exact H
    clear H
    have H := H1
    clear H1
    obtain rfl := Option.some.inj H
    go_wp2
    go_ret
    exact ⟨Gv.rt, Gv.bw⟩
   ·replace c17 := Bool.eq_false_iff.mpr c17
    subst c17
    have H1 : ((spec_l03Any.f a0_0 a0_1 a0_2 a0_3 a0_4 a0_5).bind fun t265 => (if t265 = true then (some true) else (if a0_0 = a1_0 then ((spec_Cut.f kj2 a1_0 a1_1 a1_2 a1_3 a1_4 a0_5).bind fun bt266 => (some (bt266.1 == a0_0 && (bt266.2.1 == a0_1 && (bt266.2.2.1 == a0_2 && (bt266.2.2.2.1 == a0_3 && (bt266.2.2.2.2 == a0_4))))))) else (some false)))) = some r := by rw [if_neg (show ¬ (false = true) by decide)] at H; exact H
    clear H
    have H := H1
    clear H1
    replace H := Option.bind_eq_some_iff.mp H
    obtain ⟨t265, A180, H⟩ := H
    replace H : (if t265 = true then (some true) else (if a0_0 = a1_0 then ((spec_Cut.f kj2 a1_0 a1_1 a1_2 a1_3 a1_4 a0_5).bind fun bt266 => (some (bt266.1 == a0_0 && (bt266.2.1 == a0_1 && (bt266.2.2.1 == a0_2 && (bt266.2.2.2.1 == a0_3 && (bt266.2.2.2.2 == a0_4))))))) else (some false))) = some r := H
    have A18 := Gv.a0 A180
    clear A180
    by_cases c19 : t265 = true
    ·subst c19
     have H1 : (some true) = some r := by rw [if_pos rfl] at H; exact H
     clear H
     have H := H1
     clear H1
     obtain rfl := Option.some.inj H
     try go_wp2
     have n0_ := Gv.a0 (blk_drew BK261.out)
     have n1_ := Gv.a0 (blk_drew BK262.out)
     have n2_ := Gv.a0 (below_drew1 HB.out)
     clear BK261
     clear BK262
     clear HB
     have BK261 := n0_
     have BK262 := n1_
     have HB := n2_
     clear n0_ n1_ n2_
     refine start_ (n := 20) (S := fun w' => w'.cell? ⟨gb261, 0, none⟩ = some (.int .i64 a0_0) ∧ w'.cell? ⟨gb261, 1, none⟩ = some (.int .i64 a0_1) ∧ w'.cell? ⟨gb261, 2, none⟩ = some (.int .i64 a0_2) ∧ w'.cell? ⟨gb261, 3, none⟩ = some (.int .i64 a0_3) ∧ w'.cell? ⟨gb261, 4, none⟩ = some (.int .i64 a0_4) ∧ w'.cell? ⟨gb261, 5, none⟩ = some (.int .i64 a0_5)) (ds := []) #[false, false, false, false, false, false, false, false, false, false, false, false, false, false, false, false, false, false, false, false] (by kernel_rfl) rfl rfl ⟨(blk_cell BK261.out 0).trans rfl, (blk_cell BK261.out 1).trans rfl, (blk_cell BK261.out 2).trans rfl, (blk_cell BK261.out 3).trans rfl, (blk_cell BK261.out 4).trans rfl, (blk_cell BK261.out 5).trans rfl⟩ (fun hHeld => ?_); refine with_tabW spec_PrefixHas.tab3 spec_PrefixHas.bits3 (fun HT_ HW_ => ?_)
     generalize wc.drew = w20 at BK261 BK262 HB hHeld ⊢
     refine take_ (i := 0) (N := some 13) (v := ?_) (a' := ?_) #[true, false, false, false, false, false, false, false, false, false, false, false, false, false, false, false, false, false, false, false] rfl rfl (take_ofW HT_.out HW_.out (by kernel_rfl)) (fun _ _ _ h => h) (Or.inl ⟨by rfl, ?_⟩) hHeld ?_ ?_
     rotate_left
     ·rintro w' ⟨s0, s1, s2, s3, s4, s5⟩
      go_simp
      with_reducible rfl
     rotate_left
     ·simp only [Act.put, List.setIfInBounds_toArray, List.set_cons_zero, List.set_cons_succ, i64_w, i32_w]
      rfl
     refine one_ (i := 1) (N := some 14) #[true, true, false, false, false, false, false, false, false, false, false, false, false, false, false, false, false, false, false, false] rfl rfl (one_of HT_.out (by kernel_rfl)) (by decide) (fun K hK => ?_)
     refine goes_ Try.func60 (by kernel_rfl) rfl #[.agg #[.int .i64 a0_0, .int .i64 a0_1, .int .i64 a0_2, .int .i64 a0_3, .int .i64 a0_4, .int .i64 a0_5]] (by rfl) rfl rfl Gv.lm ?_
     with_reducible refine (spec_l03Any.calls a0_0 a0_1 a0_2 a0_3 a0_4 a0_5 true _ A18.out).mono ?_
     rintro e w21 ⟨rfl, hb⟩
     refine ⟨_, rfl, ?_⟩
     have n0_ := Gv.a0 (Gv.bb BK261.out hb)
     have n1_ := Gv.a0 (Gv.bb BK262.out hb)
     have n2_ := Gv.a0 (below_step Gv.bw hb)
     clear BK261
     clear BK262
     clear HB
     have BK261 := n0_
     have BK262 := n1_
     have HB := n2_
     clear n0_ n1_ n2_
     (try clear hb)
     (try clear hb2)
     (try clear hk)
     (try clear hi)
     refine hK.out _ _ ⟨(blk_cell BK261.out 0).trans rfl, (blk_cell BK261.out 1).trans rfl, (blk_cell BK261.out 2).trans rfl, (blk_cell BK261.out 3).trans rfl, (blk_cell BK261.out 4).trans rfl, (blk_cell BK261.out 5).trans rfl⟩ (fun hHeld => ?_)
     clear hK K
     refine norm_ (a' := ?_) ?_ ?_
     rotate_left
     ·show Act.put _ (some 14) _ = _
      simp only [Act.put, List.setIfInBounds_toArray, List.set_cons_zero, List.set_cons_succ, i64_w, i32_w]
      rfl
     refine Gv.pu 2 (some 15) HT_ ?_
     refine Gv.pn 3 (some 16) HT_ ?_
     refine Gv.pn 4 (some 17) HT_ ?_
     refine Gv.pn 5 (some 18) HT_ ?_
     refine Gv.pn 6 (some 19) HT_ ?_
     refine Gv.pn 7 (some 20) HT_ ?_
     refine Gv.pn 8 (some 21) HT_ ?_
     refine Gv.pn 9 (some 22) HT_ ?_
     refine Gv.pn 10 (some 23) HT_ ?_
     refine Gv.pn 11 (some 24) HT_ ?_
     refine Gv.pn 12 (some 25) HT_ ?_
     refine Gv.pn 13 (some 26) HT_ ?_
     refine Gv.pn 14 (some 27) HT_ ?_
     refine Gv.pn 15 (some 28) HT_ ?_
     refine Gv.pn 16 (some 29) HT_ ?_
     refine Gv.pn 17 (some 30) HT_ ?_
     refine Gv.pu 18 (some 31) HT_ ?_
     refine Gv.pu 19 (some 4) HT_ ?_
     refine done_ (done_of HT_.out (by kernel_rfl)) ?_
     try go_wp2
     go_ret
     exact ⟨Gv.rt, Gv.bw⟩
    ·replace c19 := Bool.eq_false_iff.mpr c19
     subst c19
     have H1 : (if a0_0 = a1_0 then ((spec_Cut.f kj2 a1_0 a1_1 a1_2 a1_3 a1_4 a0_5).bind fun bt266 => (some (bt266.1 == a0_0 && (bt266.2.1 == a0_1 && (bt266.2.2.1 == a0_2 && (bt266.2.2.2.1 == a0_3 && (bt266.2.2.2.2 == a0_4))))))) else (some false)) = some r := by rw [if_neg (show ¬ (false = true) by decide)] at H; exact H
     clear H
     have H := H1
     clear H1
     by_cases c22 : a0_0 = a1_0
     ·rw [if_pos c22] at H
      have c22b0 : (a0_0 == a1_0) = true := beq_iff_eq.mpr c22
      have c22b1 : (a0_0 != a1_0) = false := bne_eq_false_iff_eq.mpr c22
      clear c22
      replace H := Option.bind_eq_some_iff.mp H
      obtain ⟨⟨t266, t267, t268, t269, t270⟩, A230, H⟩ := H
      replace H : (some (t266 == a0_0 && (t267 == a0_1 && (t268 == a0_2 && (t269 == a0_3 && (t270 == a0_4)))))) = some r := H
      have A23 := Gv.a0 A230
      clear A230
      obtain rfl := Option.some.inj H
      try go_wp2
      have n0_ := Gv.a0 (blk_drew BK261.out)
      have n1_ := Gv.a0 (blk_drew BK262.out)
      have n2_ := Gv.a0 (below_drew1 HB.out)
      clear BK261
      clear BK262
      clear HB
      have BK261 := n0_
      have BK262 := n1_
      have HB := n2_
      clear n0_ n1_ n2_
      refine start_ (n := 20) (S := fun w' => w'.cell? ⟨gb261, 0, none⟩ = some (.int .i64 a0_0) ∧ w'.cell? ⟨gb261, 1, none⟩ = some (.int .i64 a0_1) ∧ w'.cell? ⟨gb261, 2, none⟩ = some (.int .i64 a0_2) ∧ w'.cell? ⟨gb261, 3, none⟩ = some (.int .i64 a0_3) ∧ w'.cell? ⟨gb261, 4, none⟩ = some (.int .i64 a0_4) ∧ w'.cell? ⟨gb261, 5, none⟩ = some (.int .i64 a0_5) ∧ w'.cell? ⟨gb262, 0, none⟩ = some (.int .i64 a1_0) ∧ w'.cell? ⟨gb262, 1, none⟩ = some (.int .i64 a1_1) ∧ w'.cell? ⟨gb262, 2, none⟩ = some (.int .i64 a1_2) ∧ w'.cell? ⟨gb262, 3, none⟩ = some (.int .i64 a1_3) ∧ w'.cell? ⟨gb262, 4, none⟩ = some (.int .i64 a1_4)) (ds := []) #[false, false, false, false, false, false, false, false, false, false, false, false, false, false, false, false, false, false, false, false] (by kernel_rfl) rfl rfl ⟨(blk_cell BK261.out 0).trans rfl, (blk_cell BK261.out 1).trans rfl, (blk_cell BK261.out 2).trans rfl, (blk_cell BK261.out 3).trans rfl, (blk_cell BK261.out 4).trans rfl, (blk_cell BK261.out 5).trans rfl, (blk_cell BK262.out 0).trans rfl, (blk_cell BK262.out 1).trans rfl, (blk_cell BK262.out 2).trans rfl, (blk_cell BK262.out 3).trans rfl, (blk_cell BK262.out 4).trans rfl⟩ (fun hHeld => ?_); refine with_tabW spec_PrefixHas.tab3 spec_PrefixHas.bits3 (fun HT_ HW_ => ?_)
      generalize wc.drew = w24 at BK261 BK262 HB hHeld ⊢
      refine take_ (i := 0) (N := some 13) (v := ?_) (a' := ?_) #[true, false, false, false, false, false, false, false, false, false, false, false, false, false, false, false, false, false, false, false] rfl rfl (take_ofW HT_.out HW_.out (by kernel_rfl)) (fun _ _ _ h => h) (Or.inl ⟨by rfl, ?_⟩) hHeld ?_ ?_
      rotate_left
      ·rintro w' ⟨s0, s1, s2, s3, s4, s5, s6, s7, s8, s9, s10⟩
       go_simp
       with_reducible rfl
      rotate_left
      ·simp only [Act.put, List.setIfInBounds_toArray, List.set_cons_zero, List.set_cons_succ, i64_w, i32_w]
       rfl
      refine one_ (i := 1) (N := some 14) #[true, true, false, false, false, false, false, false, false, false, false, false, false, false, false, false, false, false, false, false] rfl rfl (one_of HT_.out (by kernel_rfl)) (by decide) (fun K hK => ?_)
      refine goes_ Try.func60 (by kernel_rfl) rfl #[.agg #[.int .i64 a0_0, .int .i64 a0_1, .int .i64 a0_2, .int .i64 a0_3, .int .i64 a0_4, .int .i64 a0_5]] (by rfl) rfl rfl Gv.lm ?_
      with_reducible refine (spec_l03Any.calls a0_0 a0_1 a0_2 a0_3 a0_4 a0_5 false _ A18.out).mono ?_
      rintro e w25 ⟨rfl, hb⟩
      refine ⟨_, rfl, ?_⟩
      have n0_ := Gv.a0 (Gv.bb BK261.out hb)
      have n1_ := Gv.a0 (Gv.bb BK262.out hb)
      have n2_ := Gv.a0 (below_step Gv.bw hb)
      clear BK261
      clear BK262
      clear HB
      have BK261 := n0_
      have BK262 := n1_
      have HB := n2_
      clear n0_ n1_ n2_
      (try clear hb)
      (try clear hb2)
      (try clear hk)
      (try clear hi)
      refine hK.out _ _ ⟨(blk_cell BK261.out 0).trans rfl, (blk_cell BK261.out 1).trans rfl, (blk_cell BK261.out 2).trans rfl, (blk_cell BK261.out 3).trans rfl, (blk_cell BK261.out 4).trans rfl, (blk_cell BK261.out 5).trans rfl, (blk_cell BK262.out 0).trans rfl, (blk_cell BK262.out 1).trans rfl, (blk_cell BK262.out 2).trans rfl, (blk_cell BK262.out 3).trans rfl, (blk_cell BK262.out 4).trans rfl⟩ (fun hHeld => ?_)
      clear hK K
      refine norm_ (a' := ?_) ?_ ?_
      rotate_left
      ·show Act.put _ (some 14) _ = _
       simp only [Act.put, List.setIfInBounds_toArray, List.set_cons_zero, List.set_cons_succ, i64_w, i32_w]
       rfl
      refine Gv.pu 2 (some 15) HT_ ?_
      refine Gv.pu 3 (some 16) HT_ ?_
      refine Gv.pu 4 (some 17) HT_ ?_
      refine Gv.pu 6 (some 19) HT_ ?_
      refine take_ (i := 5) (N := some 18) (v := ?_) (a' := ?_) #[true, true, true, true, true, true, true, false, false, false, false, false, false, false, false, false, false, false, false, false] rfl rfl (take_ofW HT_.out HW_.out (by kernel_rfl)) (fun _ _ _ h => h) (Or.inl ⟨by rfl, ?_⟩) hHeld ?_ ?_
      rotate_left
      ·rintro w' ⟨s0, s1, s2, s3, s4, s5, s6, s7, s8, s9, s10⟩
       go_simp
       with_reducible rfl
      rotate_left
      ·simp only [Act.put, List.setIfInBounds_toArray, List.set_cons_zero, List.set_cons_succ, i64_w, i32_w]
       rfl
      refine take_ (i := 7) (N := some 20) (v := ?_) (a' := ?_) #[true, true, true, true, true, true, true, true, false, false, false, false, false, false, false, false, false, false, false, false] rfl rfl (take_ofW HT_.out HW_.out (by kernel_rfl)) (fun _ _ _ h => h) (Or.inl ⟨by rfl, ?_⟩) hHeld ?_ ?_
      rotate_left
      ·rintro w' ⟨s0, s1, s2, s3, s4, s5, s6, s7, s8, s9, s10⟩
       go_simp
       with_reducible rfl
      rotate_left
      ·simp only [Act.put, List.setIfInBounds_toArray, List.set_cons_zero, List.set_cons_succ, i64_w, i32_w]
       rfl
      refine Gv.pu 8 (some 21) HT_ ?_
      refine Gv.pu 9 (some 22) HT_ ?_
      refine Gv.pu 11 (some 24) HT_ ?_
      refine Gv.pu 14 (some 27) HT_ ?_
      refine take_ (i := 10) (N := some 23) (v := ?_) (a' := ?_) #[true, true, true, true, true, true, true, true, true, true, true, true, false, false, true, false, false, false, false, false] rfl rfl (take_ofW HT_.out HW_.out (by kernel_rfl)) (fun _ _ _ h => h) (Or.inl ⟨by rfl, ?_⟩) hHeld ?_ ?_
      rotate_left
      ·rintro w' ⟨s0, s1, s2, s3, s4, s5, s6, s7, s8, s9, s10⟩
       go_simp
       with_reducible rfl
      rotate_left
      ·simp only [Act.put, List.setIfInBounds_toArray, List.set_cons_zero, List.set_cons_succ, i64_w, i32_w]
       rfl
      refine take_ (i := 12) (N := some 25) (v := ?_) (a' := ?_) #[true, true, true, true, true, true, true, true, true, true, true, true, true, false, true, false, false, false, false, false] rfl rfl (take_ofW HT_.out HW_.out (by kernel_rfl)) (fun _ _ _ h => h) (Or.inl ⟨by rfl, ?_⟩) hHeld ?_ ?_
      rotate_left
      ·rintro w' ⟨s0, s1, s2, s3, s4, s5, s6, s7, s8, s9, s10⟩
       go_simp
       with_reducible rfl
      rotate_left
      ·simp only [Act.put, List.setIfInBounds_toArray, List.set_cons_zero, List.set_cons_succ, i64_w, i32_w]
       rfl
      refine take_ (i := 15) (N := some 28) (v := ?_) (a' := ?_) #[true, true, true, true, true, true, true, true, true, true, true, true, true, false, true, true, false, false, false, false] rfl rfl (take_ofW HT_.out HW_.out (by kernel_rfl)) (fun _ _ _ h => h) (Or.inl ⟨by rfl, ?_⟩) hHeld ?_ ?_
      rotate_left
      ·rintro w' ⟨s0, s1, s2, s3, s4, s5, s6, s7, s8, s9, s10⟩
       go_simp
       with_reducible rfl
      rotate_left
      ·simp only [Act.put, List.setIfInBounds_toArray, List.set_cons_zero, List.set_cons_succ, i64_w, i32_w]
       rfl
      refine one_ (i := 13) (N := some 26) #[true, true, true, true, true, true, true, true, true, true, true, true, true, true, true, true, false, false, false, false] rfl rfl (one_of HT_.out (by kernel_rfl)) (by decide) (fun K hK => ?_)
      refine goes_ Try.func63 (by kernel_rfl) rfl #[.agg #[.int .i64 a1_0, .int .i64 a1_1, .int .i64 a1_2, .int .i64 a1_3, .int .i64 a1_4], .int .i64 a0_5] (by rfl) rfl rfl Gv.lm ?_
      with_reducible refine (spec_Cut.calls kj2 a1_0 a1_1 a1_2 a1_3 a1_4 a0_5 t266 t267 t268 t269 t270 _ A23.out).mono ?_
      rintro e w26 ⟨rfl, hb⟩
      refine ⟨_, rfl, ?_⟩
      have n0_ := Gv.a0 (Gv.bb BK261.out hb)
      have n1_ := Gv.a0 (Gv.bb BK262.out hb)
      have n2_ := Gv.a0 (below_step Gv.bw hb)
      clear BK261
      clear BK262
      clear HB
      have BK261 := n0_
      have BK262 := n1_
      have HB := n2_
      clear n0_ n1_ n2_
      (try clear hb)
      (try clear hb2)
      (try clear hk)
      (try clear hi)
      refine hK.out _ _ ⟨(blk_cell BK261.out 0).trans rfl, (blk_cell BK261.out 1).trans rfl, (blk_cell BK261.out 2).trans rfl, (blk_cell BK261.out 3).trans rfl, (blk_cell BK261.out 4).trans rfl, (blk_cell BK261.out 5).trans rfl, (blk_cell BK262.out 0).trans rfl, (blk_cell BK262.out 1).trans rfl, (blk_cell BK262.out 2).trans rfl, (blk_cell BK262.out 3).trans rfl, (blk_cell BK262.out 4).trans rfl⟩ (fun hHeld => ?_)
      clear hK K
      refine norm_ (a' := ?_) ?_ ?_
      rotate_left
      ·show Act.put _ (some 26) _ = _
       simp only [Act.put, List.setIfInBounds_toArray, List.set_cons_zero, List.set_cons_succ, i64_w, i32_w]
       rfl
      refine Gv.pu 16 (some 29) HT_ ?_
      refine Gv.pu 17 (some 30) HT_ ?_
      refine Gv.pu 18 (some 31) HT_ ?_
      refine Gv.pu 19 (some 4) HT_ ?_
      refine done_ (done_of HT_.out (by kernel_rfl)) ?_
      try go_wp2
      go_ret
      exact ⟨Gv.rt, Gv.bw⟩
     ·rw [if_neg c22] at H
      have c22b0 : (a0_0 == a1_0) = false := beq_eq_false_iff_ne.mpr c22
      have c22b1 : (a0_0 != a1_0) = true := bne_iff_ne.mpr c22
      obtain rfl := Option.some.inj H
      try go_wp2
      have n0_ := Gv.a0 (blk_drew BK261.out)
      have n1_ := Gv.a0 (blk_drew BK262.out)
      have n2_ := Gv.a0 (below_drew1 HB.out)
      clear BK261
      clear BK262
      clear HB
      have BK261 := n0_
      have BK262 := n1_
      have HB := n2_
      clear n0_ n1_ n2_
      refine start_ (n := 20) (S := fun w' => w'.cell? ⟨gb261, 0, none⟩ = some (.int .i64 a0_0) ∧ w'.cell? ⟨gb261, 1, none⟩ = some (.int .i64 a0_1) ∧ w'.cell? ⟨gb261, 2, none⟩ = some (.int .i64 a0_2) ∧ w'.cell? ⟨gb261, 3, none⟩ = some (.int .i64 a0_3) ∧ w'.cell? ⟨gb261, 4, none⟩ = some (.int .i64 a0_4) ∧ w'.cell? ⟨gb261, 5, none⟩ = some (.int .i64 a0_5) ∧ w'.cell? ⟨gb262, 0, none⟩ = some (.int .i64 a1_0) ∧ w'.cell? ⟨gb262, 1, none⟩ = some (.int .i64 a1_1) ∧ w'.cell? ⟨gb262, 2, none⟩ = some (.int .i64 a1_2) ∧ w'.cell? ⟨gb262, 3, none⟩ = some (.int .i64 a1_3) ∧ w'.cell? ⟨gb262, 4, none⟩ = some (.int .i64 a1_4)) (ds := []) #[false, false, false, false, false, false, false, false, false, false, false, false, false, false, false, false, false, false, false, false] (by kernel_rfl) rfl rfl ⟨(blk_cell BK261.out 0).trans rfl, (blk_cell BK261.out 1).trans rfl, (blk_cell BK261.out 2).trans rfl, (blk_cell BK261.out 3).trans rfl, (blk_cell BK261.out 4).trans rfl, (blk_cell BK261.out 5).trans rfl, (blk_cell BK262.out 0).trans rfl, (blk_cell BK262.out 1).trans rfl, (blk_cell BK262.out 2).trans rfl, (blk_cell BK262.out 3).trans rfl, (blk_cell BK262.out 4).trans rfl⟩ (fun hHeld => ?_); refine with_tabW spec_PrefixHas.tab3 spec_PrefixHas.bits3 (fun HT_ HW_ => ?_)
      generalize wc.drew = w27 at BK261 BK262 HB hHeld ⊢
      refine take_ (i := 0) (N := some 13) (v := ?_) (a' := ?_) #[true, false, false, false, false, false, false, false, false, false, false, false, false, false, false, false, false, false, false, false] rfl rfl (take_ofW HT_.out HW_.out (by kernel_rfl)) (fun _ _ _ h => h) (Or.inl ⟨by rfl, ?_⟩) hHeld ?_ ?_
      rotate_left
      ·rintro w' ⟨s0, s1, s2, s3, s4, s5, s6, s7, s8, s9, s10⟩
       go_simp
       with_reducible rfl
      rotate_left
      ·simp only [Act.put, List.setIfInBounds_toArray, List.set_cons_zero, List.set_cons_succ, i64_w, i32_w]
       rfl
      refine one_ (i := 1) (N := some 14) #[true, true, false, false, false, false, false, false, false, false, false, false, false, false, false, false, false, false, false, false] rfl rfl (one_of HT_.out (by kernel_rfl)) (by decide) (fun K hK => ?_)
      refine goes_ Try.func60 (by kernel_rfl) rfl #[.agg #[.int .i64 a0_0, .int .i64 a0_1, .int .i64 a0_2, .int .i64 a0_3, .int .i64 a0_4, .int .i64 a0_5]] (by rfl) rfl rfl Gv.lm ?_
      with_reducible refine (spec_l03Any.calls a0_0 a0_1 a0_2 a0_3 a0_4 a0_5 false _ A18.out).mono ?_
      rintro e w28 ⟨rfl, hb⟩
      refine ⟨_, rfl, ?_⟩
      have n0_ := Gv.a0 (Gv.bb BK261.out hb)
      have n1_ := Gv.a0 (Gv.bb BK262.out hb)
      have n2_ := Gv.a0 (below_step Gv.bw hb)
      clear BK261
      clear BK262
      clear HB
      have BK261 := n0_
      have BK262 := n1_
      have HB := n2_
      clear n0_ n1_ n2_
      (try clear hb)
      (try clear hb2)
      (try clear hk)
      (try clear hi)
      refine hK.out _ _ ⟨(blk_cell BK261.out 0).trans rfl, (blk_cell BK261.out 1).trans rfl, (blk_cell BK261.out 2).trans rfl, (blk_cell BK261.out 3).trans rfl, (blk_cell BK261.out 4).trans rfl, (blk_cell BK261.out 5).trans rfl, (blk_cell BK262.out 0).trans rfl, (blk_cell BK262.out 1).trans rfl, (blk_cell BK262.out 2).trans rfl, (blk_cell BK262.out 3).trans rfl, (blk_cell BK262.out 4).trans rfl⟩ (fun hHeld => ?_)
      clear hK K
      refine norm_ (a' := ?_) ?_ ?_
      rotate_left
      ·show Act.put _ (some 14) _ = _
       simp only [Act.put, List.setIfInBounds_toArray, List.set_cons_zero, List.set_cons_succ, i64_w, i32_w]
       rfl
      refine Gv.pu 2 (some 15) HT_ ?_
      refine Gv.pu 3 (some 16) HT_ ?_
      refine Gv.pu 4 (some 17) HT_ ?_
      refine Gv.pu 6 (some 19) HT_ ?_
      refine take_ (i := 5) (N := some 18) (v := ?_) (a' := ?_) #[true, true, true, true, true, true, true, false, false, false, false, false, false, false, false, false, false, false, false, false] rfl rfl (take_ofW HT_.out HW_.out (by kernel_rfl)) (fun _ _ _ h => h) (Or.inl ⟨by rfl, ?_⟩) hHeld ?_ ?_
      rotate_left
      ·rintro w' ⟨s0, s1, s2, s3, s4, s5, s6, s7, s8, s9, s10⟩
       go_simp
       with_reducible rfl
      rotate_left
      ·simp only [Act.put, List.setIfInBounds_toArray, List.set_cons_zero, List.set_cons_succ, i64_w, i32_w]
       rfl
      refine take_ (i := 7) (N := some 20) (v := ?_) (a' := ?_) #[true, true, true, true, true, true, true, true, false, false, false, false, false, false, false, false, false, false, false, false] rfl rfl (take_ofW HT_.out HW_.out (by kernel_rfl)) (fun _ _ _ h => h) (Or.inl ⟨by rfl, ?_⟩) hHeld ?_ ?_
      rotate_left
      ·rintro w' ⟨s0, s1, s2, s3, s4, s5, s6, s7, s8, s9, s10⟩
       go_simp
       with_reducible rfl
      rotate_left
      ·simp only [Act.put, List.setIfInBounds_toArray, List.set_cons_zero, List.set_cons_succ, i64_w, i32_w]
       rfl
      refine Gv.pu 8 (some 21) HT_ ?_
      refine Gv.pu 9 (some 22) HT_ ?_
      refine Gv.pn 10 (some 23) HT_ ?_
      refine Gv.pn 11 (some 24) HT_ ?_
      refine Gv.pn 12 (some 25) HT_ ?_
      refine Gv.pn 13 (some 26) HT_ ?_
      refine Gv.pn 14 (some 27) HT_ ?_
      refine Gv.pn 15 (some 28) HT_ ?_
      refine Gv.pn 16 (some 29) HT_ ?_
      refine Gv.pu 17 (some 30) HT_ ?_
      refine Gv.pu 18 (some 31) HT_ ?_
      refine Gv.pu 19 (some 4) HT_ ?_
      refine done_ (done_of HT_.out (by kernel_rfl)) ?_
      try go_wp2
      go_ret
      exact ⟨Gv.rt, Gv.bw⟩

/-! ### spec_PrefixIn: function 56 -/
def spec_PrefixIn.j0 : Nat → Bool → Int → Int → Int → Int → Int → Int → Int → Int → Int → Int → Int → Int → Option (Bool)
 | 0, _, _, _, _, _, _, _, _, _, _, _, _, _ => none
 | k + 1, x12, x272000, x272001, x272002, x272003, x272004, x272005, x273000, x273001, x273002, x273003, x273004, x273005 => if x12 = true then (some false) else ((spec_l03Any.f x273000 x273001 x273002 x273003 x273004 x273005).bind fun t275 => (if t275 = true then (some true) else ((spec_l03Any.f x272000 x272001 x272002 x272003 x272004 x272005).bind fun t276 => (if t276 = true then (some false) else (if x272000 = x273000 then (if x272005 ≥ x273005 then ((spec_PrefixHas.f k x273000 x273001 x273002 x273003 x273004 x273005 x272000 x272001 x272002 x272003 x272004).bind fun t277 => (some t277)) else (some false)) else (some false))))))
def spec_PrefixIn.f (k : Nat) (a0_0 : Int) (a0_1 : Int) (a0_2 : Int) (a0_3 : Int) (a0_4 : Int) (a0_5 : Int) (a1_0 : Int) (a1_1 : Int) (a1_2 : Int) (a1_3 : Int) (a1_4 : Int) (a1_5 : Int) : Option (Bool) := (spec_PrefixOk.f k a0_0 a0_1 a0_2 a0_3 a0_4 a0_5).bind fun t273 => (if t273 = true then ((spec_PrefixOk.f k a1_0 a1_1 a1_2 a1_3 a1_4 a1_5).bind fun t274 => (spec_PrefixIn.j0 k (!t274) a0_0 a0_1 a0_2 a0_3 a0_4 a0_5 a1_0 a1_1 a1_2 a1_3 a1_4 a1_5)) else (spec_PrefixIn.j0 k true a0_0 a0_1 a0_2 a0_3 a0_4 a0_5 a1_0 a1_1 a1_2 a1_3 a1_4 a1_5))
theorem spec_PrefixIn.mono_l : ∀ k, (∀ y0 y1 y2 y3 y4 y5 y6 y7 y8 y9 y10 y11 y12, LeO (spec_PrefixIn.j0 k y0 y1 y2 y3 y4 y5 y6 y7 y8 y9 y10 y11 y12) (spec_PrefixIn.j0 (k + 1) y0 y1 y2 y3 y4 y5 y6 y7 y8 y9 y10 y11 y12))
 | 0 => fun _ _ _ _ _ _ _ _ _ _ _ _ _ r h => by simp [spec_PrefixIn.j0] at h
 | k + 1 => by
  have ih0 := spec_PrefixIn.mono_l k
  ·intro y0 y1 y2 y3 y4 y5 y6 y7 y8 y9 y10 y11 y12
   unfold spec_PrefixIn.j0
   repeat' first
   | (with_reducible exact ih0 _ _ _ _ _ _ _ _ _ _ _ _ _)
   | (with_reducible exact spec_PrefixHas.mono _ _ _ _ _ _ _ _ _ _ _ _)
   | (with_reducible exact spec_PrefixOk.mono _ _ _ _ _ _ _)
   | (with_reducible exact LeO.refl _)
   | (with_reducible exact LeO.none _)
   | (with_reducible refine LeO.ite ?_ ?_)
   | (with_reducible refine LeO.bind ?_ (fun _ => ?_))
   | exact ih0 _ _ _ _ _ _ _ _ _ _ _ _ _
   | exact spec_PrefixHas.mono _ _ _ _ _ _ _ _ _ _ _ _
   | exact spec_PrefixOk.mono _ _ _ _ _ _ _
   | exact LeO.none _
   | refine LeO.ite ?_ ?_
   | refine LeO.bind ?_ (fun _ => ?_)
theorem spec_PrefixIn.mono : ∀ a0 a1 a2 a3 a4 a5 a6 a7 a8 a9 a10 a11 k, LeO (spec_PrefixIn.f k a0 a1 a2 a3 a4 a5 a6 a7 a8 a9 a10 a11) (spec_PrefixIn.f (k + 1) a0 a1 a2 a3 a4 a5 a6 a7 a8 a9 a10 a11) := by
 intro a0 a1 a2 a3 a4 a5 a6 a7 a8 a9 a10 a11 k
 have ih0 := spec_PrefixIn.mono_l k
 unfold spec_PrefixIn.f
 repeat' first
   | (with_reducible exact ih0 _ _ _ _ _ _ _ _ _ _ _ _ _)
   | (with_reducible exact spec_PrefixHas.mono _ _ _ _ _ _ _ _ _ _ _ _)
   | (with_reducible exact spec_PrefixOk.mono _ _ _ _ _ _ _)
   | (with_reducible exact LeO.refl _)
   | (with_reducible exact LeO.none _)
   | (with_reducible refine LeO.ite ?_ ?_)
   | (with_reducible refine LeO.bind ?_ (fun _ => ?_))
   | exact ih0 _ _ _ _ _ _ _ _ _ _ _ _ _
   | exact spec_PrefixHas.mono _ _ _ _ _ _ _ _ _ _ _ _
   | exact spec_PrefixOk.mono _ _ _ _ _ _ _
   | exact LeO.none _
   | refine LeO.ite ?_ ?_
   | refine LeO.bind ?_ (fun _ => ?_)
set_option maxHeartbeats 8000000 in
set_option maxRecDepth 100000 in
theorem spec_PrefixIn.calls (k : Nat) (a0_0 : Int) (a0_1 : Int) (a0_2 : Int) (a0_3 : Int) (a0_4 : Int) (a0_5 : Int) (a1_0 : Int) (a1_1 : Int) (a1_2 : Int) (a1_3 : Int) (a1_4 : Int) (a1_5 : Int) (r : Bool) (w : World) (h : spec_PrefixIn.f k a0_0 a0_1 a0_2 a0_3 a0_4 a0_5 a1_0 a1_1 a1_2 a1_3 a1_4 a1_5 = some r) :
  Calls Try.prog 56 #[.agg #[.int .i64 a0_0, .int .i64 a0_1, .int .i64 a0_2, .int .i64 a0_3, .int .i64 a0_4, .int .i64 a0_5], .agg #[.int .i64 a1_0, .int .i64 a1_1, .int .i64 a1_2, .int .i64 a1_3, .int .i64 a1_4, .int .i64 a1_5]] w fun e w' => e = .returned (.bool r) ∧ Below w.heap.size w w' := by
 have hu53 := Try.underlying53
 have hu34 := Try.underlying34
 have HB := Gv.a0 (Below.refl w.heap.size w)
 have H : ((spec_PrefixOk.f k a0_0 a0_1 a0_2 a0_3 a0_4 a0_5).bind fun t273 => (if t273 = true then ((spec_PrefixOk.f k a1_0 a1_1 a1_2 a1_3 a1_4 a1_5).bind fun t274 => (spec_PrefixIn.j0 k (!t274) a0_0 a0_1 a0_2 a0_3 a0_4 a0_5 a1_0 a1_1 a1_2 a1_3 a1_4 a1_5)) else (spec_PrefixIn.j0 k true a0_0 a0_1 a0_2 a0_3 a0_4 a0_5 a1_0 a1_1 a1_2 a1_3 a1_4 a1_5))) = some r := h
 clear h
 have HC3 := Gv.a0 H
 clear H
 go_enter Try.func56, Try.ntmps56
 go_upto_region 1 with (first | ((with_reducible refine gate_dst (N := 2) rfl ?_); refine box_event ?hg (N := 2) ?hd (cs := #[.int .i64 a0_0, .int .i64 a0_1, .int .i64 a0_2, .int .i64 a0_3, .int .i64 a0_4, .int .i64 a0_5]) (t := 53) ?hr ?_; (case hd => rfl); (case hg => rfl); (case hr => first | (go_simp; done) | (go_simp; rfl)); intro gb271 hg w4 hbox hb; have n0_ := Gv.a0 (below_step Gv.bw hb); have n1_ := Gv.a0 (hbox); have n2_ := Gv.a0 ((Gv.ble hg Gv.bw : w.heap.size ≤ gb271)); have n3_ := Gv.a0 ((Gv.ble hg Gv.bw : w.heap.size ≤ gb271)); clear HB; have HB := n0_; have BK271 := n1_; have GW271 := n2_; have GE271 := n3_; clear n0_ n1_ n2_ n3_; clear hb hbox hg) | ((with_reducible refine gate_dst (N := 3) rfl ?_); refine box_event ?hg (N := 3) ?hd (cs := #[.int .i64 a1_0, .int .i64 a1_1, .int .i64 a1_2, .int .i64 a1_3, .int .i64 a1_4, .int .i64 a1_5]) (t := 53) ?hr ?_; (case hd => rfl); (case hg => rfl); (case hr => first | (go_simp; done) | (go_simp; rfl)); intro gb272 hg w5 hbox hb; have n0_ := Gv.a0 (Gv.bb BK271.out hb); have n1_ := Gv.a0 (below_step Gv.bw hb); have n2_ := Gv.a0 (hbox); have n3_ := Gv.a0 ((Gv.ble hg Gv.bw : w.heap.size ≤ gb272)); have n4_ := Gv.a0 ((Gv.ble hg Gv.bw : w.heap.size ≤ gb272)); have n5_ := Gv.a0 ((Gv.nlt hg (Gv.kb BK271.out) : gb271 ≠ gb272)); have n6_ := Gv.a0 ((Gv.ngt hg (Gv.kb BK271.out) : gb272 ≠ gb271)); clear BK271; clear HB; have BK271 := n0_; have HB := n1_; have BK272 := n2_; have GW272 := n3_; have GE272 := n4_; have NB271_272 := n5_; have NB272_271 := n6_; clear n0_ n1_ n2_ n3_ n4_ n5_ n6_; clear hb hbox hg))
 (try simp only [Act.put, List.setIfInBounds_toArray, List.set_cons_zero, List.set_cons_succ])
 go_cut [12] (fun v12 wc => ∃ (kq : Nat) (x12_2 : Bool), v12 = .bool x12_2 ∧ Aside0 (spec_PrefixIn.j0 kq x12_2 a0_0 a0_1 a0_2 a0_3 a0_4 a0_5 a1_0 a1_1 a1_2 a1_3 a1_4 a1_5 = some r) ∧ Aside0 (kq ≤ k) ∧ Aside0 (wc.heap[gb271]? = some (.cells #[.int .i64 a0_0, .int .i64 a0_1, .int .i64 a0_2, .int .i64 a0_3, .int .i64 a0_4, .int .i64 a0_5] 53 (0, 0))) ∧ Aside0 (wc.heap[gb272]? = some (.cells #[.int .i64 a1_0, .int .i64 a1_1, .int .i64 a1_2, .int .i64 a1_3, .int .i64 a1_4, .int .i64 a1_5] 53 (0, 0))) ∧ Aside0 (Below w.heap.size w wc))
 case first =>
  have H := HC3.out
  clear HC3
  replace H := Option.bind_eq_some_iff.mp H
  obtain ⟨t273, A60, H⟩ := H
  replace H : (if t273 = true then ((spec_PrefixOk.f k a1_0 a1_1 a1_2 a1_3 a1_4 a1_5).bind fun t274 => (spec_PrefixIn.j0 k (!t274) a0_0 a0_1 a0_2 a0_3 a0_4 a0_5 a1_0 a1_1 a1_2 a1_3 a1_4 a1_5)) else (spec_PrefixIn.j0 k true a0_0 a0_1 a0_2 a0_3 a0_4 a0_5 a1_0 a1_1 a1_2 a1_3 a1_4 a1_5)) = some r := H
  have A6 := Gv.a0 A60
  clear A60
  by_cases c7 : t273 = true
  ·subst c7
   have H1 : ((spec_PrefixOk.f k a1_0 a1_1 a1_2 a1_3 a1_4 a1_5).bind fun t274 => (spec_PrefixIn.j0 k (!t274) a0_0 a0_1 a0_2 a0_3 a0_4 a0_5 a1_0 a1_1 a1_2 a1_3 a1_4 a1_5)) = some r := by rw [if_pos rfl] at H; exact H
   clear H
   have H := H1
   clear H1
   replace H := Option.bind_eq_some_iff.mp H
   obtain ⟨t274, A80, H⟩ := H
   replace H : (spec_PrefixIn.j0 k (!t274) a0_0 a0_1 a0_2 a0_3 a0_4 a0_5 a1_0 a1_1 a1_2 a1_3 a1_4 a1_5) = some r := H
   have A8 := Gv.a0 A80
   clear A80
   have H' := Gv.a0 H
   clear H
   have hnb9 := NB271_272.out
   have hnc9 := NB272_271.out
   obtain ⟨hcz10_0, hcz10_1, hcz10_2, hcz10_3, hcz10_4, hcz10_5⟩ := Gv.c6 BK271.out
   obtain ⟨hfz10_0, hfz10_1, hfz10_2, hfz10_3, hfz10_4, hfz10_5⟩ := Gv.f6 BK271.out
   go_wp2_with (first | ((with_reducible refine gate_callee (f := 44) rfl ?_); refine goesL_ (some 6) rfl rfl Try.func44 (by kernel_rfl) rfl #[.agg #[.int .i64 a0_0, .int .i64 a0_1, .int .i64 a0_2, .int .i64 a0_3, .int .i64 a0_4, .int .i64 a0_5]] rfl Gv.lm ?_; (with_reducible refine (spec_PrefixOk.calls k a0_0 a0_1 a0_2 a0_3 a0_4 a0_5 true _ A6.out).mono ?_); rintro e w11 ⟨rfl, hb⟩; refine ⟨_, rfl, ?_⟩; have n0_ := Gv.a0 (Gv.bb BK271.out hb); have n1_ := Gv.a0 (Gv.bb BK272.out hb); have n2_ := Gv.a0 (below_step Gv.bw hb); clear BK271; clear BK272; clear HB; have BK271 := n0_; have BK272 := n1_; have HB := n2_; clear n0_ n1_ n2_; (try clear hb); (try clear hb2); (try clear hk); (try clear hi); obtain ⟨hcz12_0, hcz12_1, hcz12_2, hcz12_3, hcz12_4, hcz12_5⟩ := Gv.c6 BK272.out; obtain ⟨hfz12_0, hfz12_1, hfz12_2, hfz12_3, hfz12_4, hfz12_5⟩ := Gv.f6 BK272.out) | (go_at_call 44; (with_reducible refine (spec_PrefixOk.calls k a1_0 a1_1 a1_2 a1_3 a1_4 a1_5 t274 _ A8.out).mono ?_); rintro e w13 ⟨rfl, hb⟩; have n0_ := Gv.a0 (Gv.bb BK271.out hb); have n1_ := Gv.a0 (Gv.bb BK272.out hb); have n2_ := Gv.a0 (below_step Gv.bw hb); clear BK271; clear BK272; clear HB; have BK271 := n0_; have BK272 := n1_; have HB := n2_; clear n0_ n1_ n2_; (try clear hb); (try clear hb2); (try clear hk); (try clear hi)))
   go_meet
   case rel => exact ⟨_, (!t274), Gv.rq, H', ⟨by first | omega | exact Nat.le_refl _⟩, ⟨by (with_reducible repeat (first | refine blk_drewN ?_ _ | refine blk_drew ?_ | refine blk_alloc ?_ _)); exact BK271.out⟩, ⟨by (with_reducible repeat (first | refine blk_drewN ?_ _ | refine blk_drew ?_ | refine blk_alloc ?_ _)); exact BK272.out⟩, ⟨Gv.bw⟩⟩
  ·replace c7 := Bool.eq_false_iff.mpr c7
   subst c7
   have H1 : (spec_PrefixIn.j0 k true a0_0 a0_1 a0_2 a0_3 a0_4 a0_5 a1_0 a1_1 a1_2 a1_3 a1_4 a1_5) = some r := by rw [if_neg (show ¬ (false = true) by decide)] at H; exact H
   clear H
   have H := H1
   clear H1
   have H' := Gv.a0 H
   clear H
   have hnb14 := NB271_272.out
   have hnc14 := NB272_271.out
   obtain ⟨hcz15_0, hcz15_1, hcz15_2, hcz15_3, hcz15_4, hcz15_5⟩ := Gv.c6 BK271.out
   obtain ⟨hfz15_0, hfz15_1, hfz15_2, hfz15_3, hfz15_4, hfz15_5⟩ := Gv.f6 BK271.out
   go_wp2_with (first | ((with_reducible refine gate_callee (f := 44) rfl ?_); refine goesL_ (some 6) rfl rfl Try.func44 (by kernel_rfl) rfl #[.agg #[.int .i64 a0_0, .int .i64 a0_1, .int .i64 a0_2, .int .i64 a0_3, .int .i64 a0_4, .int .i64 a0_5]] rfl Gv.lm ?_; (with_reducible refine (spec_PrefixOk.calls k a0_0 a0_1 a0_2 a0_3 a0_4 a0_5 false _ A6.out).mono ?_); rintro e w16 ⟨rfl, hb⟩; refine ⟨_, rfl, ?_⟩; have n0_ := Gv.a0 (Gv.bb BK271.out hb); have n1_ := Gv.a0 (Gv.bb BK272.out hb); have n2_ := Gv.a0 (below_step Gv.bw hb); clear BK271; clear BK272; clear HB; have BK271 := n0_; have BK272 := n1_; have HB := n2_; clear n0_ n1_ n2_; (try clear hb); (try clear hb2); (try clear hk); (try clear hi)))
   go_meet
   case rel => exact ⟨_, (true), Gv.rq, H', ⟨by first | omega | exact Nat.le_refl _⟩, ⟨by (with_reducible repeat (first | refine blk_drewN ?_ _ | refine blk_drew ?_ | refine blk_alloc ?_ _)); exact BK271.out⟩, ⟨by (with_reducible repeat (first | refine blk_drewN ?_ _ | refine blk_drew ?_ | refine blk_alloc ?_ _)); exact BK272.out⟩, ⟨Gv.bw⟩⟩
 case rest =>
  clear HC3
  try clear c1
  try clear p2
  try clear c4
  try clear c5
  try clear c7
  try clear c9
  try clear c14
  try clear hcz10_0 hcz10_1 hcz10_2 hcz10_3 hcz10_4 hcz10_5
  try clear hcz12_0 hcz12_1 hcz12_2 hcz12_3 hcz12_4 hcz12_5
  try clear hcz15_0 hcz15_1 hcz15_2 hcz15_3 hcz15_4 hcz15_5
  try clear hfz10_0 hfz10_1 hfz10_2 hfz10_3 hfz10_4 hfz10_5
  try clear hfz12_0 hfz12_1 hfz12_2 hfz12_3 hfz12_4 hfz12_5
  try clear hfz15_0 hfz15_1 hfz15_2 hfz15_3 hfz15_4 hfz15_5
  obtain ⟨kq, x12_2, rfl, HA, HJ2, BK271, BK272, HB⟩ := hcut
  cases kq with
  | zero => exact absurd HA.out (by simp [spec_PrefixIn.j0])
  | succ kj2 =>
   have H := HA.out
   clear HA
   simp only [spec_PrefixIn.j0] at H
   by_cases c17 : x12_2 = true
   ·subst c17
    have H1 : (some false) = some r := by rw [if_pos rfl] at H; exact H
    clear H
    have H := H1
    clear H1
    obtain rfl := Option.some.inj H
    go_wp2
    go_ret
    exact ⟨Gv.rt, Gv.bw⟩
   ·replace c17 := Bool.eq_false_iff.mpr c17
    subst c17
    have H1 : ((spec_l03Any.f a1_0 a1_1 a1_2 a1_3 a1_4 a1_5).bind fun t275 => (if t275 = true then (some true) else ((spec_l03Any.f a0_0 a0_1 a0_2 a0_3 a0_4 a0_5).bind fun t276 => (if t276 = true then (some false) else (if a0_0 = a1_0 then (if a0_5 ≥ a1_5 then ((spec_PrefixHas.f kj2 a1_0 a1_1 a1_2 a1_3 a1_4 a1_5 a0_0 a0_1 a0_2 a0_3 a0_4).bind fun t277 => (some t277)) else (some false)) else (some false)))))) = some r := by rw [if_neg (show ¬ (false = true) by decide)] at H; exact H
    clear H
    have H := H1
    clear H1
    replace H := Option.bind_eq_some_iff.mp H
    obtain ⟨t275, A180, H⟩ := H
    replace H : (if t275 = true then (some true) else ((spec_l03Any.f a0_0 a0_1 a0_2 a0_3 a0_4 a0_5).bind fun t276 => (if t276 = true then (some false) else (if a0_0 = a1_0 then (if a0_5 ≥ a1_5 then ((spec_PrefixHas.f kj2 a1_0 a1_1 a1_2 a1_3 a1_4 a1_5 a0_0 a0_1 a0_2 a0_3 a0_4).bind fun t277 => (some t277)) else (some false)) else (some false))))) = some r := H
    have A18 := Gv.a0 A180
    clear A180
    by_cases c19 : t275 = true
    ·subst c19
     have H1 : (some true) = some r := by rw [if_pos rfl] at H; exact H
     clear H
     have H := H1
     clear H1
     obtain rfl := Option.some.inj H
     have hnb20 := NB272_271.out
     have hnc20 := NB271_272.out
     obtain ⟨hcz21_0, hcz21_1, hcz21_2, hcz21_3, hcz21_4, hcz21_5⟩ := Gv.c6 BK272.out
     obtain ⟨hfz21_0, hfz21_1, hfz21_2, hfz21_3, hfz21_4, hfz21_5⟩ := Gv.f6 BK272.out
     go_wp2_with (first | ((with_reducible refine gate_callee (f := 60) rfl ?_); refine goesL_ (some 14) rfl rfl Try.func60 (by kernel_rfl) rfl #[.agg #[.int .i64 a1_0, .int .i64 a1_1, .int .i64 a1_2, .int .i64 a1_3, .int .i64 a1_4, .int .i64 a1_5]] rfl Gv.lm ?_; (with_reducible refine (spec_l03Any.calls a1_0 a1_1 a1_2 a1_3 a1_4 a1_5 true _ A18.out).mono ?_); rintro e w22 ⟨rfl, hb⟩; refine ⟨_, rfl, ?_⟩; have n0_ := Gv.a0 (Gv.bb BK271.out hb); have n1_ := Gv.a0 (Gv.bb BK272.out hb); have n2_ := Gv.a0 (below_step Gv.bw hb); clear BK271; clear BK272; clear HB; have BK271 := n0_; have BK272 := n1_; have HB := n2_; clear n0_ n1_ n2_; (try clear hb); (try clear hb2); (try clear hk); (try clear hi)))
     go_ret
     exact ⟨Gv.rt, Gv.bw⟩
    ·replace c19 := Bool.eq_false_iff.mpr c19
     subst c19
     have H1 : ((spec_l03Any.f a0_0 a0_1 a0_2 a0_3 a0_4 a0_5).bind fun t276 => (if t276 = true then (some false) else (if a0_0 = a1_0 then (if a0_5 ≥ a1_5 then ((spec_PrefixHas.f kj2 a1_0 a1_1 a1_2 a1_3 a1_4 a1_5 a0_0 a0_1 a0_2 a0_3 a0_4).bind fun t277 => (some t277)) else (some false)) else (some false)))) = some r := by rw [if_neg (show ¬ (false = true) by decide)] at H; exact H
     clear H
     have H := H1
     clear H1
     replace H := Option.bind_eq_some_iff.mp H
     obtain ⟨t276, A230, H⟩ := H
     replace H : (if t276 = true then (some false) else (if a0_0 = a1_0 then (if a0_5 ≥ a1_5 then ((spec_PrefixHas.f kj2 a1_0 a1_1 a1_2 a1_3 a1_4 a1_5 a0_0 a0_1 a0_2 a0_3 a0_4).bind fun t277 => (some t277)) else (some false)) else (some false))) = some r := H
     have A23 := Gv.a0 A230
     clear A230
     by_cases c24 : t276 = true
     ·subst c24
      have H1 : (some false) = some r := by rw [if_pos rfl] at H; exact H
      clear H
      have H := H1
      clear H1
      obtain rfl := Option.some.inj H
      have hnb25 := NB272_271.out
      have hnc25 := NB271_272.out
      obtain ⟨hcz26_0, hcz26_1, hcz26_2, hcz26_3, hcz26_4, hcz26_5⟩ := Gv.c6 BK272.out
      obtain ⟨hfz26_0, hfz26_1, hfz26_2, hfz26_3, hfz26_4, hfz26_5⟩ := Gv.f6 BK272.out
      go_wp2_with (first | ((with_reducible refine gate_callee (f := 60) rfl ?_); refine goesL_ (some 14) rfl rfl Try.func60 (by kernel_rfl) rfl #[.agg #[.int .i64 a1_0, .int .i64 a1_1, .int .i64 a1_2, .int .i64 a1_3, .int .i64 a1_4, .int .i64 a1_5]] rfl Gv.lm ?_; (with_reducible refine (spec_l03Any.calls a1_0 a1_1 a1_2 a1_3 a1_4 a1_5 false _ A18.out).mono ?_); rintro e w27 ⟨rfl, hb⟩; refine ⟨_, rfl, ?_⟩; have n0_ := Gv.a0 (Gv.bb BK271.out hb); have n1_ := Gv.a0 (Gv.bb BK272.out hb); have n2_ := Gv.a0 (below_step Gv.bw hb); clear BK271; clear BK272; clear HB; have BK271 := n0_; have BK272 := n1_; have HB := n2_; clear n0_ n1_ n2_; (try clear hb); (try clear hb2); (try clear hk); (try clear hi); obtain ⟨hcz28_0, hcz28_1, hcz28_2, hcz28_3, hcz28_4, hcz28_5⟩ := Gv.c6 BK271.out; obtain ⟨hfz28_0, hfz28_1, hfz28_2, hfz28_3, hfz28_4, hfz28_5⟩ := Gv.f6 BK271.out) | ((with_reducible refine gate_callee (f := 60) rfl ?_); refine goesL_ (some 16) rfl rfl Try.func60 (by kernel_rfl) rfl #[.agg #[.int .i64 a0_0, .int .i64 a0_1, .int .i64 a0_2, .int .i64 a0_3, .int .i64 a0_4, .int .i64 a0_5]] rfl Gv.lm ?_; (with_reducible refine (spec_l03Any.calls a0_0 a0_1 a0_2 a0_3 a0_4 a0_5 true _ A23.out).mono ?_); rintro e w29 ⟨rfl, hb⟩; refine ⟨_, rfl, ?_⟩; have n0_ := Gv.a0 (Gv.bb BK271.out hb); have n1_ := Gv.a0 (Gv.bb BK272.out hb); have n2_ := Gv.a0 (below_step Gv.bw hb); clear BK271; clear BK272; clear HB; have BK271 := n0_; have BK272 := n1_; have HB := n2_; clear n0_ n1_ n2_; (try clear hb); (try clear hb2); (try clear hk); (try clear hi)))
      go_ret
      exact ⟨Gv.rt, Gv.bw⟩
     ·replace c24 := Bool.eq_false_iff.mpr c24
      subst c24
      have H1 : (if a0_0 = a1_0 then (if a0_5 ≥ a1_5 then ((spec_PrefixHas.f kj2 a1_0 a1_1 a1_2 a1_3 a1_4 a1_5 a0_0 a0_1 a0_2 a0_3 a0_4).bind fun t277 => (some t277)) else (some false)) else (some false)) = some r := by rw [if_neg (show ¬ (false = true) by decide)] at H; exact H
      clear H
      have H := H1
      clear H1
      by_cases c30 : a0_0 = a1_0
      ·rw [if_pos c30] at H
       have c30b0 : (a0_0 == a1_0) = true := beq_iff_eq.mpr c30
       have c30b1 : (a0_0 != a1_0) = false := bne_eq_false_iff_eq.mpr c30
       clear c30
       by_cases c31 : a0_5 ≥ a1_5
       ·rw [if_pos c31] at H
        have c31b0 : decide (a1_5 ≤ a0_5) = true := decide_eq_true c31
        clear c31
        replace H := Option.bind_eq_some_iff.mp H
        obtain ⟨t277, A320, H⟩ := H
        replace H : (some t277) = some r := H
        have A32 := Gv.a0 A320
        clear A320
        obtain rfl := Option.some.inj H
        have hnb33 := NB272_271.out
        have hnc33 := NB271_272.out
        obtain ⟨hcz34_0, hcz34_1, hcz34_2, hcz34_3, hcz34_4, hcz34_5⟩ := Gv.c6 BK272.out
        obtain ⟨hfz34_0, hfz34_1, hfz34_2, hfz34_3, hfz34_4, hfz34_5⟩ := Gv.f6 BK272.out
        go_wp2_with (first | ((with_reducible refine gate_callee (f := 60) rfl ?_); refine goesL_ (some 14) rfl rfl Try.func60 (by kernel_rfl) rfl #[.agg #[.int .i64 a1_0, .int .i64 a1_1, .int .i64 a1_2, .int .i64 a1_3, .int .i64 a1_4, .int .i64 a1_5]] rfl Gv.lm ?_; (with_reducible refine (spec_l03Any.calls a1_0 a1_1 a1_2 a1_3 a1_4 a1_5 false _ A18.out).mono ?_); rintro e w35 ⟨rfl, hb⟩; refine ⟨_, rfl, ?_⟩; have n0_ := Gv.a0 (Gv.bb BK271.out hb); have n1_ := Gv.a0 (Gv.bb BK272.out hb); have n2_ := Gv.a0 (below_step Gv.bw hb); clear BK271; clear BK272; clear HB; have BK271 := n0_; have BK272 := n1_; have HB := n2_; clear n0_ n1_ n2_; (try clear hb); (try clear hb2); (try clear hk); (try clear hi); obtain ⟨hcz36_0, hcz36_1, hcz36_2, hcz36_3, hcz36_4, hcz36_5⟩ := Gv.c6 BK271.out; obtain ⟨hfz36_0, hfz36_1, hfz36_2, hfz36_3, hfz36_4, hfz36_5⟩ := Gv.f6 BK271.out) | ((with_reducible refine gate_callee (f := 60) rfl ?_); refine goesL_ (some 16) rfl rfl Try.func60 (by kernel_rfl) rfl #[.agg #[.int .i64 a0_0, .int .i64 a0_1, .int .i64 a0_2, .int .i64 a0_3, .int .i64 a0_4, .int .i64 a0_5]] rfl Gv.lm ?_; (with_reducible refine (spec_l03Any.calls a0_0 a0_1 a0_2 a0_3 a0_4 a0_5 false _ A23.out).mono ?_); rintro e w37 ⟨rfl, hb⟩; refine ⟨_, rfl, ?_⟩; have n0_ := Gv.a0 (Gv.bb BK271.out hb); have n1_ := Gv.a0 (Gv.bb BK272.out hb); have n2_ := Gv.a0 (below_step Gv.bw hb); clear BK271; clear BK272; clear HB; have BK271 := n0_; have BK272 := n1_; have HB := n2_; clear n0_ n1_ n2_; (try clear hb); (try clear hb2); (try clear hk); (try clear hi); obtain ⟨hcz38_0, hcz38_1, hcz38_2, hcz38_3, hcz38_4, hcz38_5⟩ := Gv.c6 BK271.out; obtain ⟨hfz38_0, hfz38_1, hfz38_2, hfz38_3, hfz38_4, hfz38_5⟩ := Gv.f6 BK271.out; obtain ⟨hcz39_0, hcz39_1, hcz39_2, hcz39_3, hcz39_4, hcz39_5⟩ := Gv.c6 BK272.out; obtain ⟨hfz39_0, hfz39_1, hfz39_2, hfz39_3, hfz39_4, hfz39_5⟩ := Gv.f6 BK272.out) | (go_at_call 51; (with_reducible refine (spec_PrefixHas.calls kj2 a1_0 a1_1 a1_2 a1_3 a1_4 a1_5 a0_0 a0_1 a0_2 a0_3 a0_4 t277 _ A32.out).mono ?_); rintro e w40 ⟨rfl, hb⟩; have n0_ := Gv.a0 (Gv.bb BK271.out hb); have n1_ := Gv.a0 (Gv.bb BK272.out hb); have n2_ := Gv.a0 (below_step Gv.bw hb); clear BK271; clear BK272; clear HB; have BK271 := n0_; have BK272 := n1_; have HB := n2_; clear n0_ n1_ n2_; (try clear hb); (try clear hb2); (try clear hk); (try clear hi)))
        go_ret
        exact ⟨Gv.rt, Gv.bw⟩
       ·rw [if_neg c31] at H
        have c31b0 : decide (a1_5 ≤ a0_5) = false := decide_eq_false c31
        clear c31
        obtain rfl := Option.some.inj H
        have hnb41 := NB272_271.out
        have hnc41 := NB271_272.out
        obtain ⟨hcz42_0, hcz42_1, hcz42_2, hcz42_3, hcz42_4, hcz42_5⟩ := Gv.c6 BK272.out
        obtain ⟨hfz42_0, hfz42_1, hfz42_2, hfz42_3, hfz42_4, hfz42_5⟩ := Gv.f6 BK272.out
        go_wp2_with (first | ((with_reducible refine gate_callee (f := 60) rfl ?_); refine goesL_ (some 14) rfl rfl Try.func60 (by kernel_rfl) rfl #[.agg #[.int .i64 a1_0, .int .i64 a1_1, .int .i64 a1_2, .int .i64 a1_3, .int .i64 a1_4, .int .i64 a1_5]] rfl Gv.lm ?_; (with_reducible refine (spec_l03Any.calls a1_0 a1_1 a1_2 a1_3 a1_4 a1_5 false _ A18.out).mono ?_); rintro e w43 ⟨rfl, hb⟩; refine ⟨_, rfl, ?_⟩; have n0_ := Gv.a0 (Gv.bb BK271.out hb); have n1_ := Gv.a0 (Gv.bb BK272.out hb); have n2_ := Gv.a0 (below_step Gv.bw hb); clear BK271; clear BK272; clear HB; have BK271 := n0_; have BK272 := n1_; have HB := n2_; clear n0_ n1_ n2_; (try clear hb); (try clear hb2); (try clear hk); (try clear hi); obtain ⟨hcz44_0, hcz44_1, hcz44_2, hcz44_3, hcz44_4, hcz44_5⟩ := Gv.c6 BK271.out; obtain ⟨hfz44_0, hfz44_1, hfz44_2, hfz44_3, hfz44_4, hfz44_5⟩ := Gv.f6 BK271.out) | ((with_reducible refine gate_callee (f := 60) rfl ?_); refine goesL_ (some 16) rfl rfl Try.func60 (by kernel_rfl) rfl #[.agg #[.int .i64 a0_0, .int .i64 a0_1, .int .i64 a0_2, .int .i64 a0_3, .int .i64 a0_4, .int .i64 a0_5]] rfl Gv.lm ?_; (with_reducible refine (spec_l03Any.calls a0_0 a0_1 a0_2 a0_3 a0_4 a0_5 false _ A23.out).mono ?_); rintro e w45 ⟨rfl, hb⟩; refine ⟨_, rfl, ?_⟩; have n0_ := Gv.a0 (Gv.bb BK271.out hb); have n1_ := Gv.a0 (Gv.bb BK272.out hb); have n2_ := Gv.a0 (below_step Gv.bw hb); clear BK271; clear BK272; clear HB; have BK271 := n0_; have BK272 := n1_; have HB := n2_; clear n0_ n1_ n2_; (try clear hb); (try clear hb2); (try clear hk); (try clear hi); obtain ⟨hcz46_0, hcz46_1, hcz46_2, hcz46_3, hcz46_4, hcz46_5⟩ := Gv.c6 BK271.out; obtain ⟨hfz46_0, hfz46_1, hfz46_2, hfz46_3, hfz46_4, hfz46_5⟩ := Gv.f6 BK271.out; obtain ⟨hcz47_0, hcz47_1, hcz47_2, hcz47_3, hcz47_4, hcz47_5⟩ := Gv.c6 BK272.out; obtain ⟨hfz47_0, hfz47_1, hfz47_2, hfz47_3, hfz47_4, hfz47_5⟩ := Gv.f6 BK272.out))
        go_ret
        exact ⟨Gv.rt, Gv.bw⟩
      ·rw [if_neg c30] at H
       have c30b0 : (a0_0 == a1_0) = false := beq_eq_false_iff_ne.mpr c30
       have c30b1 : (a0_0 != a1_0) = true := bne_iff_ne.mpr c30
       obtain rfl := Option.some.inj H
       have hnb48 := NB272_271.out
       have hnc48 := NB271_272.out
       obtain ⟨hcz49_0, hcz49_1, hcz49_2, hcz49_3, hcz49_4, hcz49_5⟩ := Gv.c6 BK272.out
       obtain ⟨hfz49_0, hfz49_1, hfz49_2, hfz49_3, hfz49_4, hfz49_5⟩ := Gv.f6 BK272.out
       go_wp2_with (first | ((with_reducible refine gate_callee (f := 60) rfl ?_); refine goesL_ (some 14) rfl rfl Try.func60 (by kernel_rfl) rfl #[.agg #[.int .i64 a1_0, .int .i64 a1_1, .int .i64 a1_2, .int .i64 a1_3, .int .i64 a1_4, .int .i64 a1_5]] rfl Gv.lm ?_; (with_reducible refine (spec_l03Any.calls a1_0 a1_1 a1_2 a1_3 a1_4 a1_5 false _ A18.out).mono ?_); rintro e w50 ⟨rfl, hb⟩; refine ⟨_, rfl, ?_⟩; have n0_ := Gv.a0 (Gv.bb BK271.out hb); have n1_ := Gv.a0 (Gv.bb BK272.out hb); have n2_ := Gv.a0 (below_step Gv.bw hb); clear BK271; clear BK272; clear HB; have BK271 := n0_; have BK272 := n1_; have HB := n2_; clear n0_ n1_ n2_; (try clear hb); (try clear hb2); (try clear hk); (try clear hi); obtain ⟨hcz51_0, hcz51_1, hcz51_2, hcz51_3, hcz51_4, hcz51_5⟩ := Gv.c6 BK271.out; obtain ⟨hfz51_0, hfz51_1, hfz51_2, hfz51_3, hfz51_4, hfz51_5⟩ := Gv.f6 BK271.out) | ((with_reducible refine gate_callee (f := 60) rfl ?_); refine goesL_ (some 16) rfl rfl Try.func60 (by kernel_rfl) rfl #[.agg #[.int .i64 a0_0, .int .i64 a0_1, .int .i64 a0_2, .int .i64 a0_3, .int .i64 a0_4, .int .i64 a0_5]] rfl Gv.lm ?_; (with_reducible refine (spec_l03Any.calls a0_0 a0_1 a0_2 a0_3 a0_4 a0_5 false _ A23.out).mono ?_); rintro e w52 ⟨rfl, hb⟩; refine ⟨_, rfl, ?_⟩; have n0_ := Gv.a0 (Gv.bb BK271.out hb); have n1_ := Gv.a0 (Gv.bb BK272.out hb); have n2_ := Gv.a0 (below_step Gv.bw hb); clear BK271; clear BK272; clear HB; have BK271 := n0_; have BK272 := n1_; have HB := n2_; clear n0_ n1_ n2_; (try clear hb); (try clear hb2); (try clear hk); (try clear hi); obtain ⟨hcz53_0, hcz53_1, hcz53_2, hcz53_3, hcz53_4, hcz53_5⟩ := Gv.c6 BK271.out; obtain ⟨hfz53_0, hfz53_1, hfz53_2, hfz53_3, hfz53_4, hfz53_5⟩ := Gv.f6 BK271.out; obtain ⟨hcz54_0, hcz54_1, hcz54_2, hcz54_3, hcz54_4, hcz54_5⟩ := Gv.c6 BK272.out; obtain ⟨hfz54_0, hfz54_1, hfz54_2, hfz54_3, hfz54_4, hfz54_5⟩ := Gv.f6 BK272.out))
       go_ret
       exact ⟨Gv.rt, Gv.bw⟩

/-! ### spec_RuleCovers: function 37 -/
def spec_RuleCovers.j0 : Nat → Bool → Int → Int → Int → Int → Int → Int → Int → Int → Int → Int → Int → Int → Int → Int → Int → Int → Int → Int → Int → Int → Int → Int → Int → Int → Int → Int → Int → Int → Int → Int → Int → Int → Int → Int → Int → Int → Int → Int → Int → Int → Int → Int → Option (Bool)
 | 0, _, _, _, _, _, _, _, _, _, _, _, _, _, _, _, _, _, _, _, _, _, _, _, _, _, _, _, _, _, _, _, _, _, _, _, _, _, _, _, _, _, _, _ => none
 | k + 1, x28, x279000, x279001, x279002, x279003, x279004, x279005, x279006, x279007, x279008, x279009, x279010, x279011, x279012, x279013, x279014, x279015, x279016, x279017, x279018, x279019, x279020, x280000, x280001, x280002, x280003, x280004, x280005, x280006, x280007, x280008, x280009, x280010, x280011, x280012, x280013, x280014, x280015, x280016, x280017, x280018, x280019, x280020 => if x28 = true then (some false) else (if x279013 = (-1) then (if x279014 ≤ x280014 then (if x279015 ≥ x280015 then (if x279016 ≤ x280016 then (some (decide (x279017 ≥ x280017))) else (some false)) else (some false)) else (some false)) else (if x279013 = x280013 then (if x279014 ≤ x280014 then (if x279015 ≥ x280015 then (if x279016 ≤ x280016 then (some (decide (x279017 ≥ x280017))) else (some false)) else (some false)) else (some false)) else (some false)))
def spec_RuleCovers.f (k : Nat) (a0_0 : Int) (a0_1 : Int) (a0_2 : Int) (a0_3 : Int) (a0_4 : Int) (a0_5 : Int) (a0_6 : Int) (a0_7 : Int) (a0_8 : Int) (a0_9 : Int) (a0_10 : Int) (a0_11 : Int) (a0_12 : Int) (a0_13 : Int) (a0_14 : Int) (a0_15 : Int) (a0_16 : Int) (a0_17 : Int) (a0_18 : Int) (a0_19 : Int) (a0_20 : Int) (a1_0 : Int) (a1_1 : Int) (a1_2 : Int) (a1_3 : Int) (a1_4 : Int) (a1_5 : Int) (a1_6 : Int) (a1_7 : Int) (a1_8 : Int) (a1_9 : Int) (a1_10 : Int) (a1_11 : Int) (a1_12 : Int) (a1_13 : Int) (a1_14 : Int) (a1_15 : Int) (a1_16 : Int) (a1_17 : Int) (a1_18 : Int) (a1_19 : Int) (a1_20 : Int) : Option (Bool) := (spec_RuleOk.f k a0_0 a0_1 a0_2 a0_3 a0_4 a0_5 a0_6 a0_7 a0_8 a0_9 a0_10 a0_11 a0_12 a0_13 a0_14 a0_15 a0_16 a0_17 a0_18 a0_19 a0_20).bind fun t280 => (if t280 = true then ((spec_RuleOk.f k a1_0 a1_1 a1_2 a1_3 a1_4 a1_5 a1_6 a1_7 a1_8 a1_9 a1_10 a1_11 a1_12 a1_13 a1_14 a1_15 a1_16 a1_17 a1_18 a1_19 a1_20).bind fun t281 => (if t281 = true then ((spec_PrefixIn.f k a1_1 a1_2 a1_3 a1_4 a1_5 a1_6 a0_1 a0_2 a0_3 a0_4 a0_5 a0_6).bind fun t282 => (if t282 = true then ((spec_PrefixIn.f k a1_7 a1_8 a1_9 a1_10 a1_11 a1_12 a0_7 a0_8 a0_9 a0_10 a0_11 a0_12).bind fun t283 => (spec_RuleCovers.j0 k (!t283) a0_0 a0_1 a0_2 a0_3 a0_4 a0_5 a0_6 a0_7 a0_8 a0_9 a0_10 a0_11 a0_12 a0_13 a0_14 a0_15 a0_16 a0_17 a0_18 a0_19 a0_20 a1_0 a1_1 a1_2 a1_3 a1_4 a1_5 a1_6 a1_7 a1_8 a1_9 a1_10 a1_11 a1_12 a1_13 a1_14 a1_15 a1_16 a1_17 a1_18 a1_19 a1_20)) else (spec_RuleCovers.j0 k true a0_0 a0_1 a0_2 a0_3 a0_4 a0_5 a0_6 a0_7 a0_8 a0_9 a0_10 a0_11 a0_12 a0_13 a0_14 a0_15 a0_16 a0_17 a0_18 a0_19 a0_20 a1_0 a1_1 a1_2 a1_3 a1_4 a1_5 a1_6 a1_7 a1_8 a1_9 a1_10 a1_11 a1_12 a1_13 a1_14 a1_15 a1_16 a1_17 a1_18 a1_19 a1_20))) else (spec_RuleCovers.j0 k true a0_0 a0_1 a0_2 a0_3 a0_4 a0_5 a0_6 a0_7 a0_8 a0_9 a0_10 a0_11 a0_12 a0_13 a0_14 a0_15 a0_16 a0_17 a0_18 a0_19 a0_20 a1_0 a1_1 a1_2 a1_3 a1_4 a1_5 a1_6 a1_7 a1_8 a1_9 a1_10 a1_11 a1_12 a1_13 a1_14 a1_15 a1_16 a1_17 a1_18 a1_19 a1_20))) else (spec_RuleCovers.j0 k true a0_0 a0_1 a0_2 a0_3 a0_4 a0_5 a0_6 a0_7 a0_8 a0_9 a0_10 a0_11 a0_12 a0_13 a0_14 a0_15 a0_16 a0_17 a0_18 a0_19 a0_20 a1_0 a1_1 a1_2 a1_3 a1_4 a1_5 a1_6 a1_7 a1_8 a1_9 a1_10 a1_11 a1_12 a1_13 a1_14 a1_15 a1_16 a1_17 a1_18 a1_19 a1_20))
theorem spec_RuleCovers.mono_l : ∀ k, (∀ y0 y1 y2 y3 y4 y5 y6 y7 y8 y9 y10 y11 y12 y13 y14 y15 y16 y17 y18 y19 y20 y21 y22 y23 y24 y25 y26 y27 y28 y29 y30 y31 y32 y33 y34 y35 y36 y37 y38 y39 y40 y41 y42, LeO (spec_RuleCovers.j0 k y0 y1 y2 y3 y4 y5 y6 y7 y8 y9 y10 y11 y12 y13 y14 y15 y16 y17 y18 y19 y20 y21 y22 y23 y24 y25 y26 y27 y28 y29 y30 y31 y32 y33 y34 y35 y36 y37 y38 y39 y40 y41 y42) (spec_RuleCovers.j0 (k + 1) y0 y1 y2 y3 y4 y5 y6 y7 y8 y9 y10 y11 y12 y13 y14 y15 y16 y17 y18 y19 y20 y21 y22 y23 y24 y25 y26 y27 y28 y29 y30 y31 y32 y33 y34 y35 y36 y37 y38 y39 y40 y41 y42))
 | 0 => fun _ _ _ _ _ _ _ _ _ _ _ _ _ _ _ _ _ _ _ _ _ _ _ _ _ _ _ _ _ _ _ _ _ _ _ _ _ _ _ _ _ _ _ r h => by simp [spec_RuleCovers.j0] at h
 | k + 1 => by
  have ih0 := spec_RuleCovers.mono_l k
  ·intro y0 y1 y2 y3 y4 y5 y6 y7 y8 y9 y10 y11 y12 y13 y14 y15 y16 y17 y18 y19 y20 y21 y22 y23 y24 y25 y26 y27 y28 y29 y30 y31 y32 y33 y34 y35 y36 y37 y38 y39 y40 y41 y42
   unfold spec_RuleCovers.j0
   repeat' first
   | (with_reducible exact ih0 _ _ _ _ _ _ _ _ _ _ _ _ _ _ _ _ _ _ _ _ _ _ _ _ _ _ _ _ _ _ _ _ _ _ _ _ _ _ _ _ _ _ _)
   | (with_reducible exact spec_PrefixIn.mono _ _ _ _ _ _ _ _ _ _ _ _ _)
   | (with_reducible exact spec_RuleOk.mono _ _ _ _ _ _ _ _ _ _ _ _ _ _ _ _ _ _ _ _ _ _)
   | (with_reducible exact LeO.refl _)
   | (with_reducible exact LeO.none _)
   | (with_reducible refine LeO.ite ?_ ?_)
   | (with_reducible refine LeO.bind ?_ (fun _ => ?_))
   | exact ih0 _ _ _ _ _ _ _ _ _ _ _ _ _ _ _ _ _ _ _ _ _ _ _ _ _ _ _ _ _ _ _ _ _ _ _ _ _ _ _ _ _ _ _
   | exact spec_PrefixIn.mono _ _ _ _ _ _ _ _ _ _ _ _ _
   | exact spec_RuleOk.mono _ _ _ _ _ _ _ _ _ _ _ _ _ _ _ _ _ _ _ _ _ _
   | exact LeO.none _
   | refine LeO.ite ?_ ?_
   | refine LeO.bind ?_ (fun _ => ?_)
theorem spec_RuleCovers.mono : ∀ a0 a1 a2 a3 a4 a5 a6 a7 a8 a9 a10 a11 a12 a13 a14 a15 a16 a17 a18 a19 a20 a21 a22 a23 a24 a25 a26 a27 a28 a29 a30 a31 a32 a33 a34 a35 a36 a37 a38 a39 a40 a41 k, LeO (spec_RuleCovers.f k a0 a1 a2 a3 a4 a5 a6 a7 a8 a9 a10 a11 a12 a13 a14 a15 a16 a17 a18 a19 a20 a21 a22 a23 a24 a25 a26 a27 a28 a29 a30 a31 a32 a33 a34 a35 a36 a37 a38 a39 a40 a41) (spec_RuleCovers.f (k + 1) a0 a1 a2 a3 a4 a5 a6 a7 a8 a9 a10 a11 a12 a13 a14 a15 a16 a17 a18 a19 a20 a21 a22 a23 a24 a25 a26 a27 a28 a29 a30 a31 a32 a33 a34 a35 a36 a37 a38 a39 a40 a41) := by
 intro a0 a1 a2 a3 a4 a5 a6 a7 a8 a9 a10 a11 a12 a13 a14 a15 a16 a17 a18 a19 a20 a21 a22 a23 a24 a25 a26 a27 a28 a29 a30 a31 a32 a33 a34 a35 a36 a37 a38 a39 a40 a41 k
 have ih0 := spec_RuleCovers.mono_l k
 unfold spec_RuleCovers.f
 repeat' first
   | (with_reducible exact ih0 _ _ _ _ _ _ _ _ _ _ _ _ _ _ _ _ _ _ _ _ _ _ _ _ _ _ _ _ _ _ _ _ _ _ _ _ _ _ _ _ _ _ _)
   | (with_reducible exact spec_PrefixIn.mono _ _ _ _ _ _ _ _ _ _ _ _ _)
   | (with_reducible exact spec_RuleOk.mono _ _ _ _ _ _ _ _ _ _ _ _ _ _ _ _ _ _ _ _ _ _)
   | (with_reducible exact LeO.refl _)
   | (with_reducible exact LeO.none _)
   | (with_reducible refine LeO.ite ?_ ?_)
   | (with_reducible refine LeO.bind ?_ (fun _ => ?_))
   | exact ih0 _ _ _ _ _ _ _ _ _ _ _ _ _ _ _ _ _ _ _ _ _ _ _ _ _ _ _ _ _ _ _ _ _ _ _ _ _ _ _ _ _ _ _
   | exact spec_PrefixIn.mono _ _ _ _ _ _ _ _ _ _ _ _ _
   | exact spec_RuleOk.mono _ _ _ _ _ _ _ _ _ _ _ _ _ _ _ _ _ _ _ _ _ _
   | exact LeO.none _
   | refine LeO.ite ?_ ?_
   | refine LeO.bind ?_ (fun _ => ?_)
set_option maxHeartbeats 8000000 in
set_option maxRecDepth 100000 in
theorem spec_RuleCovers.calls (k : Nat) (a0_0 : Int) (a0_1 : Int) (a0_2 : Int) (a0_3 : Int) (a0_4 : Int) (a0_5 : Int) (a0_6 : Int) (a0_7 : Int) (a0_8 : Int) (a0_9 : Int) (a0_10 : Int) (a0_11 : Int) (a0_12 : Int) (a0_13 : Int) (a0_14 : Int) (a0_15 : Int) (a0_16 : Int) (a0_17 : Int) (a0_18 : Int) (a0_19 : Int) (a0_20 : Int) (a1_0 : Int) (a1_1 : Int) (a1_2 : Int) (a1_3 : Int) (a1_4 : Int) (a1_5 : Int) (a1_6 : Int) (a1_7 : Int) (a1_8 : Int) (a1_9 : Int) (a1_10 : Int) (a1_11 : Int) (a1_12 : Int) (a1_13 : Int) (a1_14 : Int) (a1_15 : Int) (a1_16 : Int) (a1_17 : Int) (a1_18 : Int) (a1_19 : Int) (a1_20 : Int) (r : Bool) (w : World) (h : spec_RuleCovers.f k a0_0 a0_1 a0_2 a0_3 a0_4 a0_5 a0_6 a0_7 a0_8 a0_9 a0_10 a0_11 a0_12 a0_13 a0_14 a0_15 a0_16 a0_17 a0_18 a0_19 a0_20 a1_0 a1_1 a1_2 a1_3 a1_4 a1_5 a1_6 a1_7 a1_8 a1_9 a1_10 a1_11 a1_12 a1_13 a1_14 a1_15 a1_16 a1_17 a1_18 a1_19 a1_20 = some r) :
  Calls Try.prog 37 #[.agg #[.int .i64 a0_0, .int .i64 a0_1, .int .i64 a0_2, .int .i64 a0_3, .int .i64 a0_4, .int .i64 a0_5, .int .i64 a0_6, .int .i64 a0_7, .int .i64 a0_8, .int .i64 a0_9, .int .i64 a0_10, .int .i64 a0_11, .int .i64 a0_12, .int .i64 a0_13, .int .i64 a0_14, .int .i64 a0_15, .int .i64 a0_16, .int .i64 a0_17, .int .i64 a0_18, .int .i64 a0_19, .int .i64 a0_20], .agg #[.int .i64 a1_0, .int .i64 a1_1, .int .i64 a1_2, .int .i64 a1_3, .int .i64 a1_4, .int .i64 a1_5, .int .i64 a1_6, .int .i64 a1_7, .int .i64 a1_8, .int .i64 a1_9, .int .i64 a1_10, .int .i64 a1_11, .int .i64 a1_12, .int .i64 a1_13, .int .i64 a1_14, .int .i64 a1_15, .int .i64 a1_16, .int .i64 a1_17, .int .i64 a1_18, .int .i64 a1_19, .int .i64 a1_20]] w fun e w' => e = .returned (.bool r) ∧ Below w.heap.size w w' := by
 have hu55 := Try.underlying55
 have hu53 := Try.underlying53
 have HB := Gv.a0 (Below.refl w.heap.size w)
 have H : ((spec_RuleOk.f k a0_0 a0_1 a0_2 a0_3 a0_4 a0_5 a0_6 a0_7 a0_8 a0_9 a0_10 a0_11 a0_12 a0_13 a0_14 a0_15 a0_16 a0_17 a0_18 a0_19 a0_20).bind fun t280 => (if t280 = true then ((spec_RuleOk.f k a1_0 a1_1 a1_2 a1_3 a1_4 a1_5 a1_6 a1_7 a1_8 a1_9 a1_10 a1_11 a1_12 a1_13 a1_14 a1_15 a1_16 a1_17 a1_18 a1_19 a1_20).bind fun t281 => (if t281 = true then ((spec_PrefixIn.f k a1_1 a1_2 a1_3 a1_4 a1_5 a1_6 a0_1 a0_2 a0_3 a0_4 a0_5 a0_6).bind fun t282 => (if t282 = true then ((spec_PrefixIn.f k a1_7 a1_8 a1_9 a1_10 a1_11 a1_12 a0_7 a0_8 a0_9 a0_10 a0_11 a0_12).bind fun t283 => (spec_RuleCovers.j0 k (!t283) a0_0 a0_1 a0_2 a0_3 a0_4 a0_5 a0_6 a0_7 a0_8 a0_9 a0_10 a0_11 a0_12 a0_13 a0_14 a0_15 a0_16 a0_17 a0_18 a0_19 a0_20 a1_0 a1_1 a1_2 a1_3 a1_4 a1_5 a1_6 a1_7 a1_8 a1_9 a1_10 a1_11 a1_12 a1_13 a1_14 a1_15 a1_16 a1_17 a1_18 a1_19 a1_20)) else (spec_RuleCovers.j0 k true a0_0 a0_1 a0_2 a0_3 a0_4 a0_5 a0_6 a0_7 a0_8 a0_9 a0_10 a0_11 a0_12 a0_13 a0_14 a0_15 a0_16 a0_17 a0_18 a0_19 a0_20 a1_0 a1_1 a1_2 a1_3 a1_4 a1_5 a1_6 a1_7 a1_8 a1_9 a1_10 a1_11 a1_12 a1_13 a1_14 a1_15 a1_16 a1_17 a1_18 a1_19 a1_20))) else (spec_RuleCovers.j0 k true a0_0 a0_1 a0_2 a0_3 a0_4 a0_5 a0_6 a0_7 a0_8 a0_9 a0_10 a0_11 a0_12 a0_13 a0_14 a0_15 a0_16 a0_17 a0_18 a0_19 a0_20 a1_0 a1_1 a1_2 a1_3 a1_4 a1_5 a1_6 a1_7 a1_8 a1_9 a1_10 a1_11 a1_12 a1_13 a1_14 a1_15 a1_16 a1_17 a1_18 a1_19 a1_20))) else (spec_RuleCovers.j0 k true a0_0 a0_1 a0_2 a0_3 a0_4 a0_5 a0_6 a0_7 a0_8 a0_9 a0_10 a0_11 a0_12 a0_13 a0_14 a0_15 a0_16 a0_17 a0_18 a0_19 a0_20 a1_0 a1_1 a1_2 a1_3 a1_4 a1_5 a1_6 a1_7 a1_8 a1_9 a1_10 a1_11 a1_12 a1_13 a1_14 a1_15 a1_16 a1_17 a1_18 a1_19 a1_20))) = some r := h
 clear h
 have HC3 := Gv.a0 H
 clear H
 go_enter Try.func37, Try.ntmps37
 go_upto_region 1 with (first | ((with_reducible refine gate_dst (N := 2) rfl ?_); refine box_event ?hg (N := 2) ?hd (cs := #[.int .i64 a0_0, .int .i64 a0_1, .int .i64 a0_2, .int .i64 a0_3, .int .i64 a0_4, .int .i64 a0_5, .int .i64 a0_6, .int .i64 a0_7, .int .i64 a0_8, .int .i64 a0_9, .int .i64 a0_10, .int .i64 a0_11, .int .i64 a0_12, .int .i64 a0_13, .int .i64 a0_14, .int .i64 a0_15, .int .i64 a0_16, .int .i64 a0_17, .int .i64 a0_18, .int .i64 a0_19, .int .i64 a0_20]) (t := 55) ?hr ?_; (case hd => rfl); (case hg => rfl); (case hr => first | (go_simp; done) | (go_simp; rfl)); intro gb278 hg w4 hbox hb; have n0_ := Gv.a0 (below_step Gv.bw hb); have n1_ := Gv.a0 (hbox); have n2_ := Gv.a0 ((Gv.ble hg Gv.bw : w.heap.size ≤ gb278)); have n3_ := Gv.a0 ((Gv.ble hg Gv.bw : w.heap.size ≤ gb278)); clear HB; have HB := n0_; have BK278 := n1_; have GW278 := n2_; have GE278 := n3_; clear n0_ n1_ n2_ n3_; clear hb hbox hg) | ((with_reducible refine gate_store (t := 55) (p := 2) rfl ?_); refine Gv.store_event rfl rfl rfl rfl rfl (Gv.kb BK278.out) (by kernel_rfl) rfl (by simp; and_intros <;> rfl) ?_; intro w4s hbox hoth hbel; have n0_ := Gv.a0 (hbox); have n1_ := Gv.a0 (hbel w Gv.bw GE278.out); clear BK278 HB; have BK278 := n0_; have HB := n1_; clear n0_ n1_ hbox hoth hbel) | ((with_reducible refine gate_dst (N := 3) rfl ?_); refine box_event ?hg (N := 3) ?hd (cs := #[.int .i64 a1_0, .int .i64 a1_1, .int .i64 a1_2, .int .i64 a1_3, .int .i64 a1_4, .int .i64 a1_5, .int .i64 a1_6, .int .i64 a1_7, .int .i64 a1_8, .int .i64 a1_9, .int .i64 a1_10, .int .i64 a1_11, .int .i64 a1_12, .int .i64 a1_13, .int .i64 a1_14, .int .i64 a1_15, .int .i64 a1_16, .int .i64 a1_17, .int .i64 a1_18, .int .i64 a1_19, .int .i64 a1_20]) (t := 55) ?hr ?_; (case hd => rfl); (case hg => rfl); (case hr => first | (go_simp; done) | (go_simp; rfl)); intro gb279 hg w5 hbox hb; have n0_ := Gv.a0 (Gv.bb BK278.out hb); have n1_ := Gv.a0 (below_step Gv.bw hb); have n2_ := Gv.a0 (hbox); have n3_ := Gv.a0 ((Gv.ble hg Gv.bw : w.heap.size ≤ gb279)); have n4_ := Gv.a0 ((Gv.ble hg Gv.bw : w.heap.size ≤ gb279)); have n5_ := Gv.a0 ((Gv.nlt hg (Gv.kb BK278.out) : gb278 ≠ gb279)); have n6_ := Gv.a0 ((Gv.ngt hg (Gv.kb BK278.out) : gb279 ≠ gb278)); clear BK278; clear HB; have BK278 := n0_; have HB := n1_; have BK279 := n2_; have GW279 := n3_; have GE279 := n4_; have NB278_279 := n5_; have NB279_278 := n6_; clear n0_ n1_ n2_ n3_ n4_ n5_ n6_; clear hb hbox hg) | ((with_reducible refine gate_store (t := 55) (p := 3) rfl ?_); refine Gv.store_event rfl rfl rfl rfl rfl (Gv.kb BK279.out) (by kernel_rfl) rfl (by simp; and_intros <;> rfl) ?_; intro w5s hbox hoth hbel; have n0_ := Gv.a0 (hbox); have n1_ := Gv.a0 (hbel w Gv.bw GE279.out); have n2_ := Gv.a0 ((hoth gb278 NB278_279.out).trans (Gv.kb BK278.out)); clear BK279 HB BK278; have BK279 := n0_; have HB := n1_; have BK278 := n2_; clear n0_ n1_ n2_ hbox hoth hbel) | ((with_reducible refine Gv.gate_load (t := 55) rfl ?_); (try (refine gate_guard (by rfl) ?_; dsimp only)); refine wpList_load_row rfl 55 _ rfl gb278 rfl 55 _ _ _ (by first | exact Gv.kb0 BK278.out | exact Gv.kb1 (Gv.kb0 BK278.out)) Try.underlying55 rfl (by kernel_rfl) ?_) | ((with_reducible refine Gv.gate_load (t := 55) rfl ?_); (try (refine gate_guard (by rfl) ?_; dsimp only)); refine wpList_load_row rfl 55 _ rfl gb279 rfl 55 _ _ _ (by first | exact Gv.kb0 BK279.out | exact Gv.kb1 (Gv.kb0 BK279.out)) Try.underlying55 rfl (by kernel_rfl) ?_))
 (try simp only [Act.put, List.setIfInBounds_toArray, List.set_cons_zero, List.set_cons_succ])
 go_cut [28] (fun v28 wc => ∃ (kq : Nat) (x28_2 : Bool), v28 = .bool x28_2 ∧ Aside0 (spec_RuleCovers.j0 kq x28_2 a0_0 a0_1 a0_2 a0_3 a0_4 a0_5 a0_6 a0_7 a0_8 a0_9 a0_10 a0_11 a0_12 a0_13 a0_14 a0_15 a0_16 a0_17 a0_18 a0_19 a0_20 a1_0 a1_1 a1_2 a1_3 a1_4 a1_5 a1_6 a1_7 a1_8 a1_9 a1_10 a1_11 a1_12 a1_13 a1_14 a1_15 a1_16 a1_17 a1_18 a1_19 a1_20 = some r) ∧ Aside0 (kq ≤ k) ∧ Aside0 (wc.heap[gb278]? = some (.cells #[.int .i64 a0_0, .int .i64 a0_1, .int .i64 a0_2, .int .i64 a0_3, .int .i64 a0_4, .int .i64 a0_5, .int .i64 a0_6, .int .i64 a0_7, .int .i64 a0_8, .int .i64 a0_9, .int .i64 a0_10, .int .i64 a0_11, .int .i64 a0_12, .int .i64 a0_13, .int .i64 a0_14, .int .i64 a0_15, .int .i64 a0_16, .int .i64 a0_17, .int .i64 a0_18, .int .i64 a0_19, .int .i64 a0_20] 55 (0, 0))) ∧ Aside0 (wc.heap[gb279]? = some (.cells #[.int .i64 a1_0, .int .i64 a1_1, .int .i64 a1_2, .int .i64 a1_3, .int .i64 a1_4, .int .i64 a1_5, .int .i64 a1_6, .int .i64 a1_7, .int .i64 a1_8, .int .i64 a1_9, .int .i64 a1_10, .int .i64 a1_11, .int .i64 a1_12, .int .i64 a1_13, .int .i64 a1_14, .int .i64 a1_15, .int .i64 a1_16, .int .i64 a1_17, .int .i64 a1_18, .int .i64 a1_19, .int .i64 a1_20] 55 (0, 0))) ∧ Aside0 (Below w.heap.size w wc))
 case first =>
  have H := HC3.out
  clear HC3
  replace H := Option.bind_eq_some_iff.mp H
  obtain ⟨t280, A60, H⟩ := H
  replace H : (if t280 = true then ((spec_RuleOk.f k a1_0 a1_1 a1_2 a1_3 a1_4 a1_5 a1_6 a1_7 a1_8 a1_9 a1_10 a1_11 a1_12 a1_13 a1_14 a1_15 a1_16 a1_17 a1_18 a1_19 a1_20).bind fun t281 => (if t281 = true then ((spec_PrefixIn.f k a1_1 a1_2 a1_3 a1_4 a1_5 a1_6 a0_1 a0_2 a0_3 a0_4 a0_5 a0_6).bind fun t282 => (if t282 = true then ((spec_PrefixIn.f k a1_7 a1_8 a1_9 a1_10 a1_11 a1_12 a0_7 a0_8 a0_9 a0_10 a0_11 a0_12).bind fun t283 => (spec_RuleCovers.j0 k (!t283) a0_0 a0_1 a0_2 a0_3 a0_4 a0_5 a0_6 a0_7 a0_8 a0_9 a0_10 a0_11 a0_12 a0_13 a0_14 a0_15 a0_16 a0_17 a0_18 a0_19 a0_20 a1_0 a1_1 a1_2 a1_3 a1_4 a1_5 a1_6 a1_7 a1_8 a1_9 a1_10 a1_11 a1_12 a1_13 a1_14 a1_15 a1_16 a1_17 a1_18 a1_19 a1_20)) else (spec_RuleCovers.j0 k true a0_0 a0_1 a0_2 a0_3 a0_4 a0_5 a0_6 a0_7 a0_8 a0_9 a0_10 a0_11 a0_12 a0_13 a0_14 a0_15 a0_16 a0_17 a0_18 a0_19 a0_20 a1_0 a1_1 a1_2 a1_3 a1_4 a1_5 a1_6 a1_7 a1_8 a1_9 a1_10 a1_11 a1_12 a1_13 a1_14 a1_15 a1_16 a1_17 a1_18 a1_19 a1_20))) else (spec_RuleCovers.j0 k true a0_0 a0_1 a0_2 a0_3 a0_4 a0_5 a0_6 a0_7 a0_8 a0_9 a0_10 a0_11 a0_12 a0_13 a0_14 a0_15 a0_16 a0_17 a0_18 a0_19 a0_20 a1_0 a1_1 a1_2 a1_3 a1_4 a1_5 a1_6 a1_7 a1_8 a1_9 a1_10 a1_11 a1_12 a1_13 a1_14 a1_15 a1_16 a1_17 a1_18 a1_19 a1_20))) else (spec_RuleCovers.j0 k true a0_0 a0_1 a0_2 a0_3 a0_4 a0_5 a0_6 a0_7 a0_8 a0_9 a0_10 a0_11 a0_12 a0_13 a0_14 a0_15 a0_16 a0_17 a0_18 a0_19 a0_20 a1_0 a1_1 a1_2 a1_3 a1_4 a1_5 a1_6 a1_7 a1_8 a1_9 a1_10 a1_11 a1_12 a1_13 a1_14 a1_15 a1_16 a1_17 a1_18 a1_19 a1_20)) = some r := H
  have A6 := Gv.a0 A60
  clear A60
  by_cases c7 : t280 = true
  ·subst c7
   have H1 : ((spec_RuleOk.f k a1_0 a1_1 a1_2 a1_3 a1_4 a1_5 a1_6 a1_7 a1_8 a1_9 a1_10 a1_11 a1_12 a1_13 a1_14 a1_15 a1_16 a1_17 a1_18 a1_19 a1_20).bind fun t281 => (if t281 = true then ((spec_PrefixIn.f k a1_1 a1_2 a1_3 a1_4 a1_5 a1_6 a0_1 a0_2 a0_3 a0_4 a0_5 a0_6).bind fun t282 => (if t282 = true then ((spec_PrefixIn.f k a1_7 a1_8 a1_9 a1_10 a1_11 a1_12 a0_7 a0_8 a0_9 a0_10 a0_11 a0_12).bind fun t283 => (spec_RuleCovers.j0 k (!t283) a0_0 a0_1 a0_2 a0_3 a0_4 a0_5 a0_6 a0_7 a0_8 a0_9 a0_10 a0_11 a0_12 a0_13 a0_14 a0_15 a0_16 a0_17 a0_18 a0_19 a0_20 a1_0 a1_1 a1_2 a1_3 a1_4 a1_5 a1_6 a1_7 a1_8 a1_9 a1_10 a1_11 a1_12 a1_13 a1_14 a1_15 a1_16 a1_17 a1_18 a1_19 a1_20)) else (spec_RuleCovers.j0 k true a0_0 a0_1 a0_2 a0_3 a0_4 a0_5 a0_6 a0_7 a0_8 a0_9 a0_10 a0_11 a0_12 a0_13 a0_14 a0_15 a0_16 a0_17 a0_18 a0_19 a0_20 a1_0 a1_1 a1_2 a1_3 a1_4 a1_5 a1_6 a1_7 a1_8 a1_9 a1_10 a1_11 a1_12 a1_13 a1_14 a1_15 a1_16 a1_17 a1_18 a1_19 a1_20))) else (spec_RuleCovers.j0 k true a0_0 a0_1 a0_2 a0_3 a0_4 a0_5 a0_6 a0_7 a0_8 a0_9 a0_10 a0_11 a0_12 a0_13 a0_14 a0_15 a0_16 a0_17 a0_18 a0_19 a0_20 a1_0 a1_1 a1_2 a1_3 a1_4 a1_5 a1_6 a1_7 a1_8 a1_9 a1_10 a1_11 a1_12 a1_13 a1_14 a1_15 a1_16 a1_17 a1_18 a1_19 a1_20))) = some r := by rw [if_pos rfl] at H; exact H
   clear H
   have H := H1
   clear H1
   replace H := Option.bind_eq_some_iff.mp H
   obtain ⟨t281, A80, H⟩ := H
   replace H : (if t281 = true then ((spec_PrefixIn.f k a1_1 a1_2 a1_3 a1_4 a1_5 a1_6 a0_1 a0_2 a0_3 a0_4 a0_5 a0_6).bind fun t282 => (if t282 = true then ((spec_PrefixIn.f k a1_7 a1_8 a1_9 a1_10 a1_11 a1_12 a0_7 a0_8 a0_9 a0_10 a0_11 a0_12).bind fun t283 => (spec_RuleCovers.j0 k (!t283) a0_0 a0_1 a0_2 a0_3 a0_4 a0_5 a0_6 a0_7 a0_8 a0_9 a0_10 a0_11 a0_12 a0_13 a0_14 a0_15 a0_16 a0_17 a0_18 a0_19 a0_20 a1_0 a1_1 a1_2 a1_3 a1_4 a1_5 a1_6 a1_7 a1_8 a1_9 a1_10 a1_11 a1_12 a1_13 a1_14 a1_15 a1_16 a1_17 a1_18 a1_19 a1_20)) else (spec_RuleCovers.j0 k true a0_0 a0_1 a0_2 a0_3 a0_4 a0_5 a0_6 a0_7 a0_8 a0_9 a0_10 a0_11 a0_12 a0_13 a0_14 a0_15 a0_16 a0_17 a0_18 a0_19 a0_20 a1_0 a1_1 a1_2 a1_3 a1_4 a1_5 a1_6 a1_7 a1_8 a1_9 a1_10 a1_11 a1_12 a1_13 a1_14 a1_15 a1_16 a1_17 a1_18 a1_19 a1_20))) else (spec_RuleCovers.j0 k true a0_0 a0_1 a0_2 a0_3 a0_4 a0_5 a0_6 a0_7 a0_8 a0_9 a0_10 a0_11 a0_12 a0_13 a0_14 a0_15 a0_16 a0_17 a0_18 a0_19 a0_20 a1_0 a1_1 a1_2 a1_3 a1_4 a1_5 a1_6 a1_7 a1_8 a1_9 a1_10 a1_11 a1_12 a1_13 a1_14 a1_15 a1_16 a1_17 a1_18 a1_19 a1_20)) = some r := H
   have A8 := Gv.a0 A80
   clear A80
   by_cases c9 : t281 = true
   ·subst c9
    have H1 : ((spec_PrefixIn.f k a1_1 a1_2 a1_3 a1_4 a1_5 a1_6 a0_1 a0_2 a0_3 a0_4 a0_5 a0_6).bind fun t282 => (if t282 = true then ((spec_PrefixIn.f k a1_7 a1_8 a1_9 a1_10 a1_11 a1_12 a0_7 a0_8 a0_9 a0_10 a0_11 a0_12).bind fun t283 => (spec_RuleCovers.j0 k (!t283) a0_0 a0_1 a0_2 a0_3 a0_4 a0_5 a0_6 a0_7 a0_8 a0_9 a0_10 a0_11 a0_12 a0_13 a0_14 a0_15 a0_16 a0_17 a0_18 a0_19 a0_20 a1_0 a1_1 a1_2 a1_3 a1_4 a1_5 a1_6 a1_7 a1_8 a1_9 a1_10 a1_11 a1_12 a1_13 a1_14 a1_15 a1_16 a1_17 a1_18 a1_19 a1_20)) else (spec_RuleCovers.j0 k true a0_0 a0_1 a0_2 a0_3 a0_4 a0_5 a0_6 a0_7 a0_8 a0_9 a0_10 a0_11 a0_12 a0_13 a0_14 a0_15 a0_16 a0_17 a0_18 a0_19 a0_20 a1_0 a1_1 a1_2 a1_3 a1_4 a1_5 a1_6 a1_7 a1_8 a1_9 a1_10 a1_11 a1_12 a1_13 a1_14 a1_15 a1_16 a1_17 a1_18 a1_19 a1_20))) = some r := by rw [if_pos rfl] at H; exact H
    clear H
    have H := H1
    clear H1
    replace H := Option.bind_eq_some_iff.mp H
    obtain ⟨t282, A100, H⟩ := H
    replace H : (if t282 = true then ((spec_PrefixIn.f k a1_7 a1_8 a1_9 a1_10 a1_11 a1_12 a0_7 a0_8 a0_9 a0_10 a0_11 a0_12).bind fun t283 => (spec_RuleCovers.j0 k (!t283) a0_0 a0_1 a0_2 a0_3 a0_4 a0_5 a0_6 a0_7 a0_8 a0_9 a0_10 a0_11 a0_12 a0_13 a0_14 a0_15 a0_16 a0_17 a0_18 a0_19 a0_20 a1_0 a1_1 a1_2 a1_3 a1_4 a1_5 a1_6 a1_7 a1_8 a1_9 a1_10 a1_11 a1_12 a1_13 a1_14 a1_15 a1_16 a1_17 a1_18 a1_19 a1_20)) else (spec_RuleCovers.j0 k true a0_0 a0_1 a0_2 a0_3 a0_4 a0_5 a0_6 a0_7 a0_8 a0_9 a0_10 a0_11 a0_12 a0_13 a0_14 a0_15 a0_16 a0_17 a0_18 a0_19 a0_20 a1_0 a1_1 a1_2 a1_3 a1_4 a1_5 a1_6 a1_7 a1_8 a1_9 a1_10 a1_11 a1_12 a1_13 a1_14 a1_15 a1_16 a1_17 a1_18 a1_19 a1_20)) = some r := H
    have A10 := Gv.a0 A100
    clear A100
    by_cases c11 : t282 = true
    ·subst c11
     have H1 : ((spec_PrefixIn.f k a1_7 a1_8 a1_9 a1_10 a1_11 a1_12 a0_7 a0_8 a0_9 a0_10 a0_11 a0_12).bind fun t283 => (spec_RuleCovers.j0 k (!t283) a0_0 a0_1 a0_2 a0_3 a0_4 a0_5 a0_6 a0_7 a0_8 a0_9 a0_10 a0_11 a0_12 a0_13 a0_14 a0_15 a0_16 a0_17 a0_18 a0_19 a0_20 a1_0 a1_1 a1_2 a1_3 a1_4 a1_5 a1_6 a1_7 a1_8 a1_9 a1_10 a1_11 a1_12 a1_13 a1_14 a1_15 a1_16 a1_17 a1_18 a1_19 a1_20)) = some r := by rw [if_pos rfl] at H; exact H
     clear H
     have H := H1
     clear H1
     replace H := Option.bind_eq_some_iff.mp H
     obtain ⟨t283, A120, H⟩ := H
     replace H : (spec_RuleCovers.j0 k (!t283) a0_0 a0_1 a0_2 a0_3 a0_4 a0_5 a0_6 a0_7 a0_8 a0_9 a0_10 a0_11 a0_12 a0_13 a0_14 a0_15 a0_16 a0_17 a0_18 a0_19 a0_20 a1_0 a1_1 a1_2 a1_3 a1_4 a1_5 a1_6 a1_7 a1_8 a1_9 a1_10 a1_11 a1_12 a1_13 a1_14 a1_15 a1_16 a1_17 a1_18 a1_19 a1_20) = some r := H
     have A12 := Gv.a0 A120
     clear A120
     have H' := Gv.a0 H
     clear H
     have hnb13 := NB278_279.out
     have hnc13 := NB279_278.out
     obtain ⟨hcz14_0, hcz14_1, hcz14_2, hcz14_3, hcz14_4, hcz14_5, hcz14_6, hcz14_7, hcz14_8, hcz14_9, hcz14_10, hcz14_11, hcz14_12, hcz14_13, hcz14_14, hcz14_15, hcz14_16, hcz14_17, hcz14_18, hcz14_19, hcz14_20⟩ := Gv.c21 BK278.out
     go_wp2_with (first | ((with_reducible refine gate_callee (f := 28) rfl ?_); refine goesL_ (some 6) rfl rfl Try.func28 (by kernel_rfl) rfl #[.agg #[.int .i64 a0_0, .int .i64 a0_1, .int .i64 a0_2, .int .i64 a0_3, .int .i64 a0_4, .int .i64 a0_5, .int .i64 a0_6, .int .i64 a0_7, .int .i64 a0_8, .int .i64 a0_9, .int .i64 a0_10, .int .i64 a0_11, .int .i64 a0_12, .int .i64 a0_13, .int .i64 a0_14, .int .i64 a0_15, .int .i64 a0_16, .int .i64 a0_17, .int .i64 a0_18, .int .i64 a0_19, .int .i64 a0_20]] rfl Gv.lm ?_; (with_reducible refine (spec_RuleOk.calls k a0_0 a0_1 a0_2 a0_3 a0_4 a0_5 a0_6 a0_7 a0_8 a0_9 a0_10 a0_11 a0_12 a0_13 a0_14 a0_15 a0_16 a0_17 a0_18 a0_19 a0_20 true _ A6.out).mono ?_); rintro e w15 ⟨rfl, hb⟩; refine ⟨_, rfl, ?_⟩; have n0_ := Gv.a0 (Gv.bb BK278.out hb); have n1_ := Gv.a0 (Gv.bb BK279.out hb); have n2_ := Gv.a0 (below_step Gv.bw hb); clear BK278; clear BK279; clear HB; have BK278 := n0_; have BK279 := n1_; have HB := n2_; clear n0_ n1_ n2_; (try clear hb); (try clear hb2); (try clear hk); (try clear hi); obtain ⟨hcz16_0, hcz16_1, hcz16_2, hcz16_3, hcz16_4, hcz16_5, hcz16_6, hcz16_7, hcz16_8, hcz16_9, hcz16_10, hcz16_11, hcz16_12, hcz16_13, hcz16_14, hcz16_15, hcz16_16, hcz16_17, hcz16_18, hcz16_19, hcz16_20⟩ := Gv.c21 BK279.out) | (go_at_call 28; (with_reducible refine (spec_RuleOk.calls k a1_0 a1_1 a1_2 a1_3 a1_4 a1_5 a1_6 a1_7 a1_8 a1_9 a1_10 a1_11 a1_12 a1_13 a1_14 a1_15 a1_16 a1_17 a1_18 a1_19 a1_20 true _ A8.out).mono ?_); rintro e w17 ⟨rfl, hb⟩; have n0_ := Gv.a0 (Gv.bb BK278.out hb); have n1_ := Gv.a0 (Gv.bb BK279.out hb); have n2_ := Gv.a0 (below_step Gv.bw hb); clear BK278; clear BK279; clear HB; have BK278 := n0_; have BK279 := n1_; have HB := n2_; clear n0_ n1_ n2_; (try clear hb); (try clear hb2); (try clear hk); (try clear hi); obtain ⟨hcz18_0, hcz18_1, hcz18_2, hcz18_3, hcz18_4, hcz18_5, hcz18_6, hcz18_7, hcz18_8, hcz18_9, hcz18_10, hcz18_11, hcz18_12, hcz18_13, hcz18_14, hcz18_15, hcz18_16, hcz18_17, hcz18_18, hcz18_19, hcz18_20⟩ := Gv.c21 BK279.out; obtain ⟨hcz19_0, hcz19_1, hcz19_2, hcz19_3, hcz19_4, hcz19_5, hcz19_6, hcz19_7, hcz19_8, hcz19_9, hcz19_10, hcz19_11, hcz19_12, hcz19_13, hcz19_14, hcz19_15, hcz19_16, hcz19_17, hcz19_18, hcz19_19, hcz19_20⟩ := Gv.c21 BK278.out) | (go_at_call 56; (with_reducible refine (spec_PrefixIn.calls k a1_1 a1_2 a1_3 a1_4 a1_5 a1_6 a0_1 a0_2 a0_3 a0_4 a0_5 a0_6 true _ A10.out).mono ?_); rintro e w20 ⟨rfl, hb⟩; have n0_ := Gv.a0 (Gv.bb BK278.out hb); have n1_ := Gv.a0 (Gv.bb BK279.out hb); have n2_ := Gv.a0 (below_step Gv.bw hb); clear BK278; clear BK279; clear HB; have BK278 := n0_; have BK279 := n1_; have HB := n2_; clear n0_ n1_ n2_; (try clear hb); (try clear hb2); (try clear hk); (try clear hi); obtain ⟨hcz21_0, hcz21_1, hcz21_2, hcz21_3, hcz21_4, hcz21_5, hcz21_6, hcz21_7, hcz21_8, hcz21_9, hcz21_10, hcz21_11, hcz21_12, hcz21_13, hcz21_14, hcz21_15, hcz21_16, hcz21_17, hcz21_18, hcz21_19, hcz21_20⟩ := Gv.c21 BK279.out; obtain ⟨hcz22_0, hcz22_1, hcz22_2, hcz22_3, hcz22_4, hcz22_5, hcz22_6, hcz22_7, hcz22_8, hcz22_9, hcz22_10, hcz22_11, hcz22_12, hcz22_13, hcz22_14, hcz22_15, hcz22_16, hcz22_17, hcz22_18, hcz22_19, hcz22_20⟩ := Gv.c21 BK278.out) | (go_at_call 56; (with_reducible refine (spec_PrefixIn.calls k a1_7 a1_8 a1_9 a1_10 a1_11 a1_12 a0_7 a0_8 a0_9 a0_10 a0_11 a0_12 t283 _ A12.out).mono ?_); rintro e w23 ⟨rfl, hb⟩; have n0_ := Gv.a0 (Gv.bb BK278.out hb); have n1_ := Gv.a0 (Gv.bb BK279.out hb); have n2_ := Gv.a0 (below_step Gv.bw hb); clear BK278; clear BK279; clear HB; have BK278 := n0_; have BK279 := n1_; have HB := n2_; clear n0_ n1_ n2_; (try clear hb); (try clear hb2); (try clear hk); (try clear hi)) | ((with_reducible refine Gv.gate_load (t := 55) rfl ?_); (try (refine gate_guard (by rfl) ?_; dsimp only)); refine wpList_load_row rfl 55 _ rfl gb278 rfl 55 _ _ _ (by first | exact Gv.kb0 BK278.out | exact Gv.kb1 (Gv.kb0 BK278.out)) Try.underlying55 rfl (by kernel_rfl) ?_) | ((with_reducible refine Gv.gate_load (t := 55) rfl ?_); (try (refine gate_guard (by rfl) ?_; dsimp only)); refine wpList_load_row rfl 55 _ rfl gb279 rfl 55 _ _ _ (by first | exact Gv.kb0 BK279.out | exact Gv.kb1 (Gv.kb0 BK279.out)) Try.underlying55 rfl (by kernel_rfl) ?_))
     go_meet
     case rel => exact ⟨_, (!t283), Gv.rq, H', ⟨by first | omega | exact Nat.le_refl _⟩, ⟨by (with_reducible repeat (first | refine blk_drewN ?_ _ | refine blk_drew ?_ | refine blk_alloc ?_ _)); exact BK278.out⟩, ⟨by (with_reducible repeat (first | refine blk_drewN ?_ _ | refine blk_drew ?_ | refine blk_alloc ?_ _)); exact BK279.out⟩, ⟨Gv.bw⟩⟩
    ·replace c11 := Bool.eq_false_iff.mpr c11
     subst c11
     have H1 : (spec_RuleCovers.j0 k true a0_0 a0_1 a0_2 a0_3 a0_4 a0_5 a0_6 a0_7 a0_8 a0_9 a0_10 a0_11 a0_12 a0_13 a0_14 a0_15 a0_16 a0_17 a0_18 a0_19 a0_20 a1_0 a1_1 a1_2 a1_3 a1_4 a1_5 a1_6 a1_7 a1_8 a1_9 a1_10 a1_11 a1_12 a1_13 a1_14 a1_15 a1_16 a1_17 a1_18 a1_19 a1_20) = some r := by rw [if_neg (show ¬ (false = true) by decide)] at H; exact H
     clear H
     have H := H1
     clear H1
     have H' := Gv.a0 H
     clear H
     have hnb24 := NB278_279.out
     have hnc24 := NB279_278.out
     obtain ⟨hcz25_0, hcz25_1, hcz25_2, hcz25_3, hcz25_4, hcz25_5, hcz25_6, hcz25_7, hcz25_8, hcz25_9, hcz25_10, hcz25_11, hcz25_12, hcz25_13, hcz25_14, hcz25_15, hcz25_16, hcz25_17, hcz25_18, hcz25_19, hcz25_20⟩ := Gv.c21 BK278.out
     go_wp2_with (first | ((with_reducible refine gate_callee (f := 28) rfl ?_); refine goesL_ (some 6) rfl rfl Try.func28 (by kernel_rfl) rfl #[.agg #[.int .i64 a0_0, .int .i64 a0_1, .int .i64 a0_2, .int .i64 a0_3, .int .i64 a0_4, .int .i64 a0_5, .int .i64 a0_6, .int .i64 a0_7, .int .i64 a0_8, .int .i64 a0_9, .int .i64 a0_10, .int .i64 a0_11, .int .i64 a0_12, .int .i64 a0_13, .int .i64 a0_14, .int .i64 a0_15, .int .i64 a0_16, .int .i64 a0_17, .int .i64 a0_18, .int .i64 a0_19, .int .i64 a0_20]] rfl Gv.lm ?_; (with_reducible refine (spec_RuleOk.calls k a0_0 a0_1 a0_2 a0_3 a0_4 a0_5 a0_6 a0_7 a0_8 a0_9 a0_10 a0_11 a0_12 a0_13 a0_14 a0_15 a0_16 a0_17 a0_18 a0_19 a0_20 true _ A6.out).mono ?_); rintro e w26 ⟨rfl, hb⟩; refine ⟨_, rfl, ?_⟩; have n0_ := Gv.a0 (Gv.bb BK278.out hb); have n1_ := Gv.a0 (Gv.bb BK279.out hb); have n2_ := Gv.a0 (below_step Gv.bw hb); clear BK278; clear BK279; clear HB; have BK278 := n0_; have BK279 := n1_; have HB := n2_; clear n0_ n1_ n2_; (try clear hb); (try clear hb2); (try clear hk); (try clear hi); obtain ⟨hcz27_0, hcz27_1, hcz27_2, hcz27_3, hcz27_4, hcz27_5, hcz27_6, hcz27_7, hcz27_8, hcz27_9, hcz27_10, hcz27_11, hcz27_12, hcz27_13, hcz27_14, hcz27_15, hcz27_16, hcz27_17, hcz27_18, hcz27_19, hcz27_20⟩ := Gv.c21 BK279.out) | (go_at_call 28; (with_reducible refine (spec_RuleOk.calls k a1_0 a1_1 a1_2 a1_3 a1_4 a1_5 a1_6 a1_7 a1_8 a1_9 a1_10 a1_11 a1_12 a1_13 a1_14 a1_15 a1_16 a1_17 a1_18 a1_19 a1_20 true _ A8.out).mono ?_); rintro e w28 ⟨rfl, hb⟩; have n0_ := Gv.a0 (Gv.bb BK278.out hb); have n1_ := Gv.a0 (Gv.bb BK279.out hb); have n2_ := Gv.a0 (below_step Gv.bw hb); clear BK278; clear BK279; clear HB; have BK278 := n0_; have BK279 := n1_; have HB := n2_; clear n0_ n1_ n2_; (try clear hb); (try clear hb2); (try clear hk); (try clear hi); obtain ⟨hcz29_0, hcz29_1, hcz29_2, hcz29_3, hcz29_4, hcz29_5, hcz29_6, hcz29_7, hcz29_8, hcz29_9, hcz29_10, hcz29_11, hcz29_12, hcz29_13, hcz29_14, hcz29_15, hcz29_16, hcz29_17, hcz29_18, hcz29_19, hcz29_20⟩ := Gv.c21 BK279.out; obtain ⟨hcz30_0, hcz30_1, hcz30_2, hcz30_3, hcz30_4, hcz30_5, hcz30_6, hcz30_7, hcz30_8, hcz30_9, hcz30_10, hcz30_11, hcz30_12, hcz30_13, hcz30_14, hcz30_15, hcz30_16, hcz30_17, hcz30_18, hcz30_19, hcz30_20⟩ := Gv.c21 BK278.out) | (go_at_call 56; (with_reducible refine (spec_PrefixIn.calls k a1_1 a1_2 a1_3 a1_4 a1_5 a1_6 a0_1 a0_2 a0_3 a0_4 a0_5 a0_6 false _ A10.out).mono ?_); rintro e w31 ⟨rfl, hb⟩; have n0_ := Gv.a0 (Gv.bb BK278.out hb); have n1_ := Gv.a0 (Gv.bb BK279.out hb); have n2_ := Gv.a0 (below_step Gv.bw hb); clear BK278; clear BK279; clear HB; have BK278 := n0_; have BK279 := n1_; have HB := n2_; clear n0_ n1_ n2_; (try clear hb); (try clear hb2); (try clear hk); (try clear hi)) | ((with_reducible refine Gv.gate_load (t := 55) rfl ?_); (try (refine gate_guard (by rfl) ?_; dsimp only)); refine wpList_load_row rfl 55 _ rfl gb278 rfl 55 _ _ _ (by first | exact Gv.kb0 BK278.out | exact Gv.kb1 (Gv.kb0 BK278.out)) Try.underlying55 rfl (by kernel_rfl) ?_) | ((with_reducible refine Gv.gate_load (t := 55) rfl ?_); (try (refine gate_guard (by rfl) ?_; dsimp only)); refine wpList_load_row rfl 55 _ rfl gb279 rfl 55 _ _ _ (by first | exact Gv.kb0 BK279.out | exact Gv.kb1 (Gv.kb0 BK279.out)) Try.underlying55 rfl (by kernel_rfl) ?_))
     go_meet
     case rel => exact ⟨_, (true), Gv.rq, H', ⟨by first | omega | exact Nat.le_refl _⟩, ⟨by (with_reducible repeat (first | refine blk_drewN ?_ _ | refine blk_drew ?_ | refine blk_alloc ?_ _)); exact BK278.out⟩, ⟨by (with_reducible repeat (first | refine blk_drewN ?_ _ | refine blk_drew ?_ | refine blk_alloc ?_ _)); exact BK279.out⟩, ⟨Gv.bw⟩⟩
   ·replace c9 := Bool.eq_false_iff.mpr c9
    subst c9
    have H1 : (spec_RuleCovers.j0 k true a0_0 a0_1 a0_2 a0_3 a0_4 a0_5 a0_6 a0_7 a0_8 a0_9 a0_10 a0_11 a0_12 a0_13 a0_14 a0_15 a0_16 a0_17 a0_18 a0_19 a0_20 a1_0 a1_1 a1_2 a1_3 a1_4 a1_5 a1_6 a1_7 a1_8 a1_9 a1_10 a1_11 a1_12 a1_13 a1_14 a1_15 a1_16 a1_17 a1_18 a1_19 a1_20) = some r := by rw [if_neg (show ¬ (false = true) by decide)] at H; exact H
    clear H
    have H := H1
    clear H1
    have H' := Gv.a0 H
    clear H
    have hnb32 := NB278_279.out
    have hnc32 := NB279_278.out
    obtain ⟨hcz33_0, hcz33_1, hcz33_2, hcz33_3, hcz33_4, hcz33_5, hcz33_6, hcz33_7, hcz33_8, hcz33_9, hcz33_10, hcz33_11, hcz33_12, hcz33_13, hcz33_14, hcz33_15, hcz33_16, hcz33_17, hcz33_18, hcz33_19, hcz33_20⟩ := Gv.c21 BK278.out
    go_wp2_with (first | ((with_reducible refine gate_callee (f := 28) rfl ?_); refine goesL_ (some 6) rfl rfl Try.func28 (by kernel_rfl) rfl #[.agg #[.int .i64 a0_0, .int .i64 a0_1, .int .i64 a0_2, .int .i64 a0_3, .int .i64 a0_4, .int .i64 a0_5, .int .i64 a0_6, .int .i64 a0_7, .int .i64 a0_8, .int .i64 a0_9, .int .i64 a0_10, .int .i64 a0_11, .int .i64 a0_12, .int .i64 a0_13, .int .i64 a0_14, .int .i64 a0_15, .int .i64 a0_16, .int .i64 a0_17, .int .i64 a0_18, .int .i64 a0_19, .int .i64 a0_20]] rfl Gv.lm ?_; (with_reducible refine (spec_RuleOk.calls k a0_0 a0_1 a0_2 a0_3 a0_4 a0_5 a0_6 a0_7 a0_8 a0_9 a0_10 a0_11 a0_12 a0_13 a0_14 a0_15 a0_16 a0_17 a0_18 a0_19 a0_20 true _ A6.out).mono ?_); rintro e w34 ⟨rfl, hb⟩; refine ⟨_, rfl, ?_⟩; have n0_ := Gv.a0 (Gv.bb BK278.out hb); have n1_ := Gv.a0 (Gv.bb BK279.out hb); have n2_ := Gv.a0 (below_step Gv.bw hb); clear BK278; clear BK279; clear HB; have BK278 := n0_; have BK279 := n1_; have HB := n2_; clear n0_ n1_ n2_; (try clear hb); (try clear hb2); (try clear hk); (try clear hi); obtain ⟨hcz35_0, hcz35_1, hcz35_2, hcz35_3, hcz35_4, hcz35_5, hcz35_6, hcz35_7, hcz35_8, hcz35_9, hcz35_10, hcz35_11, hcz35_12, hcz35_13, hcz35_14, hcz35_15, hcz35_16, hcz35_17, hcz35_18, hcz35_19, hcz35_20⟩ := Gv.c21 BK279.out) | (go_at_call 28; (with_reducible refine (spec_RuleOk.calls k a1_0 a1_1 a1_2 a1_3 a1_4 a1_5 a1_6 a1_7 a1_8 a1_9 a1_10 a1_11 a1_12 a1_13 a1_14 a1_15 a1_16 a1_17 a1_18 a1_19 a1_20 false _ A8.out).mono ?_); rintro e w36 ⟨rfl, hb⟩; have n0_ := Gv.a0 (Gv.bb BK278.out hb); have n1_ := Gv.a0 (Gv.bb BK279.out hb); have n2_ := Gv.a0 (below_step Gv.bw hb); clear BK278; clear BK279; clear HB; have BK278 := n0_; have BK279 := n1_; have HB := n2_; clear n0_ n1_ n2_; (try clear hb); (try clear hb2); (try clear hk); (try clear hi)) | ((with_reducible refine Gv.gate_load (t := 55) rfl ?_); (try (refine gate_guard (by rfl) ?_; dsimp only)); refine wpList_load_row rfl 55 _ rfl gb278 rfl 55 _ _ _ (by first | exact Gv.kb0 BK278.out | exact Gv.kb1 (Gv.kb0 BK278.out)) Try.underlying55 rfl (by kernel_rfl) ?_) | ((with_reducible refine Gv.gate_load (t := 55) rfl ?_); (try (refine gate_guard (by rfl) ?_; dsimp only)); refine wpList_load_row rfl 55 _ rfl gb279 rfl 55 _ _ _ (by first | exact Gv.kb0 BK279.out | exact Gv.kb1 (Gv.kb0 BK279.out)) Try.underlying55 rfl (by kernel_rfl) ?_))
    go_meet
    case rel => exact ⟨_, (true), Gv.rq, H', ⟨by first | omega | exact Nat.le_refl _⟩, ⟨by (with_reducible repeat (first | refine blk_drewN ?_ _ | refine blk_drew ?_ | refine blk_alloc ?_ _)); exact BK278.out⟩, ⟨by (with_reducible repeat (first | refine blk_drewN ?_ _ | refine blk_drew ?_ | refine blk_alloc ?_ _)); exact BK279.out⟩, ⟨Gv.bw⟩⟩
  ·replace c7 := Bool.eq_false_iff.mpr c7
   subst c7
   have H1 : (spec_RuleCovers.j0 k true a0_0 a0_1 a0_2 a0_3 a0_4 a0_5 a0_6 a0_7 a0_8 a0_9 a0_10 a0_11 a0_12 a0_13 a0_14 a0_15 a0_16 a0_17 a0_18 a0_19 a0_20 a1_0 a1_1 a1_2 a1_3 a1_4 a1_5 a1_6 a1_7 a1_8 a1_9 a1_10 a1_11 a1_12 a1_13 a1_14 a1_15 a1_16 a1_17 a1_18 a1_19 a1_20) = some r := by rw [if_neg (show ¬ (false = true) by decide)] at H; exact H
   clear H
   have H := H1
   clear H1
   have H' := Gv.a0 H
   clear H
   have hnb37 := NB278_279.out
   have hnc37 := NB279_278.out
   obtain ⟨hcz38_0, hcz38_1, hcz38_2, hcz38_3, hcz38_4, hcz38_5, hcz38_6, hcz38_7, hcz38_8, hcz38_9, hcz38_10, hcz38_11, hcz38_12, hcz38_13, hcz38_14, hcz38_15, hcz38_16, hcz38_17, hcz38_18, hcz38_19, hcz38_20⟩ := Gv.c21 BK278.out
   go_wp2_with (first | ((with_reducible refine gate_callee (f := 28) rfl ?_); refine goesL_ (some 6) rfl rfl Try.func28 (by kernel_rfl) rfl #[.agg #[.int .i64 a0_0, .int .i64 a0_1, .int .i64 a0_2, .int .i64 a0_3, .int .i64 a0_4, .int .i64 a0_5, .int .i64 a0_6, .int .i64 a0_7, .int .i64 a0_8, .int .i64 a0_9, .int .i64 a0_10, .int .i64 a0_11, .int .i64 a0_12, .int .i64 a0_13, .int .i64 a0_14, .int .i64 a0_15, .int .i64 a0_16, .int .i64 a0_17, .int .i64 a0_18, .int .i64 a0_19, .int .i64 a0_20]] rfl Gv.lm ?_; (with_reducible refine (spec_RuleOk.calls k a0_0 a0_1 a0_2 a0_3 a0_4 a0_5 a0_6 a0_7 a0_8 a0_9 a0_10 a0_11 a0_12 a0_13 a0_14 a0_15 a0_16 a0_17 a0_18 a0_19 a0_20 false _ A6.out).mono ?_); rintro e w39 ⟨rfl, hb⟩; refine ⟨_, rfl, ?_⟩; have n0_ := Gv.a0 (Gv.bb BK278.out hb); have n1_ := Gv.a0 (Gv.bb BK279.out hb); have n2_ := Gv.a0 (below_step Gv.bw hb); clear BK278; clear BK279; clear HB; have BK278 := n0_; have BK279 := n1_; have HB := n2_; clear n0_ n1_ n2_; (try clear hb); (try clear hb2); (try clear hk); (try clear hi)) | ((with_reducible refine Gv.gate_load (t := 55) rfl ?_); (try (refine gate_guard (by rfl) ?_; dsimp only)); refine wpList_load_row rfl 55 _ rfl gb278 rfl 55 _ _ _ (by first | exact Gv.kb0 BK278.out | exact Gv.kb1 (Gv.kb0 BK278.out)) Try.underlying55 rfl (by kernel_rfl) ?_) | ((with_reducible refine Gv.gate_load (t := 55) rfl ?_); (try (refine gate_guard (by rfl) ?_; dsimp only)); refine wpList_load_row rfl 55 _ rfl gb279 rfl 55 _ _ _ (by first | exact Gv.kb0 BK279.out | exact Gv.kb1 (Gv.kb0 BK279.out)) Try.underlying55 rfl (by kernel_rfl) ?_))
   go_meet
   case rel => exact ⟨_, (true), Gv.rq, H', ⟨by first | omega | exact Nat.le_refl _⟩, ⟨by (with_reducible repeat (first | refine blk_drewN ?_ _ | refine blk_drew ?_ | refine blk_alloc ?_ _)); exact BK278.out⟩, ⟨by (with_reducible repeat (first | refine blk_drewN ?_ _ | refine blk_drew ?_ | refine blk_alloc ?_ _)); exact BK279.out⟩, ⟨Gv.bw⟩⟩
 case rest =>
  clear HC3
  try clear c1
  try clear c2
  try clear p2
  try clear c3
  try clear c7
  try clear c9
  try clear c11
  try clear c13
  try clear c24
  try clear c28
  try clear c32
  try clear c37
  try clear hcz14_0 hcz14_1
  try clear hcz14_10 hcz14_11 hcz14_12 hcz14_13 hcz14_14 hcz14_15 hcz14_16 hcz14_17 hcz14_18 hcz14_19
  try clear hcz14_2
  try clear hcz14_20
  try clear hcz14_3 hcz14_4 hcz14_5 hcz14_6 hcz14_7 hcz14_8 hcz14_9
  try clear hcz16_0 hcz16_1
  try clear hcz16_10 hcz16_11 hcz16_12 hcz16_13 hcz16_14 hcz16_15 hcz16_16 hcz16_17 hcz16_18 hcz16_19
  try clear hcz16_2
  try clear hcz16_20
  try clear hcz16_3 hcz16_4 hcz16_5 hcz16_6 hcz16_7 hcz16_8 hcz16_9
  try clear hcz18_0 hcz18_1
  try clear hcz18_10 hcz18_11 hcz18_12 hcz18_13 hcz18_14 hcz18_15 hcz18_16 hcz18_17 hcz18_18 hcz18_19
  try clear hcz18_2
  try clear hcz18_20
  try clear hcz18_3 hcz18_4 hcz18_5 hcz18_6 hcz18_7 hcz18_8 hcz18_9
  try clear hcz19_0 hcz19_1
  try clear hcz19_10 hcz19_11 hcz19_12 hcz19_13 hcz19_14 hcz19_15 hcz19_16 hcz19_17 hcz19_18 hcz19_19
  try clear hcz19_2
  try clear hcz19_20
  try clear hcz19_3 hcz19_4 hcz19_5 hcz19_6 hcz19_7 hcz19_8 hcz19_9
  try clear hcz21_0 hcz21_1
  try clear hcz21_10 hcz21_11 hcz21_12 hcz21_13 hcz21_14 hcz21_15 hcz21_16 hcz21_17 hcz21_18 hcz21_19
  try clear hcz21_2
  try clear hcz21_20
  try clear hcz21_3 hcz21_4 hcz21_5 hcz21_6 hcz21_7 hcz21_8 hcz21_9
  try clear hcz22_0 hcz22_1
  try clear hcz22_10 hcz22_11 hcz22_12 hcz22_13 hcz22_14 hcz22_15 hcz22_16 hcz22_17 hcz22_18 hcz22_19
  try clear hcz22_2
  try clear hcz22_20
  try clear hcz22_3 hcz22_4 hcz22_5 hcz22_6 hcz22_7 hcz22_8 hcz22_9
  try clear hcz25_0 hcz25_1
  try clear hcz25_10 hcz25_11 hcz25_12 hcz25_13 hcz25_14 hcz25_15 hcz25_16 hcz25_17 hcz25_18 hcz25_19
  try clear hcz25_2
  try clear hcz25_20
  try clear hcz25_3 hcz25_4 hcz25_5 hcz25_6 hcz25_7 hcz25_8 hcz25_9
  try clear hcz27_0 hcz27_1
  try clear hcz27_10 hcz27_11 hcz27_12 hcz27_13 hcz27_14 hcz27_15 hcz27_16 hcz27_17 hcz27_18 hcz27_19
  try clear hcz27_2
  try clear hcz27_20
  try clear hcz27_3 hcz27_4 hcz27_5 hcz27_6 hcz27_7 hcz27_8 hcz27_9
  try clear hcz29_0 hcz29_1
  try clear hcz29_10 hcz29_11 hcz29_12 hcz29_13 hcz29_14 hcz29_15 hcz29_16 hcz29_17 hcz29_18 hcz29_19
  try clear hcz29_2
  try clear hcz29_20
  try clear hcz29_3 hcz29_4 hcz29_5 hcz29_6 hcz29_7 hcz29_8 hcz29_9
  try clear hcz30_0 hcz30_1
  try clear hcz30_10 hcz30_11 hcz30_12 hcz30_13 hcz30_14 hcz30_15 hcz30_16 hcz30_17 hcz30_18 hcz30_19
  try clear hcz30_2
  try clear hcz30_20
  try clear hcz30_3 hcz30_4 hcz30_5 hcz30_6 hcz30_7 hcz30_8 hcz30_9
  try clear hcz33_0 hcz33_1
  try clear hcz33_10 hcz33_11 hcz33_12 hcz33_13 hcz33_14 hcz33_15 hcz33_16 hcz33_17 hcz33_18 hcz33_19
  try clear hcz33_2
  try clear hcz33_20
  try clear hcz33_3 hcz33_4 hcz33_5 hcz33_6 hcz33_7 hcz33_8 hcz33_9
  try clear hcz35_0 hcz35_1
  try clear hcz35_10 hcz35_11 hcz35_12 hcz35_13 hcz35_14 hcz35_15 hcz35_16 hcz35_17 hcz35_18 hcz35_19
  try clear hcz35_2
  try clear hcz35_20
  try clear hcz35_3 hcz35_4 hcz35_5 hcz35_6 hcz35_7 hcz35_8 hcz35_9
  try clear hcz38_0 hcz38_1
  try clear hcz38_10 hcz38_11 hcz38_12 hcz38_13 hcz38_14 hcz38_15 hcz38_16 hcz38_17 hcz38_18 hcz38_19
  try clear hcz38_2
  try clear hcz38_20
  try clear hcz38_3 hcz38_4 hcz38_5 hcz38_6 hcz38_7 hcz38_8 hcz38_9
  obtain ⟨kq, x28_2, rfl, HA, HJ2, BK278, BK279, HB⟩ := hcut
  cases kq with
  | zero => exact absurd HA.out (by simp [spec_RuleCovers.j0])
  | succ kj2 =>
   have H := HA.out
   clear HA
   simp only [spec_RuleCovers.j0] at H
   by_cases c40 : x28_2 = true
   ·subst c40
    have H1 : (some false) = some r := by rw [if_pos rfl] at H; exact H
    clear H
    have H := H1
    clear H1
    obtain rfl := Option.some.inj H
    go_wp2_with (first | ((with_reducible refine Gv.gate_load (t := 55) rfl ?_); (try (refine gate_guard (by rfl) ?_; dsimp only)); refine wpList_load_row rfl 55 _ rfl gb278 rfl 55 _ _ _ (by first | exact Gv.kb0 BK278.out | exact Gv.kb1 (Gv.kb0 BK278.out)) Try.underlying55 rfl (by kernel_rfl) ?_) | ((with_reducible refine Gv.gate_load (t := 55) rfl ?_); (try (refine gate_guard (by rfl) ?_; dsimp only)); refine wpList_load_row rfl 55 _ rfl gb279 rfl 55 _ _ _ (by first | exact Gv.kb0 BK279.out | exact Gv.kb1 (Gv.kb0 BK279.out)) Try.underlying55 rfl (by kernel_rfl) ?_))
    go_ret
    exact ⟨Gv.rt, Gv.bw⟩
   ·replace c40 := Bool.eq_false_iff.mpr c40
    subst c40
    have H1 : (if a0_13 = (-1) then (if a0_14 ≤ a1_14 then (if a0_15 ≥ a1_15 then (if a0_16 ≤ a1_16 then (some (decide (a0_17 ≥ a1_17))) else (some false)) else (some false)) else (some false)) else (if a0_13 = a1_13 then (if a0_14 ≤ a1_14 then (if a0_15 ≥ a1_15 then (if a0_16 ≤ a1_16 then (some (decide (a0_17 ≥ a1_17))) else (some false)) else (some false)) else (some false)) else (some false))) = some r := by rw [if_neg (show ¬ (false = true) by decide)] at H; exact H
    clear H
    have H := H1
    clear H1
    by_cases c41 : a0_13 = (-1)
    ·rw [if_pos c41] at H
     have c41b0 : (a0_13 == (-1)) = true := beq_iff_eq.mpr c41
     have c41b1 : (a0_13 != (-1)) = false := bne_eq_false_iff_eq.mpr c41
     clear c41
     by_cases c42 : a0_14 ≤ a1_14
     ·rw [if_pos c42] at H
      have c42b0 : decide (a0_14 ≤ a1_14) = true := decide_eq_true c42
      clear c42
      by_cases c43 : a0_15 ≥ a1_15
      ·rw [if_pos c43] at H
       have c43b0 : decide (a1_15 ≤ a0_15) = true := decide_eq_true c43
       clear c43
       by_cases c44 : a0_16 ≤ a1_16
       ·rw [if_pos c44] at H
        have c44b0 : decide (a0_16 ≤ a1_16) = true := decide_eq_true c44
        clear c44
        obtain rfl := Option.some.inj H
        have hnb45 := NB278_279.out
        have hnc45 := NB279_278.out
        obtain ⟨hcz46_0, hcz46_1, hcz46_2, hcz46_3, hcz46_4, hcz46_5, hcz46_6, hcz46_7, hcz46_8, hcz46_9, hcz46_10, hcz46_11, hcz46_12, hcz46_13, hcz46_14, hcz46_15, hcz46_16, hcz46_17, hcz46_18, hcz46_19, hcz46_20⟩ := Gv.c21 BK278.out
        obtain ⟨hcz47_0, hcz47_1, hcz47_2, hcz47_3, hcz47_4, hcz47_5, hcz47_6, hcz47_7, hcz47_8, hcz47_9, hcz47_10, hcz47_11, hcz47_12, hcz47_13, hcz47_14, hcz47_15, hcz47_16, hcz47_17, hcz47_18, hcz47_19, hcz47_20⟩ := Gv.c21 BK279.out
        go_wp2_with (first | ((with_reducible refine Gv.gate_load (t := 55) rfl ?_); (try (refine gate_guard (by rfl) ?_; dsimp only)); refine wpList_load_row rfl 55 _ rfl gb278 rfl 55 _ _ _ (by first | exact Gv.kb0 BK278.out | exact Gv.kb1 (Gv.kb0 BK278.out)) Try.underlying55 rfl (by kernel_rfl) ?_) | ((with_reducible refine Gv.gate_load (t := 55) rfl ?_); (try (refine gate_guard (by rfl) ?_; dsimp only)); refine wpList_load_row rfl 55 _ rfl gb279 rfl 55 _ _ _ (by first | exact Gv.kb0 BK279.out | exact Gv.kb1 (Gv.kb0 BK279.out)) Try.underlying55 rfl (by kernel_rfl) ?_))
        go_ret
        exact ⟨Gv.rt, Gv.bw⟩
       ·rw [if_neg c44] at H
        have c44b0 : decide (a0_16 ≤ a1_16) = false := decide_eq_false c44
        clear c44
        obtain rfl := Option.some.inj H
        have hnb48 := NB278_279.out
        have hnc48 := NB279_278.out
        obtain ⟨hcz49_0, hcz49_1, hcz49_2, hcz49_3, hcz49_4, hcz49_5, hcz49_6, hcz49_7, hcz49_8, hcz49_9, hcz49_10, hcz49_11, hcz49_12, hcz49_13, hcz49_14, hcz49_15, hcz49_16, hcz49_17, hcz49_18, hcz49_19, hcz49_20⟩ := Gv.c21 BK278.out
        obtain ⟨hcz50_0, hcz50_1, hcz50_2, hcz50_3, hcz50_4, hcz50_5, hcz50_6, hcz50_7, hcz50_8, hcz50_9, hcz50_10, hcz50_11, hcz50_12, hcz50_13, hcz50_14, hcz50_15, hcz50_16, hcz50_17, hcz50_18, hcz50_19, hcz50_20⟩ := Gv.c21 BK279.out
        go_wp2_with (first | ((with_reducible refine Gv.gate_load (t := 55) rfl ?_); (try (refine gate_guard (by rfl) ?_; dsimp only)); refine wpList_load_row rfl 55 _ rfl gb278 rfl 55 _ _ _ (by first | exact Gv.kb0 BK278.out | exact Gv.kb1 (Gv.kb0 BK278.out)) Try.underlying55 rfl (by kernel_rfl) ?_) | ((with_reducible refine Gv.gate_load (t := 55) rfl ?_); (try (refine gate_guard (by rfl) ?_; dsimp only)); refine wpList_load_row rfl 55 _ rfl gb279 rfl 55 _ _ _ (by first | exact Gv.kb0 BK279.out | exact Gv.kb1 (Gv.kb0 BK279.out)) Try.underlying55 rfl (by kernel_rfl) ?_))
        go_ret
        exact ⟨Gv.rt, Gv.bw⟩
      ·rw [if_neg c43] at H
       have c43b0 : decide (a1_15 ≤ a0_15) = false := decide_eq_false c43
       clear c43
       obtain rfl := Option.some.inj H
       have hnb51 := NB278_279.out
       have hnc51 := NB279_278.out
       obtain ⟨hcz52_0, hcz52_1, hcz52_2, hcz52_3, hcz52_4, hcz52_5, hcz52_6, hcz52_7, hcz52_8, hcz52_9, hcz52_10, hcz52_11, hcz52_12, hcz52_13, hcz52_14, hcz52_15, hcz52_16, hcz52_17, hcz52_18, hcz52_19, hcz52_20⟩ := Gv.c21 BK278.out
       obtain ⟨hcz53_0, hcz53_1, hcz53_2, hcz53_3, hcz53_4, hcz53_5, hcz53_6, hcz53_7, hcz53_8, hcz53_9, hcz53_10, hcz53_11, hcz53_12, hcz53_13, hcz53_14, hcz53_15, hcz53_16, hcz53_17, hcz53_18, hcz53_19, hcz53_20⟩ := Gv.c21 BK279.out
       go_wp2_with (first | ((with_reducible refine Gv.gate_load (t := 55) rfl ?_); (try (refine gate_guard (by rfl) ?_; dsimp only)); refine wpList_load_row rfl 55 _ rfl gb278 rfl 55 _ _ _ (by first | exact Gv.kb0 BK278.out | exact Gv.kb1 (Gv.kb0 BK278.out)) Try.underlying55 rfl (by kernel_rfl) ?_) | ((with_reducible refine Gv.gate_load (t := 55) rfl ?_); (try (refine gate_guard (by rfl) ?_; dsimp only)); refine wpList_load_row rfl 55 _ rfl gb279 rfl 55 _ _ _ (by first | exact Gv.kb0 BK279.out | exact Gv.kb1 (Gv.kb0 BK279.out)) Try.underlying55 rfl (by kernel_rfl) ?_))
       go_ret
       exact ⟨Gv.rt, Gv.bw⟩
     ·rw [if_neg c42] at H
      have c42b0 : decide (a0_14 ≤ a1_14) = false := decide_eq_false c42
      clear c42
      obtain rfl := Option.some.inj H
      have hnb54 := NB278_279.out
      have hnc54 := NB279_278.out
      obtain ⟨hcz55_0, hcz55_1, hcz55_2, hcz55_3, hcz55_4, hcz55_5, hcz55_6, hcz55_7, hcz55_8, hcz55_9, hcz55_10, hcz55_11, hcz55_12, hcz55_13, hcz55_14, hcz55_15, hcz55_16, hcz55_17, hcz55_18, hcz55_19, hcz55_20⟩ := Gv.c21 BK278.out
      obtain ⟨hcz56_0, hcz56_1, hcz56_2, hcz56_3, hcz56_4, hcz56_5, hcz56_6, hcz56_7, hcz56_8, hcz56_9, hcz56_10, hcz56_11, hcz56_12, hcz56_13, hcz56_14, hcz56_15, hcz56_16, hcz56_17, hcz56_18, hcz56_19, hcz56_20⟩ := Gv.c21 BK279.out
      go_wp2_with (first | ((with_reducible refine Gv.gate_load (t := 55) rfl ?_); (try (refine gate_guard (by rfl) ?_; dsimp only)); refine wpList_load_row rfl 55 _ rfl gb278 rfl 55 _ _ _ (by first | exact Gv.kb0 BK278.out | exact Gv.kb1 (Gv.kb0 BK278.out)) Try.underlying55 rfl (by kernel_rfl) ?_) | ((with_reducible refine Gv.gate_load (t := 55) rfl ?_); (try (refine gate_guard (by rfl) ?_; dsimp only)); refine wpList_load_row rfl 55 _ rfl gb279 rfl 55 _ _ _ (by first | exact Gv.kb0 BK279.out | exact Gv.kb1 (Gv.kb0 BK279.out)) Try.underlying55 rfl (by kernel_rfl) ?_))
      go_ret
      exact ⟨Gv.rt, Gv.bw⟩
    ·rw [if_neg c41] at H
     have c41b0 : (a0_13 == (-1)) = false := beq_eq_false_iff_ne.mpr c41
     have c41b1 : (a0_13 != (-1)) = true := bne_iff_ne.mpr c41
     by_cases c57 : a0_13 = a1_13
     ·rw [if_pos c57] at H
      have c57b0 : (a0_13 == a1_13) = true := beq_iff_eq.mpr c57
      have c57b1 : (a0_13 != a1_13) = false := bne_eq_false_iff_eq.mpr c57
      clear c57
      by_cases c58 : a0_14 ≤ a1_14
      ·rw [if_pos c58] at H
       have c58b0 : decide (a0_14 ≤ a1_14) = true := decide_eq_true c58
       clear c58
       by_cases c59 : a0_15 ≥ a1_15
       ·rw [if_pos c59] at H
        have c59b0 : decide (a1_15 ≤ a0_15) = true := decide_eq_true c59
        clear c59
        by_cases c60 : a0_16 ≤ a1_16
        ·rw [if_pos c60] at H
         have c60b0 : decide (a0_16 ≤ a1_16) = true := decide_eq_true c60
         clear c60
         obtain rfl := Option.some.inj H
         have hnb61 := NB278_279.out
         have hnc61 := NB279_278.out
         obtain ⟨hcz62_0, hcz62_1, hcz62_2, hcz62_3, hcz62_4, hcz62_5, hcz62_6, hcz62_7, hcz62_8, hcz62_9, hcz62_10, hcz62_11, hcz62_12, hcz62_13, hcz62_14, hcz62_15, hcz62_16, hcz62_17, hcz62_18, hcz62_19, hcz62_20⟩ := Gv.c21 BK278.out
         obtain ⟨hcz63_0, hcz63_1, hcz63_2, hcz63_3, hcz63_4, hcz63_5, hcz63_6, hcz63_7, hcz63_8, hcz63_9, hcz63_10, hcz63_11, hcz63_12, hcz63_13, hcz63_14, hcz63_15, hcz63_16, hcz63_17, hcz63_18, hcz63_19, hcz63_20⟩ := Gv.c21 BK279.out
         go_wp2_with (first | ((with_reducible refine Gv.gate_load (t := 55) rfl ?_); (try (refine gate_guard (by rfl) ?_; dsimp only)); refine wpList_load_row rfl 55 _ rfl gb278 rfl 55 _ _ _ (by first | exact Gv.kb0 BK278.out | exact Gv.kb1 (Gv.kb0 BK278.out)) Try.underlying55 rfl (by kernel_rfl) ?_) | ((with_reducible refine Gv.gate_load (t := 55) rfl ?_); (try (refine gate_guard (by rfl) ?_; dsimp only)); refine wpList_load_row rfl 55 _ rfl gb279 rfl 55 _ _ _ (by first | exact Gv.kb0 BK279.out | exact Gv.kb1 (Gv.kb0 BK279.out)) Try.underlying55 rfl (by kernel_rfl) ?_))
         go_ret
         exact ⟨Gv.rt, Gv.bw⟩
        ·rw [if_neg c60] at H
         have c60b0 : decide (a0_16 ≤ a1_16) = false := decide_eq_false c60
         clear c60
         obtain rfl := Option.some.inj H
         have hnb64 := NB278_279.out
         have hnc64 := NB279_278.out
         obtain ⟨hcz65_0, hcz65_1, hcz65_2, hcz65_3, hcz65_4, hcz65_5, hcz65_6, hcz65_7, hcz65_8, hcz65_9, hcz65_10, hcz65_11, hcz65_12, hcz65_13, hcz65_14, hcz65_15, hcz65_16, hcz65_17, hcz65_18, hcz65_19, hcz65_20⟩ := Gv.c21 BK278.out
         obtain ⟨hcz66_0, hcz66_1, hcz66_2, hcz66_3, hcz66_4, hcz66_5, hcz66_6, hcz66_7, hcz66_8, hcz66_9, hcz66_10, hcz66_11, hcz66_12, hcz66_13, hcz66_14, hcz66_15, hcz66_16, hcz66_17, hcz66_18, hcz66_19, hcz66_20⟩ := Gv.c21 BK279.out
         go_wp2_with (first | ((with_reducible refine Gv.gate_load (t := 55) rfl ?_); (try (refine gate_guard (by rfl) ?_; dsimp only)); refine wpList_load_row rfl 55 _ rfl gb278 rfl 55 _ _ _ (by first | exact Gv.kb0 BK278.out | exact Gv.kb1 (Gv.kb0 BK278.out)) Try.underlying55 rfl (by kernel_rfl) ?_) | ((with_reducible refine Gv.gate_load (t := 55) rfl ?_); (try (refine gate_guard (by rfl) ?_; dsimp only)); refine wpList_load_row rfl 55 _ rfl gb279 rfl 55 _ _ _ (by first | exact Gv.kb0 BK279.out | exact Gv.kb1 (Gv.kb0 BK279.out)) Try.underlying55 rfl (by kernel_rfl) ?_))
         go_ret
         exact ⟨Gv.rt, Gv.bw⟩
       ·rw [if_neg c59] at H
        have c59b0 : decide (a1_15 ≤ a0_15) = false := decide_eq_false c59
        clear c59
        obtain rfl := Option.some.inj H
        have hnb67 := NB278_279.out
        have hnc67 := NB279_278.out
        obtain ⟨hcz68_0, hcz68_1, hcz68_2, hcz68_3, hcz68_4, hcz68_5, hcz68_6, hcz68_7, hcz68_8, hcz68_9, hcz68_10, hcz68_11, hcz68_12, hcz68_13, hcz68_14, hcz68_15, hcz68_16, hcz68_17, hcz68_18, hcz68_19, hcz68_20⟩ := Gv.c21 BK278.out
        obtain ⟨hcz69_0, hcz69_1, hcz69_2, hcz69_3, hcz69_4, hcz69_5, hcz69_6, hcz69_7, hcz69_8, hcz69_9, hcz69_10, hcz69_11, hcz69_12, hcz69_13, hcz69_14, hcz69_15, hcz69_16, hcz69_17, hcz69_18, hcz69_19, hcz69_20⟩ := Gv.c21 BK279.out
        go_wp2_with (first | ((with_reducible refine Gv.gate_load (t := 55) rfl ?_); (try (refine gate_guard (by rfl) ?_; dsimp only)); refine wpList_load_row rfl 55 _ rfl gb278 rfl 55 _ _ _ (by first | exact Gv.kb0 BK278.out | exact Gv.kb1 (Gv.kb0 BK278.out)) Try.underlying55 rfl (by kernel_rfl) ?_) | ((with_reducible refine Gv.gate_load (t := 55) rfl ?_); (try (refine gate_guard (by rfl) ?_; dsimp only)); refine wpList_load_row rfl 55 _ rfl gb279 rfl 55 _ _ _ (by first | exact Gv.kb0 BK279.out | exact Gv.kb1 (Gv.kb0 BK279.out)) Try.underlying55 rfl (by kernel_rfl) ?_))
        go_ret
        exact ⟨Gv.rt, Gv.bw⟩
      ·rw [if_neg c58] at H
       have c58b0 : decide (a0_14 ≤ a1_14) = false := decide_eq_false c58
       clear c58
       obtain rfl := Option.some.inj H
       have hnb70 := NB278_279.out
       have hnc70 := NB279_278.out
       obtain ⟨hcz71_0, hcz71_1, hcz71_2, hcz71_3, hcz71_4, hcz71_5, hcz71_6, hcz71_7, hcz71_8, hcz71_9, hcz71_10, hcz71_11, hcz71_12, hcz71_13, hcz71_14, hcz71_15, hcz71_16, hcz71_17, hcz71_18, hcz71_19, hcz71_20⟩ := Gv.c21 BK278.out
       obtain ⟨hcz72_0, hcz72_1, hcz72_2, hcz72_3, hcz72_4, hcz72_5, hcz72_6, hcz72_7, hcz72_8, hcz72_9, hcz72_10, hcz72_11, hcz72_12, hcz72_13, hcz72_14, hcz72_15, hcz72_16, hcz72_17, hcz72_18, hcz72_19, hcz72_20⟩ := Gv.c21 BK279.out
       go_wp2_with (first | ((with_reducible refine Gv.gate_load (t := 55) rfl ?_); (try (refine gate_guard (by rfl) ?_; dsimp only)); refine wpList_load_row rfl 55 _ rfl gb278 rfl 55 _ _ _ (by first | exact Gv.kb0 BK278.out | exact Gv.kb1 (Gv.kb0 BK278.out)) Try.underlying55 rfl (by kernel_rfl) ?_) | ((with_reducible refine Gv.gate_load (t := 55) rfl ?_); (try (refine gate_guard (by rfl) ?_; dsimp only)); refine wpList_load_row rfl 55 _ rfl gb279 rfl 55 _ _ _ (by first | exact Gv.kb0 BK279.out | exact Gv.kb1 (Gv.kb0 BK279.out)) Try.underlying55 rfl (by kernel_rfl) ?_))
       go_ret
       exact ⟨Gv.rt, Gv.bw⟩
     ·rw [if_neg c57] at H
      have c57b0 : (a0_13 == a1_13) = false := beq_eq_false_iff_ne.mpr c57
      have c57b1 : (a0_13 != a1_13) = true := bne_iff_ne.mpr c57
      obtain rfl := Option.some.inj H
      have hnb73 := NB278_279.out
      have hnc73 := NB279_278.out
      obtain ⟨hcz74_0, hcz74_1, hcz74_2, hcz74_3, hcz74_4, hcz74_5, hcz74_6, hcz74_7, hcz74_8, hcz74_9, hcz74_10, hcz74_11, hcz74_12, hcz74_13, hcz74_14, hcz74_15, hcz74_16, hcz74_17, hcz74_18, hcz74_19, hcz74_20⟩ := Gv.c21 BK278.out
      obtain ⟨hcz75_0, hcz75_1, hcz75_2, hcz75_3, hcz75_4, hcz75_5, hcz75_6, hcz75_7, hcz75_8, hcz75_9, hcz75_10, hcz75_11, hcz75_12, hcz75_13, hcz75_14, hcz75_15, hcz75_16, hcz75_17, hcz75_18, hcz75_19, hcz75_20⟩ := Gv.c21 BK279.out
      go_wp2_with (first | ((with_reducible refine Gv.gate_load (t := 55) rfl ?_); (try (refine gate_guard (by rfl) ?_; dsimp only)); refine wpList_load_row rfl 55 _ rfl gb278 rfl 55 _ _ _ (by first | exact Gv.kb0 BK278.out | exact Gv.kb1 (Gv.kb0 BK278.out)) Try.underlying55 rfl (by kernel_rfl) ?_) | ((with_reducible refine Gv.gate_load (t := 55) rfl ?_); (try (refine gate_guard (by rfl) ?_; dsimp only)); refine wpList_load_row rfl 55 _ rfl gb279 rfl 55 _ _ _ (by first | exact Gv.kb0 BK279.out | exact Gv.kb1 (Gv.kb0 BK279.out)) Try.underlying55 rfl (by kernel_rfl) ?_))
      go_ret
      exact ⟨Gv.rt, Gv.bw⟩

end Go.Proofs.Ytbihbbkdciebhaa.PSh
