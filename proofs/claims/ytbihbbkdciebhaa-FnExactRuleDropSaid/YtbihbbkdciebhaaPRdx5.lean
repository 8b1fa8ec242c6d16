/- Plain Lean functions of a law's Go functions, their contracts, by a program of this session (wip/pr.py over the kit's print). -/
import Derived.Test.YtbihbbkdciebhaaPRdx0
import Derived.Test.YtbihbbkdciebhaaPRdx2
import Derived.Test.YtbihbbkdciebhaaPRdx4
namespace Go.Proofs.Ytbihbbkdciebhaa.PRd
open Go.RowKit Go.Proofs.YtbihbbkdciebhaaW.PrintWords Go.Proofs.YtbihbbkdciebhaaW.PrintLast Go.Proofs.YtbihbbkdciebhaaW.PrintMore
attribute [local go_sem] max2_int min2_int max_two min_two max_three min_three max_four min_four   -- for this text's walks alone
set_option linter.unusedVariables false
set_option linter.unusedSimpArgs false

attribute [local go_sem high] eqA53
/-! ### spec_RulesOk: function 9 -/
def spec_RulesOk.l0 : Nat → List (S55) → Int → Option (Bool)
 | 0, _, _ => none
 | k + 1, x0, x3 => if x3 < (x0.length : Int) then (if 0 ≤ x3 then ((spec_RuleOk.f k ((rd_T55 x0 x3).f0) ((rd_T55 x0 x3).f1.f0.f0) ((rd_T55 x0 x3).f1.f0.f1) ((rd_T55 x0 x3).f1.f0.f2) ((rd_T55 x0 x3).f1.f0.f3) ((rd_T55 x0 x3).f1.f0.f4) ((rd_T55 x0 x3).f1.f1) ((rd_T55 x0 x3).f2.f0.f0) ((rd_T55 x0 x3).f2.f0.f1) ((rd_T55 x0 x3).f2.f0.f2) ((rd_T55 x0 x3).f2.f0.f3) ((rd_T55 x0 x3).f2.f0.f4) ((rd_T55 x0 x3).f2.f1) ((rd_T55 x0 x3).f3) ((rd_T55 x0 x3).f4) ((rd_T55 x0 x3).f5) ((rd_T55 x0 x3).f6) ((rd_T55 x0 x3).f7) ((rd_T55 x0 x3).f8) ((rd_T55 x0 x3).f9) ((rd_T55 x0 x3).f10)).bind fun t259 => (if t259 = true then (if x3 > 0 then (if 0 ≤ (wrap64 (x3 - 1)) then (if (wrap64 (x3 - 1)) < (x0.length : Int) then (if ((rd_T55 x0 (wrap64 (x3 - 1))).f0) ≥ ((rd_T55 x0 x3).f0) then (some false) else (spec_RulesOk.l0 k x0 (wrap64 (x3 + 1)))) else (none)) else (none)) else (spec_RulesOk.l0 k x0 (wrap64 (x3 + 1)))) else (some false))) else (none)) else (some true)
def spec_RulesOk.f (k : Nat) (l0 : List (S55)) : Option (Bool) := if (l0.length : Int) > 32 then (some false) else (spec_RulesOk.l0 k l0 0)
theorem spec_RulesOk.mono_l : ∀ k, (∀ y0 y1, LeO (spec_RulesOk.l0 k y0 y1) (spec_RulesOk.l0 (k + 1) y0 y1))
 | 0 => fun _ _ r h => by simp [spec_RulesOk.l0] at h
 | k + 1 => by
  have ih0 := spec_RulesOk.mono_l k
  ·intro y0 y1
   unfold spec_RulesOk.l0
   repeat' first
   | (with_reducible exact ih0 _ _)
   | (with_reducible exact spec_RuleOk.mono _ _ _ _ _ _ _ _ _ _ _ _ _ _ _ _ _ _ _ _ _ _)
   | (with_reducible exact LeO.refl _)
   | (with_reducible exact LeO.none _)
   | (with_reducible refine LeO.ite ?_ ?_)
   | (with_reducible refine LeO.bind ?_ (fun _ => ?_))
   | exact ih0 _ _
   | exact spec_RuleOk.mono _ _ _ _ _ _ _ _ _ _ _ _ _ _ _ _ _ _ _ _ _ _
   | exact LeO.none _
   | refine LeO.ite ?_ ?_
   | refine LeO.bind ?_ (fun _ => ?_)
theorem spec_RulesOk.mono : ∀ a0 k, LeO (spec_RulesOk.f k a0) (spec_RulesOk.f (k + 1) a0) := by
 intro a0 k
 have ih0 := spec_RulesOk.mono_l k
 unfold spec_RulesOk.f
 repeat' first
   | (with_reducible exact ih0 _ _)
   | (with_reducible exact spec_RuleOk.mono _ _ _ _ _ _ _ _ _ _ _ _ _ _ _ _ _ _ _ _ _ _)
   | (with_reducible exact LeO.refl _)
   | (with_reducible exact LeO.none _)
   | (with_reducible refine LeO.ite ?_ ?_)
   | (with_reducible refine LeO.bind ?_ (fun _ => ?_))
   | exact ih0 _ _
   | exact spec_RuleOk.mono _ _ _ _ _ _ _ _ _ _ _ _ _ _ _ _ _ _ _ _ _ _
   | exact LeO.none _
   | refine LeO.ite ?_ ?_
   | refine LeO.bind ?_ (fun _ => ?_)
def spec_RulesOk.T6 : Bool × List (List Nat × List Nat) := (true, [([], []), ([], []), ([0, 1], [0, 1]), ([2], [2]), ([3], [3]), ([4], [4]), ([5, 4], [5]), ([6], [6]), ([7, 6], [6, 7]), ([8, 6, 6], [6, 8]), ([9], [9]), ([9], [9]), ([11, 9], [9, 11]), ([10, 12, 9], [9, 10, 12]), ([13, 9], [9, 13]), ([14, 9], [9, 14]), ([9], [9]), ([9], [9]), ([16, 17, 9], [9, 16, 17]), ([18, 9], [9, 18]), ([19, 9], [9, 19]), ([15, 20, 9], [9, 15, 20]), ([9, 21, 6], [6, 9, 21]), ([6, 22], [6, 22])])
def spec_RulesOk.B6 : List Nat := [0, 0, 3, 7, 15, 31, 63, 127, 255, 511, 1023, 1023, 3071, 8191, 16383, 32767, 1023, 1023, 197631, 459775, 984063, 2097151, 4194303, 8388607]
theorem spec_RulesOk.tab6 : rtab .any (opsOf Try.f9 6) = spec_RulesOk.T6 := by kernel_rfl
theorem spec_RulesOk.bits6 : waitsOk spec_RulesOk.T6.2 spec_RulesOk.B6 = true := by kernel_rfl
set_option maxHeartbeats 8000000 in
set_option maxRecDepth 100000 in
theorem spec_RulesOk.calls (k : Nat) (A0 : Option Addr) (c0 : Nat) (l0 : List (S55)) (r : Bool) (w : World) (hr0 : Kd.C k55 w A0 l0.length l0) (hc0 : l0.length ≤ c0) (h : spec_RulesOk.f k l0 = some r) :
  Calls Try.prog 9 #[.slice A0 l0.length c0] w fun e w' => e = .returned (.bool r) ∧ Below w.heap.size w w' := by
 have hu55 := Try.underlying55
 have HR0 := Gv.a0 hr0
 have HC0 := Gv.a0 hc0
 clear hr0 hc0
 have HB := Gv.a0 (Below.refl w.heap.size w)
 have H : (if (l0.length : Int) > 32 then (some false) else (spec_RulesOk.l0 k l0 0)) = some r := h
 clear h
 by_cases c2 : (l0.length : Int) > 32
 ·rw [if_pos c2] at H
  have c2b0 : decide (32 < (l0.length : Int)) = true := decide_eq_true c2
  have c2b1 : decide (32 < l0.length) = true := decide_eq_true (by omega)
  clear c2
  obtain rfl := Option.some.inj H
  go_enter Try.func9, Try.ntmps9
  go_wp2
  go_ret
  exact ⟨Gv.rt, Gv.bw⟩
 ·rw [if_neg c2] at H
  have c2b0 : decide (32 < (l0.length : Int)) = false := decide_eq_false c2
  have c2b1 : decide (32 < l0.length) = false := decide_eq_false (by omega)
  clear c2
  have H' := Gv.a0 H
  clear H
  go_enter Try.func9, Try.ntmps9
  go_wp2
  go_loopg [3] k (fun kq v3 w' => ∃ (x3_1 : Int), v3 = .int .i64 x3_1 ∧ Aside0 (spec_RulesOk.l0 kq l0 x3_1 = some r) ∧ Aside0 (kq ≤ k) ∧ Aside0 (Below w.heap.size w w'))
  case atStart => exact ⟨(0), Gv.rq, H', ⟨Nat.le_refl _⟩, ⟨Gv.bw⟩⟩
  case round =>
   clear H'
   try clear c2
   try clear c2b0
   try clear c2b1
   try clear p2
   obtain ⟨x3_1, rfl, HA, HK1, HB⟩ := hrel
   cases gk with
   | zero => exact absurd HA.out (by simp [spec_RulesOk.l0])
   | succ k1 =>
    have H := HA.out
    clear HA
    simp only [spec_RulesOk.l0] at H
    by_cases c3 : x3_1 < (l0.length : Int)
    ·rw [if_pos c3] at H
     have c3b0 : decide (x3_1 < (l0.length : Int)) = true := decide_eq_true c3
     clear c3
     by_cases c4 : 0 ≤ x3_1
     ·rw [if_pos c4] at H
      have c4b0 : decide (0 ≤ x3_1) = true := decide_eq_true c4
      clear c4
      replace H := Option.bind_eq_some_iff.mp H
      obtain ⟨t259, A50, H⟩ := H
      replace H : (if t259 = true then (if x3_1 > 0 then (if 0 ≤ (wrap64 (x3_1 - 1)) then (if (wrap64 (x3_1 - 1)) < (l0.length : Int) then (if ((rd_T55 l0 (wrap64 (x3_1 - 1))).f0) ≥ ((rd_T55 l0 x3_1).f0) then (some false) else (spec_RulesOk.l0 k1 l0 (wrap64 (x3_1 + 1)))) else (none)) else (none)) else (spec_RulesOk.l0 k1 l0 (wrap64 (x3_1 + 1)))) else (some false)) = some r := H
      have A5 := Gv.a0 A50
      clear A50
      by_cases c6 : t259 = true
      ·subst c6
       have H1 : (if x3_1 > 0 then (if 0 ≤ (wrap64 (x3_1 - 1)) then (if (wrap64 (x3_1 - 1)) < (l0.length : Int) then (if ((rd_T55 l0 (wrap64 (x3_1 - 1))).f0) ≥ ((rd_T55 l0 x3_1).f0) then (some false) else (spec_RulesOk.l0 k1 l0 (wrap64 (x3_1 + 1)))) else (none)) else (none)) else (spec_RulesOk.l0 k1 l0 (wrap64 (x3_1 + 1)))) = some r := by rw [if_pos rfl] at H; exact H
       clear H
       have H := H1
       clear H1
       by_cases c7 : x3_1 > 0
       ·rw [if_pos c7] at H
        have c7b0 : decide (0 < x3_1) = true := decide_eq_true c7
        clear c7
        obtain ⟨ji8, hji8⟩ : ∃ j_ : Int, (wrap64 (x3_1 - 1)) = j_ := ⟨_, rfl⟩
        replace H : (if 0 ≤ (ji8) then (if (ji8) < (l0.length : Int) then (if ((rd_T55 l0 (ji8)).f0) ≥ ((rd_T55 l0 x3_1).f0) then (some false) else (spec_RulesOk.l0 k1 l0 (wrap64 (x3_1 + 1)))) else (none)) else (none)) = some r := by first | (rw [hji8] at H; exact H) | (simp only [hji8] at H ⊢; exact H)
        (try rw [hji8] at A5)
        have hji8w : (IntKind.i64.wrap (x3_1 - 1)) = ji8 := (i64_w _).trans hji8
        by_cases c9 : 0 ≤ (ji8)
        ·rw [if_pos c9] at H
         have c9b0 : decide (0 ≤ (ji8)) = true := decide_eq_true c9
         clear c9
         by_cases c10 : (ji8) < (l0.length : Int)
         ·rw [if_pos c10] at H
          have c10b0 : decide ((ji8) < (l0.length : Int)) = true := decide_eq_true c10
          clear c10
          by_cases c11 : ((rd_T55 l0 (ji8)).f0) ≥ ((rd_T55 l0 x3_1).f0)
          ·rw [if_pos c11] at H
           have c11b0 : decide (((rd_T55 l0 x3_1).f0) ≤ ((rd_T55 l0 (ji8)).f0)) = true := decide_eq_true c11
           clear c11
           obtain rfl := Option.some.inj H
           try go_wp2
           have n0_ := Gv.a0 (below_drew1 HB.out)
           clear HB
           have HB := n0_
           clear n0_
           have p258 : 0 ≤ (x3_1 : Int) := of_decide_eq_true (by first | (with_reducible assumption) | assumption)
           have q258 : x3_1 < (l0.length : Int) := of_decide_eq_true (by first | (with_reducible assumption) | assumption)
           obtain ⟨ad258, e258, hx258_0, hx258_1, hx258_2, hx258_3, hx258_4, hx258_5, hx258_6, hx258_7, hx258_8, hx258_9, hx258_10, hx258_11, hx258_12, hx258_13, hx258_14, hx258_15, hx258_16, hx258_17, hx258_18, hx258_19, hx258_20⟩ := at_T55 HR0.out x3_1 p258 q258
           have hw258_20 := hx258_20
           have hw258_19 := hx258_19
           have hw258_18 := hx258_18
           have hw258_17 := hx258_17
           have hw258_16 := hx258_16
           have hw258_15 := hx258_15
           have hw258_14 := hx258_14
           have hw258_13 := hx258_13
           have hw258_12 := hx258_12
           have hw258_11 := hx258_11
           have hw258_10 := hx258_10
           have hw258_9 := hx258_9
           have hw258_8 := hx258_8
           have hw258_7 := hx258_7
           have hw258_6 := hx258_6
           have hw258_5 := hx258_5
           have hw258_4 := hx258_4
           have hw258_3 := hx258_3
           have hw258_2 := hx258_2
           have hw258_1 := hx258_1
           have hw258_0 := hx258_0
           cases e258
           replace hx258_0 := Gv.bx HB.out hx258_0
           replace hx258_1 := Gv.bx HB.out hx258_1
           replace hx258_2 := Gv.bx HB.out hx258_2
           replace hx258_3 := Gv.bx HB.out hx258_3
           replace hx258_4 := Gv.bx HB.out hx258_4
           replace hx258_5 := Gv.bx HB.out hx258_5
           replace hx258_6 := Gv.bx HB.out hx258_6
           replace hx258_7 := Gv.bx HB.out hx258_7
           replace hx258_8 := Gv.bx HB.out hx258_8
           replace hx258_9 := Gv.bx HB.out hx258_9
           replace hx258_10 := Gv.bx HB.out hx258_10
           replace hx258_11 := Gv.bx HB.out hx258_11
           replace hx258_12 := Gv.bx HB.out hx258_12
           replace hx258_13 := Gv.bx HB.out hx258_13
           replace hx258_14 := Gv.bx HB.out hx258_14
           replace hx258_15 := Gv.bx HB.out hx258_15
           replace hx258_16 := Gv.bx HB.out hx258_16
           replace hx258_17 := Gv.bx HB.out hx258_17
           replace hx258_18 := Gv.bx HB.out hx258_18
           replace hx258_19 := Gv.bx HB.out hx258_19
           replace hx258_20 := Gv.bx HB.out hx258_20
           replace p258 := eq_true p258
           replace q258 := eq_true q258
           have p260 : 0 ≤ ((ji8) : Int) := of_decide_eq_true (by first | (with_reducible assumption) | assumption)
           have q260 : (ji8) < (l0.length : Int) := of_decide_eq_true (by first | (with_reducible assumption) | assumption)
           obtain ⟨ad260, e260, hx260_0, _, _, _, _, _, _, _, _, _, _, _, _, _, _, _, _, _, _, _, _⟩ := at_T55 HR0.out (ji8) p260 q260
           have hw260_0 := hx260_0
           obtain rfl : ad258 = ad260 := (by injection e260)
           replace hx260_0 := Gv.bx HB.out hx260_0
           replace p260 := eq_true p260
           replace q260 := eq_true q260
           have p261 : 0 ≤ (x3_1 : Int) := of_decide_eq_true (by first | (with_reducible assumption) | assumption)
           have q261 : x3_1 < (l0.length : Int) := of_decide_eq_true (by first | (with_reducible assumption) | assumption)
           obtain ⟨ad261, e261, hx261_0, _, _, _, _, _, _, _, _, _, _, _, _, _, _, _, _, _, _, _, _⟩ := at_T55 HR0.out x3_1 p261 q261
           have hw261_0 := hx261_0
           obtain rfl : ad258 = ad261 := (by injection e261)
           replace hx261_0 := Gv.bx HB.out hx261_0
           replace p261 := eq_true p261
           replace q261 := eq_true q261
           refine start_ (n := 24) (S := fun w' => w'.cell? (ad258.add ((x3_1).toNat * 21)) = some (.int .i64 ((rd_T55 l0 x3_1).f0)) ∧ w'.cell? ⟨(ad258.add ((x3_1).toNat * 21)).block, (ad258.add ((x3_1).toNat * 21)).off + 1, none⟩ = some (.int .i64 ((rd_T55 l0 x3_1).f1.f0.f0)) ∧ w'.cell? ⟨(ad258.add ((x3_1).toNat * 21)).block, (ad258.add ((x3_1).toNat * 21)).off + 2, none⟩ = some (.int .i64 ((rd_T55 l0 x3_1).f1.f0.f1)) ∧ w'.cell? ⟨(ad258.add ((x3_1).toNat * 21)).block, (ad258.add ((x3_1).toNat * 21)).off + 3, none⟩ = some (.int .i64 ((rd_T55 l0 x3_1).f1.f0.f2)) ∧ w'.cell? ⟨(ad258.add ((x3_1).toNat * 21)).block, (ad258.add ((x3_1).toNat * 21)).off + 4, none⟩ = some (.int .i64 ((rd_T55 l0 x3_1).f1.f0.f3)) ∧ w'.cell? ⟨(ad258.add ((x3_1).toNat * 21)).block, (ad258.add ((x3_1).toNat * 21)).off + 5, none⟩ = some (.int .i64 ((rd_T55 l0 x3_1).f1.f0.f4)) ∧ w'.cell? ⟨(ad258.add ((x3_1).toNat * 21)).block, (ad258.add ((x3_1).toNat * 21)).off + 6, none⟩ = some (.int .i64 ((rd_T55 l0 x3_1).f1.f1)) ∧ w'.cell? ⟨(ad258.add ((x3_1).toNat * 21)).block, (ad258.add ((x3_1).toNat * 21)).off + 7, none⟩ = some (.int .i64 ((rd_T55 l0 x3_1).f2.f0.f0)) ∧ w'.cell? ⟨(ad258.add ((x3_1).toNat * 21)).block, (ad258.add ((x3_1).toNat * 21)).off + 8, none⟩ = some (.int .i64 ((rd_T55 l0 x3_1).f2.f0.f1)) ∧ w'.cell? ⟨(ad258.add ((x3_1).toNat * 21)).block, (ad258.add ((x3_1).toNat * 21)).off + 9, none⟩ = some (.int .i64 ((rd_T55 l0 x3_1).f2.f0.f2)) ∧ w'.cell? ⟨(ad258.add ((x3_1).toNat * 21)).block, (ad258.add ((x3_1).toNat * 21)).off + 10, none⟩ = some (.int .i64 ((rd_T55 l0 x3_1).f2.f0.f3)) ∧ w'.cell? ⟨(ad258.add ((x3_1).toNat * 21)).block, (ad258.add ((x3_1).toNat * 21)).off + 11, none⟩ = some (.int .i64 ((rd_T55 l0 x3_1).f2.f0.f4)) ∧ w'.cell? ⟨(ad258.add ((x3_1).toNat * 21)).block, (ad258.add ((x3_1).toNat * 21)).off + 12, none⟩ = some (.int .i64 ((rd_T55 l0 x3_1).f2.f1)) ∧ w'.cell? ⟨(ad258.add ((x3_1).toNat * 21)).block, (ad258.add ((x3_1).toNat * 21)).off + 13, none⟩ = some (.int .i64 ((rd_T55 l0 x3_1).f3)) ∧ w'.cell? ⟨(ad258.add ((x3_1).toNat * 21)).block, (ad258.add ((x3_1).toNat * 21)).off + 14, none⟩ = some (.int .i64 ((rd_T55 l0 x3_1).f4)) ∧ w'.cell? ⟨(ad258.add ((x3_1).toNat * 21)).block, (ad258.add ((x3_1).toNat * 21)).off + 15, none⟩ = some (.int .i64 ((rd_T55 l0 x3_1).f5)) ∧ w'.cell? ⟨(ad258.add ((x3_1).toNat * 21)).block, (ad258.add ((x3_1).toNat * 21)).off + 16, none⟩ = some (.int .i64 ((rd_T55 l0 x3_1).f6)) ∧ w'.cell? ⟨(ad258.add ((x3_1).toNat * 21)).block, (ad258.add ((x3_1).toNat * 21)).off + 17, none⟩ = some (.int .i64 ((rd_T55 l0 x3_1).f7)) ∧ w'.cell? ⟨(ad258.add ((x3_1).toNat * 21)).block, (ad258.add ((x3_1).toNat * 21)).off + 18, none⟩ = some (.int .i64 ((rd_T55 l0 x3_1).f8)) ∧ w'.cell? ⟨(ad258.add ((x3_1).toNat * 21)).block, (ad258.add ((x3_1).toNat * 21)).off + 19, none⟩ = some (.int .i64 ((rd_T55 l0 x3_1).f9)) ∧ w'.cell? ⟨(ad258.add ((x3_1).toNat * 21)).block, (ad258.add ((x3_1).toNat * 21)).off + 20, none⟩ = some (.int .i64 ((rd_T55 l0 x3_1).f10)) ∧ w'.cell? (ad258.add (((ji8)).toNat * 21)) = some (.int .i64 ((rd_T55 l0 (ji8)).f0)) ∧ w'.cell? (ad258.add ((x3_1).toNat * 21)) = some (.int .i64 ((rd_T55 l0 x3_1).f0))) (ds := []) #[false, false, false, false, false, false, false, false, false, false, false, false, false, false, false, false, false, false, false, false, false, false, false, false] (by kernel_rfl) rfl rfl ⟨(Gv.bx HB.out hw258_0), (Gv.bx HB.out hw258_1), (Gv.bx HB.out hw258_2), (Gv.bx HB.out hw258_3), (Gv.bx HB.out hw258_4), (Gv.bx HB.out hw258_5), (Gv.bx HB.out hw258_6), (Gv.bx HB.out hw258_7), (Gv.bx HB.out hw258_8), (Gv.bx HB.out hw258_9), (Gv.bx HB.out hw258_10), (Gv.bx HB.out hw258_11), (Gv.bx HB.out hw258_12), (Gv.bx HB.out hw258_13), (Gv.bx HB.out hw258_14), (Gv.bx HB.out hw258_15), (Gv.bx HB.out hw258_16), (Gv.bx HB.out hw258_17), (Gv.bx HB.out hw258_18), (Gv.bx HB.out hw258_19), (Gv.bx HB.out hw258_20), (Gv.bx HB.out hw260_0), (Gv.bx HB.out hw261_0)⟩ (fun hHeld => ?_); refine with_tabW spec_RulesOk.tab6 spec_RulesOk.bits6 (fun HT_ HW_ => ?_)
           generalize wr.drew = w12 at HB hx258_0 hx258_1 hx258_10 hx258_11 hx258_12 hx258_13 hx258_14 hx258_15 hx258_16 hx258_17 hx258_18 hx258_19 hx258_2 hx258_20 hx258_3 hx258_4 hx258_5 hx258_6 hx258_7 hx258_8 hx258_9 hx260_0 hx261_0 hHeld ⊢
           refine Gv.pu 0 (some 13) HT_ ?_
           refine Gv.pu 1 (some 14) HT_ ?_
           refine Gv.pu 2 (some 15) HT_ ?_
           refine take_ (i := 3) (N := some 16) (v := ?_) (a' := ?_) #[true, true, true, true, false, false, false, false, false, false, false, false, false, false, false, false, false, false, false, false, false, false, false, false] rfl rfl (take_ofW HT_.out HW_.out (by kernel_rfl)) (fun _ _ _ h => h) (Or.inl ⟨by rfl, ?_⟩) hHeld ?_ ?_
           rotate_left
           ·rintro w' ⟨s0, s1, s2, s3, s4, s5, s6, s7, s8, s9, s10, s11, s12, s13, s14, s15, s16, s17, s18, s19, s20, s21, s22⟩
            first | ((refine Gv.load_run (t := 55) (A := ad258.add ((x3_1).toNat * 21)) (cs := [_, _, _, _, _, _, _, _, _, _, _, _, _, _, _, _, _, _, _, _, _]) (x := ?xx7_) ?ho7_ ?hx7_ ⟨s0, s1, s2, s3, s4, s5, s6, s7, s8, s9, s10, s11, s12, s13, s14, s15, s16, s17, s18, s19, s20, trivial⟩ Try.underlying55 rfl (by kernel_rfl)); (case ho7_ => rfl); (case hx7_ => rfl)) | (go_simp; with_reducible rfl)
           rotate_left
           ·simp only [Act.put, List.setIfInBounds_toArray, List.set_cons_zero, List.set_cons_succ, i64_w, i32_w]
            rfl
           refine one_ (i := 4) (N := some 17) #[true, true, true, true, true, false, false, false, false, false, false, false, false, false, false, false, false, false, false, false, false, false, false, false] rfl rfl (one_of HT_.out (by kernel_rfl)) (by decide) (fun K hK => ?_)
           refine goes_ Try.func28 (by kernel_rfl) rfl #[.agg #[.int .i64 ((rd_T55 l0 x3_1).f0), .int .i64 ((rd_T55 l0 x3_1).f1.f0.f0), .int .i64 ((rd_T55 l0 x3_1).f1.f0.f1), .int .i64 ((rd_T55 l0 x3_1).f1.f0.f2), .int .i64 ((rd_T55 l0 x3_1).f1.f0.f3), .int .i64 ((rd_T55 l0 x3_1).f1.f0.f4), .int .i64 ((rd_T55 l0 x3_1).f1.f1), .int .i64 ((rd_T55 l0 x3_1).f2.f0.f0), .int .i64 ((rd_T55 l0 x3_1).f2.f0.f1), .int .i64 ((rd_T55 l0 x3_1).f2.f0.f2), .int .i64 ((rd_T55 l0 x3_1).f2.f0.f3), .int .i64 ((rd_T55 l0 x3_1).f2.f0.f4), .int .i64 ((rd_T55 l0 x3_1).f2.f1), .int .i64 ((rd_T55 l0 x3_1).f3), .int .i64 ((rd_T55 l0 x3_1).f4), .int .i64 ((rd_T55 l0 x3_1).f5), .int .i64 ((rd_T55 l0 x3_1).f6), .int .i64 ((rd_T55 l0 x3_1).f7), .int .i64 ((rd_T55 l0 x3_1).f8), .int .i64 ((rd_T55 l0 x3_1).f9), .int .i64 ((rd_T55 l0 x3_1).f10)]] (by rfl) rfl rfl Gv.lm ?_
           with_reducible refine (spec_RuleOk.calls k1 ((rd_T55 l0 x3_1).f0) ((rd_T55 l0 x3_1).f1.f0.f0) ((rd_T55 l0 x3_1).f1.f0.f1) ((rd_T55 l0 x3_1).f1.f0.f2) ((rd_T55 l0 x3_1).f1.f0.f3) ((rd_T55 l0 x3_1).f1.f0.f4) ((rd_T55 l0 x3_1).f1.f1) ((rd_T55 l0 x3_1).f2.f0.f0) ((rd_T55 l0 x3_1).f2.f0.f1) ((rd_T55 l0 x3_1).f2.f0.f2) ((rd_T55 l0 x3_1).f2.f0.f3) ((rd_T55 l0 x3_1).f2.f0.f4) ((rd_T55 l0 x3_1).f2.f1) ((rd_T55 l0 x3_1).f3) ((rd_T55 l0 x3_1).f4) ((rd_T55 l0 x3_1).f5) ((rd_T55 l0 x3_1).f6) ((rd_T55 l0 x3_1).f7) ((rd_T55 l0 x3_1).f8) ((rd_T55 l0 x3_1).f9) ((rd_T55 l0 x3_1).f10) true _ A5.out).mono ?_
           rintro e w13 ⟨rfl, hb⟩
           refine ⟨_, rfl, ?_⟩
           have n0_ := Gv.a0 (below_step Gv.bw hb)
           clear HB
           have HB := n0_
           clear n0_
           (try clear hb)
           (try clear hb2)
           (try clear hk)
           (try clear hi)
           refine hK.out _ _ ⟨(Gv.bx HB.out hw258_0), (Gv.bx HB.out hw258_1), (Gv.bx HB.out hw258_2), (Gv.bx HB.out hw258_3), (Gv.bx HB.out hw258_4), (Gv.bx HB.out hw258_5), (Gv.bx HB.out hw258_6), (Gv.bx HB.out hw258_7), (Gv.bx HB.out hw258_8), (Gv.bx HB.out hw258_9), (Gv.bx HB.out hw258_10), (Gv.bx HB.out hw258_11), (Gv.bx HB.out hw258_12), (Gv.bx HB.out hw258_13), (Gv.bx HB.out hw258_14), (Gv.bx HB.out hw258_15), (Gv.bx HB.out hw258_16), (Gv.bx HB.out hw258_17), (Gv.bx HB.out hw258_18), (Gv.bx HB.out hw258_19), (Gv.bx HB.out hw258_20), (Gv.bx HB.out hw260_0), (Gv.bx HB.out hw261_0)⟩ (fun hHeld => ?_)
           clear hK K
           refine norm_ (a' := ?_) ?_ ?_
           rotate_left
           ·show Act.put _ (some 17) _ = _
            simp only [Act.put, List.setIfInBounds_toArray, List.set_cons_zero, List.set_cons_succ, i64_w, i32_w]
            rfl
           refine Gv.pu 5 (some 18) HT_ ?_
           refine Gv.pu 6 (some 19) HT_ ?_
           refine Gv.pu 7 (some 20) HT_ ?_
           refine Gv.pu 8 (some 21) HT_ ?_
           refine Gv.pu 9 (some 22) HT_ ?_
           refine Gv.pu 10 (some 23) HT_ ?_
           refine Gv.pu 11 (some 24) HT_ ?_
           refine Gv.pu 12 (some 25) HT_ ?_
           refine Gv.pu 13 (some 26) HT_ ?_
           refine Gv.pu 14 (some 27) HT_ ?_
           refine Gv.pu 16 (some 29) HT_ ?_
           refine Gv.pu 17 (some 30) HT_ ?_
           refine Gv.pu 18 (some 31) HT_ ?_
           refine Gv.pu 19 (some 32) HT_ ?_
           refine take_ (i := 15) (N := some 28) (v := ?_) (a' := ?_) #[true, true, true, true, true, true, true, true, true, true, true, true, true, true, true, true, true, true, true, true, false, false, false, false] rfl rfl (take_ofW HT_.out HW_.out (by kernel_rfl)) (fun _ _ _ h => h) (Or.inl ⟨by rfl, ?_⟩) hHeld ?_ ?_
           rotate_left
           ·rintro w' ⟨s0, s1, s2, s3, s4, s5, s6, s7, s8, s9, s10, s11, s12, s13, s14, s15, s16, s17, s18, s19, s20, s21, s22⟩
            first | ((refine Gv.load_run (t := 55) (A := ad258.add ((x3_1).toNat * 21)) (cs := [_, _, _, _, _, _, _, _, _, _, _, _, _, _, _, _, _, _, _, _, _]) (x := ?xx9_) ?ho9_ ?hx9_ ⟨s0, s1, s2, s3, s4, s5, s6, s7, s8, s9, s10, s11, s12, s13, s14, s15, s16, s17, s18, s19, s20, trivial⟩ Try.underlying55 rfl (by kernel_rfl)); (case ho9_ => rfl); (case hx9_ => rfl)) | (go_simp; with_reducible rfl)
           rotate_left
           ·simp only [Act.put, List.setIfInBounds_toArray, List.set_cons_zero, List.set_cons_succ, i64_w, i32_w]
            rfl
           refine take_ (i := 20) (N := some 33) (v := ?_) (a' := ?_) #[true, true, true, true, true, true, true, true, true, true, true, true, true, true, true, true, true, true, true, true, true, false, false, false] rfl rfl (take_ofW HT_.out HW_.out (by kernel_rfl)) (fun _ _ _ h => h) (Or.inl ⟨by rfl, ?_⟩) hHeld ?_ ?_
           rotate_left
           ·rintro w' ⟨s0, s1, s2, s3, s4, s5, s6, s7, s8, s9, s10, s11, s12, s13, s14, s15, s16, s17, s18, s19, s20, s21, s22⟩
            first | ((refine Gv.load_run (t := 55) (A := ad258.add ((x3_1).toNat * 21)) (cs := [_, _, _, _, _, _, _, _, _, _, _, _, _, _, _, _, _, _, _, _, _]) (x := ?xx11_) ?ho11_ ?hx11_ ⟨s0, s1, s2, s3, s4, s5, s6, s7, s8, s9, s10, s11, s12, s13, s14, s15, s16, s17, s18, s19, s20, trivial⟩ Try.underlying55 rfl (by kernel_rfl)); (case ho11_ => rfl); (case hx11_ => rfl)) | (go_simp; with_reducible rfl)
           rotate_left
           ·simp only [Act.put, List.setIfInBounds_toArray, List.set_cons_zero, List.set_cons_succ, i64_w, i32_w]
            rfl
           refine Gv.pu 21 (some 34) HT_ ?_
           refine Gv.pu 22 (some 35) HT_ ?_
           refine Gv.pu 23 (some 36) HT_ ?_
           refine done_ (done_of HT_.out (by kernel_rfl)) ?_
           try go_wp2
           go_ret
           exact ⟨by first | rfl | (simp [errW_none, errW_some] <;> rfl) | (simp only [← hji8]; first | rfl | (simp [errW_none, errW_some] <;> rfl)) | (simp [*, errW_none, errW_some] <;> rfl), Gv.bw⟩
          ·rw [if_neg c11] at H
           have c11b0 : decide (((rd_T55 l0 x3_1).f0) ≤ ((rd_T55 l0 (ji8)).f0)) = false := decide_eq_false c11
           clear c11
           have H' := Gv.a0 H
           clear H
           try go_wp2
           have n0_ := Gv.a0 (below_drew1 HB.out)
           clear HB
           have HB := n0_
           clear n0_
           have p258 : 0 ≤ (x3_1 : Int) := of_decide_eq_true (by first | (with_reducible assumption) | assumption)
           have q258 : x3_1 < (l0.length : Int) := of_decide_eq_true (by first | (with_reducible assumption) | assumption)
           obtain ⟨ad258, e258, hx258_0, hx258_1, hx258_2, hx258_3, hx258_4, hx258_5, hx258_6, hx258_7, hx258_8, hx258_9, hx258_10, hx258_11, hx258_12, hx258_13, hx258_14, hx258_15, hx258_16, hx258_17, hx258_18, hx258_19, hx258_20⟩ := at_T55 HR0.out x3_1 p258 q258
           have hw258_20 := hx258_20
           have hw258_19 := hx258_19
           have hw258_18 := hx258_18
           have hw258_17 := hx258_17
           have hw258_16 := hx258_16
           have hw258_15 := hx258_15
           have hw258_14 := hx258_14
           have hw258_13 := hx258_13
           have hw258_12 := hx258_12
           have hw258_11 := hx258_11
           have hw258_10 := hx258_10
           have hw258_9 := hx258_9
           have hw258_8 := hx258_8
           have hw258_7 := hx258_7
           have hw258_6 := hx258_6
           have hw258_5 := hx258_5
           have hw258_4 := hx258_4
           have hw258_3 := hx258_3
           have hw258_2 := hx258_2
           have hw258_1 := hx258_1
           have hw258_0 := hx258_0
           cases e258
           replace hx258_0 := Gv.bx HB.out hx258_0
           replace hx258_1 := Gv.bx HB.out hx258_1
           replace hx258_2 := Gv.bx HB.out hx258_2
           replace hx258_3 := Gv.bx HB.out hx258_3
           replace hx258_4 := Gv.bx HB.out hx258_4
           replace hx258_5 := Gv.bx HB.out hx258_5
           replace hx258_6 := Gv.bx HB.out hx258_6
           replace hx258_7 := Gv.bx HB.out hx258_7
           replace hx258_8 := Gv.bx HB.out hx258_8
           replace hx258_9 := Gv.bx HB.out hx258_9
           replace hx258_10 := Gv.bx HB.out hx258_10
           replace hx258_11 := Gv.bx HB.out hx258_11
           replace hx258_12 := Gv.bx HB.out hx258_12
           replace hx258_13 := Gv.bx HB.out hx258_13
           replace hx258_14 := Gv.bx HB.out hx258_14
           replace hx258_15 := Gv.bx HB.out hx258_15
           replace hx258_16 := Gv.bx HB.out hx258_16
           replace hx258_17 := Gv.bx HB.out hx258_17
           replace hx258_18 := Gv.bx HB.out hx258_18
           replace hx258_19 := Gv.bx HB.out hx258_19
           replace hx258_20 := Gv.bx HB.out hx258_20
           replace p258 := eq_true p258
           replace q258 := eq_true q258
           have p260 : 0 ≤ ((ji8) : Int) := of_decide_eq_true (by first | (with_reducible assumption) | assumption)
           have q260 : (ji8) < (l0.length : Int) := of_decide_eq_true (by first | (with_reducible assumption) | assumption)
           obtain ⟨ad260, e260, hx260_0, _, _, _, _, _, _, _, _, _, _, _, _, _, _, _, _, _, _, _, _⟩ := at_T55 HR0.out (ji8) p260 q260
           have hw260_0 := hx260_0
           obtain rfl : ad258 = ad260 := (by injection e260)
           replace hx260_0 := Gv.bx HB.out hx260_0
           replace p260 := eq_true p260
           replace q260 := eq_true q260
           have p261 : 0 ≤ (x3_1 : Int) := of_decide_eq_true (by first | (with_reducible assumption) | assumption)
           have q261 : x3_1 < (l0.length : Int) := of_decide_eq_true (by first | (with_reducible assumption) | assumption)
           obtain ⟨ad261, e261, hx261_0, _, _, _, _, _, _, _, _, _, _, _, _, _, _, _, _, _, _, _, _⟩ := at_T55 HR0.out x3_1 p261 q261
           have hw261_0 := hx261_0
           obtain rfl : ad258 = ad261 := (by injection e261)
           replace hx261_0 := Gv.bx HB.out hx261_0
           replace p261 := eq_true p261
           replace q261 := eq_true q261
           refine start_ (n := 24) (S := fun w' => w'.cell? (ad258.add ((x3_1).toNat * 21)) = some (.int .i64 ((rd_T55 l0 x3_1).f0)) ∧ w'.cell? ⟨(ad258.add ((x3_1).toNat * 21)).block, (ad258.add ((x3_1).toNat * 21)).off + 1, none⟩ = some (.int .i64 ((rd_T55 l0 x3_1).f1.f0.f0)) ∧ w'.cell? ⟨(ad258.add ((x3_1).toNat * 21)).block, (ad258.add ((x3_1).toNat * 21)).off + 2, none⟩ = some (.int .i64 ((rd_T55 l0 x3_1).f1.f0.f1)) ∧ w'.cell? ⟨(ad258.add ((x3_1).toNat * 21)).block, (ad258.add ((x3_1).toNat * 21)).off + 3, none⟩ = some (.int .i64 ((rd_T55 l0 x3_1).f1.f0.f2)) ∧ w'.cell? ⟨(ad258.add ((x3_1).toNat * 21)).block, (ad258.add ((x3_1).toNat * 21)).off + 4, none⟩ = some (.int .i64 ((rd_T55 l0 x3_1).f1.f0.f3)) ∧ w'.cell? ⟨(ad258.add ((x3_1).toNat * 21)).block, (ad258.add ((x3_1).toNat * 21)).off + 5, none⟩ = some (.int .i64 ((rd_T55 l0 x3_1).f1.f0.f4)) ∧ w'.cell? ⟨(ad258.add ((x3_1).toNat * 21)).block, (ad258.add ((x3_1).toNat * 21)).off + 6, none⟩ = some (.int .i64 ((rd_T55 l0 x3_1).f1.f1)) ∧ w'.cell? ⟨(ad258.add ((x3_1).toNat * 21)).block, (ad258.add ((x3_1).toNat * 21)).off + 7, none⟩ = some (.int .i64 ((rd_T55 l0 x3_1).f2.f0.f0)) ∧ w'.cell? ⟨(ad258.add ((x3_1).toNat * 21)).block, (ad258.add ((x3_1).toNat * 21)).off + 8, none⟩ = some (.int .i64 ((rd_T55 l0 x3_1).f2.f0.f1)) ∧ w'.cell? ⟨(ad258.add ((x3_1).toNat * 21)).block, (ad258.add ((x3_1).toNat * 21)).off + 9, none⟩ = some (.int .i64 ((rd_T55 l0 x3_1).f2.f0.f2)) ∧ w'.cell? ⟨(ad258.add ((x3_1).toNat * 21)).block, (ad258.add ((x3_1).toNat * 21)).off + 10, none⟩ = some (.int .i64 ((rd_T55 l0 x3_1).f2.f0.f3)) ∧ w'.cell? ⟨(ad258.add ((x3_1).toNat * 21)).block, (ad258.add ((x3_1).toNat * 21)).off + 11, none⟩ = some (.int .i64 ((rd_T55 l0 x3_1).f2.f0.f4)) ∧ w'.cell? ⟨(ad258.add ((x3_1).toNat * 21)).block, (ad258.add ((x3_1).toNat * 21)).off + 12, none⟩ = some (.int .i64 ((rd_T55 l0 x3_1).f2.f1)) ∧ w'.cell? ⟨(ad258.add ((x3_1).toNat * 21)).block, (ad258.add ((x3_1).toNat * 21)).off + 13, none⟩ = some (.int .i64 ((rd_T55 l0 x3_1).f3)) ∧ w'.cell? ⟨(ad258.add ((x3_1).toNat * 21)).block, (ad258.add ((x3_1).toNat * 21)).off + 14, none⟩ = some (.int .i64 ((rd_T55 l0 x3_1).f4)) ∧ w'.cell? ⟨(ad258.add ((x3_1).toNat * 21)).block, (ad258.add ((x3_1).toNat * 21)).off + 15, none⟩ = some (.int .i64 ((rd_T55 l0 x3_1).f5)) ∧ w'.cell? ⟨(ad258.add ((x3_1).toNat * 21)).block, (ad258.add ((x3_1).toNat * 21)).off + 16, none⟩ = some (.int .i64 ((rd_T55 l0 x3_1).f6)) ∧ w'.cell? ⟨(ad258.add ((x3_1).toNat * 21)).block, (ad258.add ((x3_1).toNat * 21)).off + 17, none⟩ = some (.int .i64 ((rd_T55 l0 x3_1).f7)) ∧ w'.cell? ⟨(ad258.add ((x3_1).toNat * 21)).block, (ad258.add ((x3_1).toNat * 21)).off + 18, none⟩ = some (.int .i64 ((rd_T55 l0 x3_1).f8)) ∧ w'.cell? ⟨(ad258.add ((x3_1).toNat * 21)).block, (ad258.add ((x3_1).toNat * 21)).off + 19, none⟩ = some (.int .i64 ((rd_T55 l0 x3_1).f9)) ∧ w'.cell? ⟨(ad258.add ((x3_1).toNat * 21)).block, (ad258.add ((x3_1).toNat * 21)).off + 20, none⟩ = some (.int .i64 ((rd_T55 l0 x3_1).f10)) ∧ w'.cell? (ad258.add (((ji8)).toNat * 21)) = some (.int .i64 ((rd_T55 l0 (ji8)).f0)) ∧ w'.cell? (ad258.add ((x3_1).toNat * 21)) = some (.int .i64 ((rd_T55 l0 x3_1).f0))) (ds := []) #[false, false, false, false, false, false, false, false, false, false, false, false, false, false, false, false, false, false, false, false, false, false, false, false] (by kernel_rfl) rfl rfl ⟨(Gv.bx HB.out hw258_0), (Gv.bx HB.out hw258_1), (Gv.bx HB.out hw258_2), (Gv.bx HB.out hw258_3), (Gv.bx HB.out hw258_4), (Gv.bx HB.out hw258_5), (Gv.bx HB.out hw258_6), (Gv.bx HB.out hw258_7), (Gv.bx HB.out hw258_8), (Gv.bx HB.out hw258_9), (Gv.bx HB.out hw258_10), (Gv.bx HB.out hw258_11), (Gv.bx HB.out hw258_12), (Gv.bx HB.out hw258_13), (Gv.bx HB.out hw258_14), (Gv.bx HB.out hw258_15), (Gv.bx HB.out hw258_16), (Gv.bx HB.out hw258_17), (Gv.bx HB.out hw258_18), (Gv.bx HB.out hw258_19), (Gv.bx HB.out hw258_20), (Gv.bx HB.out hw260_0), (Gv.bx HB.out hw261_0)⟩ (fun hHeld => ?_); refine with_tabW spec_RulesOk.tab6 spec_RulesOk.bits6 (fun HT_ HW_ => ?_)
           generalize wr.drew = w14 at HB hx258_0 hx258_1 hx258_10 hx258_11 hx258_12 hx258_13 hx258_14 hx258_15 hx258_16 hx258_17 hx258_18 hx258_19 hx258_2 hx258_20 hx258_3 hx258_4 hx258_5 hx258_6 hx258_7 hx258_8 hx258_9 hx260_0 hx261_0 hHeld ⊢
           refine Gv.pu 0 (some 13) HT_ ?_
           refine Gv.pu 1 (some 14) HT_ ?_
           refine Gv.pu 2 (some 15) HT_ ?_
           refine take_ (i := 3) (N := some 16) (v := ?_) (a' := ?_) #[true, true, true, true, false, false, false, false, false, false, false, false, false, false, false, false, false, false, false, false, false, false, false, false] rfl rfl (take_ofW HT_.out HW_.out (by kernel_rfl)) (fun _ _ _ h => h) (Or.inl ⟨by rfl, ?_⟩) hHeld ?_ ?_
           rotate_left
           ·rintro w' ⟨s0, s1, s2, s3, s4, s5, s6, s7, s8, s9, s10, s11, s12, s13, s14, s15, s16, s17, s18, s19, s20, s21, s22⟩
            first | ((refine Gv.load_run (t := 55) (A := ad258.add ((x3_1).toNat * 21)) (cs := [_, _, _, _, _, _, _, _, _, _, _, _, _, _, _, _, _, _, _, _, _]) (x := ?xx13_) ?ho13_ ?hx13_ ⟨s0, s1, s2, s3, s4, s5, s6, s7, s8, s9, s10, s11, s12, s13, s14, s15, s16, s17, s18, s19, s20, trivial⟩ Try.underlying55 rfl (by kernel_rfl)); (case ho13_ => rfl); (case hx13_ => rfl)) | (go_simp; with_reducible rfl)
           rotate_left
           ·simp only [Act.put, List.setIfInBounds_toArray, List.set_cons_zero, List.set_cons_succ, i64_w, i32_w]
            rfl
           refine one_ (i := 4) (N := some 17) #[true, true, true, true, true, false, false, false, false, false, false, false, false, false, false, false, false, false, false, false, false, false, false, false] rfl rfl (one_of HT_.out (by kernel_rfl)) (by decide) (fun K hK => ?_)
           refine goes_ Try.func28 (by kernel_rfl) rfl #[.agg #[.int .i64 ((rd_T55 l0 x3_1).f0), .int .i64 ((rd_T55 l0 x3_1).f1.f0.f0), .int .i64 ((rd_T55 l0 x3_1).f1.f0.f1), .int .i64 ((rd_T55 l0 x3_1).f1.f0.f2), .int .i64 ((rd_T55 l0 x3_1).f1.f0.f3), .int .i64 ((rd_T55 l0 x3_1).f1.f0.f4), .int .i64 ((rd_T55 l0 x3_1).f1.f1), .int .i64 ((rd_T55 l0 x3_1).f2.f0.f0), .int .i64 ((rd_T55 l0 x3_1).f2.f0.f1), .int .i64 ((rd_T55 l0 x3_1).f2.f0.f2), .int .i64 ((rd_T55 l0 x3_1).f2.f0.f3), .int .i64 ((rd_T55 l0 x3_1).f2.f0.f4), .int .i64 ((rd_T55 l0 x3_1).f2.f1), .int .i64 ((rd_T55 l0 x3_1).f3), .int .i64 ((rd_T55 l0 x3_1).f4), .int .i64 ((rd_T55 l0 x3_1).f5), .int .i64 ((rd_T55 l0 x3_1).f6), .int .i64 ((rd_T55 l0 x3_1).f7), .int .i64 ((rd_T55 l0 x3_1).f8), .int .i64 ((rd_T55 l0 x3_1).f9), .int .i64 ((rd_T55 l0 x3_1).f10)]] (by rfl) rfl rfl Gv.lm ?_
           with_reducible refine (spec_RuleOk.calls k1 ((rd_T55 l0 x3_1).f0) ((rd_T55 l0 x3_1).f1.f0.f0) ((rd_T55 l0 x3_1).f1.f0.f1) ((rd_T55 l0 x3_1).f1.f0.f2) ((rd_T55 l0 x3_1).f1.f0.f3) ((rd_T55 l0 x3_1).f1.f0.f4) ((rd_T55 l0 x3_1).f1.f1) ((rd_T55 l0 x3_1).f2.f0.f0) ((rd_T55 l0 x3_1).f2.f0.f1) ((rd_T55 l0 x3_1).f2.f0.f2) ((rd_T55 l0 x3_1).f2.f0.f3) ((rd_T55 l0 x3_1).f2.f0.f4) ((rd_T55 l0 x3_1).f2.f1) ((rd_T55 l0 x3_1).f3) ((rd_T55 l0 x3_1).f4) ((rd_T55 l0 x3_1).f5) ((rd_T55 l0 x3_1).f6) ((rd_T55 l0 x3_1).f7) ((rd_T55 l0 x3_1).f8) ((rd_T55 l0 x3_1).f9) ((rd_T55 l0 x3_1).f10) true _ A5.out).mono ?_
           rintro e w15 ⟨rfl, hb⟩
           refine ⟨_, rfl, ?_⟩
           have n0_ := Gv.a0 (below_step Gv.bw hb)
           clear HB
           have HB := n0_
           clear n0_
           (try clear hb)
           (try clear hb2)
           (try clear hk)
           (try clear hi)
           refine hK.out _ _ ⟨(Gv.bx HB.out hw258_0), (Gv.bx HB.out hw258_1), (Gv.bx HB.out hw258_2), (Gv.bx HB.out hw258_3), (Gv.bx HB.out hw258_4), (Gv.bx HB.out hw258_5), (Gv.bx HB.out hw258_6), (Gv.bx HB.out hw258_7), (Gv.bx HB.out hw258_8), (Gv.bx HB.out hw258_9), (Gv.bx HB.out hw258_10), (Gv.bx HB.out hw258_11), (Gv.bx HB.out hw258_12), (Gv.bx HB.out hw258_13), (Gv.bx HB.out hw258_14), (Gv.bx HB.out hw258_15), (Gv.bx HB.out hw258_16), (Gv.bx HB.out hw258_17), (Gv.bx HB.out hw258_18), (Gv.bx HB.out hw258_19), (Gv.bx HB.out hw258_20), (Gv.bx HB.out hw260_0), (Gv.bx HB.out hw261_0)⟩ (fun hHeld => ?_)
           clear hK K
           refine norm_ (a' := ?_) ?_ ?_
           rotate_left
           ·show Act.put _ (some 17) _ = _
            simp only [Act.put, List.setIfInBounds_toArray, List.set_cons_zero, List.set_cons_succ, i64_w, i32_w]
            rfl
           refine Gv.pu 5 (some 18) HT_ ?_
           refine Gv.pu 6 (some 19) HT_ ?_
           refine Gv.pu 7 (some 20) HT_ ?_
           refine Gv.pu 8 (some 21) HT_ ?_
           refine Gv.pu 9 (some 22) HT_ ?_
           refine Gv.pu 10 (some 23) HT_ ?_
           refine Gv.pu 11 (some 24) HT_ ?_
           refine Gv.pu 12 (some 25) HT_ ?_
           refine Gv.pu 13 (some 26) HT_ ?_
           refine Gv.pu 14 (some 27) HT_ ?_
           refine Gv.pu 16 (some 29) HT_ ?_
           refine Gv.pu 17 (some 30) HT_ ?_
           refine Gv.pu 18 (some 31) HT_ ?_
           refine Gv.pu 19 (some 32) HT_ ?_
           refine take_ (i := 15) (N := some 28) (v := ?_) (a' := ?_) #[true, true, true, true, true, true, true, true, true, true, true, true, true, true, true, true, true, true, true, true, false, false, false, false] rfl rfl (take_ofW HT_.out HW_.out (by kernel_rfl)) (fun _ _ _ h => h) (Or.inl ⟨by rfl, ?_⟩) hHeld ?_ ?_
           rotate_left
           ·rintro w' ⟨s0, s1, s2, s3, s4, s5, s6, s7, s8, s9, s10, s11, s12, s13, s14, s15, s16, s17, s18, s19, s20, s21, s22⟩
            first | ((refine Gv.load_run (t := 55) (A := ad258.add ((x3_1).toNat * 21)) (cs := [_, _, _, _, _, _, _, _, _, _, _, _, _, _, _, _, _, _, _, _, _]) (x := ?xx15_) ?ho15_ ?hx15_ ⟨s0, s1, s2, s3, s4, s5, s6, s7, s8, s9, s10, s11, s12, s13, s14, s15, s16, s17, s18, s19, s20, trivial⟩ Try.underlying55 rfl (by kernel_rfl)); (case ho15_ => rfl); (case hx15_ => rfl)) | (go_simp; with_reducible rfl)
           rotate_left
           ·simp only [Act.put, List.setIfInBounds_toArray, List.set_cons_zero, List.set_cons_succ, i64_w, i32_w]
            rfl
           refine take_ (i := 20) (N := some 33) (v := ?_) (a' := ?_) #[true, true, true, true, true, true, true, true, true, true, true, true, true, true, true, true, true, true, true, true, true, false, false, false] rfl rfl (take_ofW HT_.out HW_.out (by kernel_rfl)) (fun _ _ _ h => h) (Or.inl ⟨by rfl, ?_⟩) hHeld ?_ ?_
           rotate_left
           ·rintro w' ⟨s0, s1, s2, s3, s4, s5, s6, s7, s8, s9, s10, s11, s12, s13, s14, s15, s16, s17, s18, s19, s20, s21, s22⟩
            first | ((refine Gv.load_run (t := 55) (A := ad258.add ((x3_1).toNat * 21)) (cs := [_, _, _, _, _, _, _, _, _, _, _, _, _, _, _, _, _, _, _, _, _]) (x := ?xx17_) ?ho17_ ?hx17_ ⟨s0, s1, s2, s3, s4, s5, s6, s7, s8, s9, s10, s11, s12, s13, s14, s15, s16, s17, s18, s19, s20, trivial⟩ Try.underlying55 rfl (by kernel_rfl)); (case ho17_ => rfl); (case hx17_ => rfl)) | (go_simp; with_reducible rfl)
           rotate_left
           ·simp only [Act.put, List.setIfInBounds_toArray, List.set_cons_zero, List.set_cons_succ, i64_w, i32_w]
            rfl
           refine Gv.pu 21 (some 34) HT_ ?_
           refine Gv.pu 22 (some 35) HT_ ?_
           refine Gv.pu 23 (some 36) HT_ ?_
           refine done_ (done_of HT_.out (by kernel_rfl)) ?_
           try go_wp2
           go_roundg k1
           case measure => have := HK1.out; omega
           case rel => exact ⟨(wrap64 (x3_1 + 1)), Gv.rq, H', ⟨by have := HK1.out; omega⟩, ⟨Gv.bw⟩⟩
         ·rw [if_neg c10] at H
          exact absurd H (by simp)
        ·rw [if_neg c9] at H
         exact absurd H (by simp)
       ·rw [if_neg c7] at H
        have c7b0 : decide (0 < x3_1) = false := decide_eq_false c7
        clear c7
        have H' := Gv.a0 H
        clear H
        try go_wp2
        have n0_ := Gv.a0 (below_drew1 HB.out)
        clear HB
        have HB := n0_
        clear n0_
        have p258 : 0 ≤ (x3_1 : Int) := of_decide_eq_true (by first | (with_reducible assumption) | assumption)
        have q258 : x3_1 < (l0.length : Int) := of_decide_eq_true (by first | (with_reducible assumption) | assumption)
        obtain ⟨ad258, e258, hx258_0, hx258_1, hx258_2, hx258_3, hx258_4, hx258_5, hx258_6, hx258_7, hx258_8, hx258_9, hx258_10, hx258_11, hx258_12, hx258_13, hx258_14, hx258_15, hx258_16, hx258_17, hx258_18, hx258_19, hx258_20⟩ := at_T55 HR0.out x3_1 p258 q258
        have hw258_20 := hx258_20
        have hw258_19 := hx258_19
        have hw258_18 := hx258_18
        have hw258_17 := hx258_17
        have hw258_16 := hx258_16
        have hw258_15 := hx258_15
        have hw258_14 := hx258_14
        have hw258_13 := hx258_13
        have hw258_12 := hx258_12
        have hw258_11 := hx258_11
        have hw258_10 := hx258_10
        have hw258_9 := hx258_9
        have hw258_8 := hx258_8
        have hw258_7 := hx258_7
        have hw258_6 := hx258_6
        have hw258_5 := hx258_5
        have hw258_4 := hx258_4
        have hw258_3 := hx258_3
        have hw258_2 := hx258_2
        have hw258_1 := hx258_1
        have hw258_0 := hx258_0
        cases e258
        replace hx258_0 := Gv.bx HB.out hx258_0
        replace hx258_1 := Gv.bx HB.out hx258_1
        replace hx258_2 := Gv.bx HB.out hx258_2
        replace hx258_3 := Gv.bx HB.out hx258_3
        replace hx258_4 := Gv.bx HB.out hx258_4
        replace hx258_5 := Gv.bx HB.out hx258_5
        replace hx258_6 := Gv.bx HB.out hx258_6
        replace hx258_7 := Gv.bx HB.out hx258_7
        replace hx258_8 := Gv.bx HB.out hx258_8
        replace hx258_9 := Gv.bx HB.out hx258_9
        replace hx258_10 := Gv.bx HB.out hx258_10
        replace hx258_11 := Gv.bx HB.out hx258_11
        replace hx258_12 := Gv.bx HB.out hx258_12
        replace hx258_13 := Gv.bx HB.out hx258_13
        replace hx258_14 := Gv.bx HB.out hx258_14
        replace hx258_15 := Gv.bx HB.out hx258_15
        replace hx258_16 := Gv.bx HB.out hx258_16
        replace hx258_17 := Gv.bx HB.out hx258_17
        replace hx258_18 := Gv.bx HB.out hx258_18
        replace hx258_19 := Gv.bx HB.out hx258_19
        replace hx258_20 := Gv.bx HB.out hx258_20
        replace p258 := eq_true p258
        replace q258 := eq_true q258
        refine start_ (n := 24) (S := fun w' => w'.cell? (ad258.add ((x3_1).toNat * 21)) = some (.int .i64 ((rd_T55 l0 x3_1).f0)) ∧ w'.cell? ⟨(ad258.add ((x3_1).toNat * 21)).block, (ad258.add ((x3_1).toNat * 21)).off + 1, none⟩ = some (.int .i64 ((rd_T55 l0 x3_1).f1.f0.f0)) ∧ w'.cell? ⟨(ad258.add ((x3_1).toNat * 21)).block, (ad258.add ((x3_1).toNat * 21)).off + 2, none⟩ = some (.int .i64 ((rd_T55 l0 x3_1).f1.f0.f1)) ∧ w'.cell? ⟨(ad258.add ((x3_1).toNat * 21)).block, (ad258.add ((x3_1).toNat * 21)).off + 3, none⟩ = some (.int .i64 ((rd_T55 l0 x3_1).f1.f0.f2)) ∧ w'.cell? ⟨(ad258.add ((x3_1).toNat * 21)).block, (ad258.add ((x3_1).toNat * 21)).off + 4, none⟩ = some (.int .i64 ((rd_T55 l0 x3_1).f1.f0.f3)) ∧ w'.cell? ⟨(ad258.add ((x3_1).toNat * 21)).block, (ad258.add ((x3_1).toNat * 21)).off + 5, none⟩ = some (.int .i64 ((rd_T55 l0 x3_1).f1.f0.f4)) ∧ w'.cell? ⟨(ad258.add ((x3_1).toNat * 21)).block, (ad258.add ((x3_1).toNat * 21)).off + 6, none⟩ = some (.int .i64 ((rd_T55 l0 x3_1).f1.f1)) ∧ w'.cell? ⟨(ad258.add ((x3_1).toNat * 21)).block, (ad258.add ((x3_1).toNat * 21)).off + 7, none⟩ = some (.int .i64 ((rd_T55 l0 x3_1).f2.f0.f0)) ∧ w'.cell? ⟨(ad258.add ((x3_1).toNat * 21)).block, (ad258.add ((x3_1).toNat * 21)).off + 8, none⟩ = some (.int .i64 ((rd_T55 l0 x3_1).f2.f0.f1)) ∧ w'.cell? ⟨(ad258.add ((x3_1).toNat * 21)).block, (ad258.add ((x3_1).toNat * 21)).off + 9, none⟩ = some (.int .i64 ((rd_T55 l0 x3_1).f2.f0.f2)) ∧ w'.cell? ⟨(ad258.add ((x3_1).toNat * 21)).block, (ad258.add ((x3_1).toNat * 21)).off + 10, none⟩ = some (.int .i64 ((rd_T55 l0 x3_1).f2.f0.f3)) ∧ w'.cell? ⟨(ad258.add ((x3_1).toNat * 21)).block, (ad258.add ((x3_1).toNat * 21)).off + 11, none⟩ = some (.int .i64 ((rd_T55 l0 x3_1).f2.f0.f4)) ∧ w'.cell? ⟨(ad258.add ((x3_1).toNat * 21)).block, (ad258.add ((x3_1).toNat * 21)).off + 12, none⟩ = some (.int .i64 ((rd_T55 l0 x3_1).f2.f1)) ∧ w'.cell? ⟨(ad258.add ((x3_1).toNat * 21)).block, (ad258.add ((x3_1).toNat * 21)).off + 13, none⟩ = some (.int .i64 ((rd_T55 l0 x3_1).f3)) ∧ w'.cell? ⟨(ad258.add ((x3_1).toNat * 21)).block, (ad258.add ((x3_1).toNat * 21)).off + 14, none⟩ = some (.int .i64 ((rd_T55 l0 x3_1).f4)) ∧ w'.cell? ⟨(ad258.add ((x3_1).toNat * 21)).block, (ad258.add ((x3_1).toNat * 21)).off + 15, none⟩ = some (.int .i64 ((rd_T55 l0 x3_1).f5)) ∧ w'.cell? ⟨(ad258.add ((x3_1).toNat * 21)).block, (ad258.add ((x3_1).toNat * 21)).off + 16, none⟩ = some (.int .i64 ((rd_T55 l0 x3_1).f6)) ∧ w'.cell? ⟨(ad258.add ((x3_1).toNat * 21)).block, (ad258.add ((x3_1).toNat * 21)).off + 17, none⟩ = some (.int .i64 ((rd_T55 l0 x3_1).f7)) ∧ w'.cell? ⟨(ad258.add ((x3_1).toNat * 21)).block, (ad258.add ((x3_1).toNat * 21)).off + 18, none⟩ = some (.int .i64 ((rd_T55 l0 x3_1).f8)) ∧ w'.cell? ⟨(ad258.add ((x3_1).toNat * 21)).block, (ad258.add ((x3_1).toNat * 21)).off + 19, none⟩ = some (.int .i64 ((rd_T55 l0 x3_1).f9)) ∧ w'.cell? ⟨(ad258.add ((x3_1).toNat * 21)).block, (ad258.add ((x3_1).toNat * 21)).off + 20, none⟩ = some (.int .i64 ((rd_T55 l0 x3_1).f10))) (ds := []) #[false, false, false, false, false, false, false, false, false, false, false, false, false, false, false, false, false, false, false, false, false, false, false, false] (by kernel_rfl) rfl rfl ⟨(Gv.bx HB.out hw258_0), (Gv.bx HB.out hw258_1), (Gv.bx HB.out hw258_2), (Gv.bx HB.out hw258_3), (Gv.bx HB.out hw258_4), (Gv.bx HB.out hw258_5), (Gv.bx HB.out hw258_6), (Gv.bx HB.out hw258_7), (Gv.bx HB.out hw258_8), (Gv.bx HB.out hw258_9), (Gv.bx HB.out hw258_10), (Gv.bx HB.out hw258_11), (Gv.bx HB.out hw258_12), (Gv.bx HB.out hw258_13), (Gv.bx HB.out hw258_14), (Gv.bx HB.out hw258_15), (Gv.bx HB.out hw258_16), (Gv.bx HB.out hw258_17), (Gv.bx HB.out hw258_18), (Gv.bx HB.out hw258_19), (Gv.bx HB.out hw258_20)⟩ (fun hHeld => ?_); refine with_tabW spec_RulesOk.tab6 spec_RulesOk.bits6 (fun HT_ HW_ => ?_)
        generalize wr.drew = w16 at HB hx258_0 hx258_1 hx258_10 hx258_11 hx258_12 hx258_13 hx258_14 hx258_15 hx258_16 hx258_17 hx258_18 hx258_19 hx258_2 hx258_20 hx258_3 hx258_4 hx258_5 hx258_6 hx258_7 hx258_8 hx258_9 hHeld ⊢
        refine Gv.pu 0 (some 13) HT_ ?_
        refine Gv.pu 1 (some 14) HT_ ?_
        refine Gv.pu 2 (some 15) HT_ ?_
        refine take_ (i := 3) (N := some 16) (v := ?_) (a' := ?_) #[true, true, true, true, false, false, false, false, false, false, false, false, false, false, false, false, false, false, false, false, false, false, false, false] rfl rfl (take_ofW HT_.out HW_.out (by kernel_rfl)) (fun _ _ _ h => h) (Or.inl ⟨by rfl, ?_⟩) hHeld ?_ ?_
        rotate_left
        ·rintro w' ⟨s0, s1, s2, s3, s4, s5, s6, s7, s8, s9, s10, s11, s12, s13, s14, s15, s16, s17, s18, s19, s20⟩
         first | ((refine Gv.load_run (t := 55) (A := ad258.add ((x3_1).toNat * 21)) (cs := [_, _, _, _, _, _, _, _, _, _, _, _, _, _, _, _, _, _, _, _, _]) (x := ?xx19_) ?ho19_ ?hx19_ ⟨s0, s1, s2, s3, s4, s5, s6, s7, s8, s9, s10, s11, s12, s13, s14, s15, s16, s17, s18, s19, s20, trivial⟩ Try.underlying55 rfl (by kernel_rfl)); (case ho19_ => rfl); (case hx19_ => rfl)) | (go_simp; with_reducible rfl)
        rotate_left
        ·simp only [Act.put, List.setIfInBounds_toArray, List.set_cons_zero, List.set_cons_succ, i64_w, i32_w]
         rfl
        refine one_ (i := 4) (N := some 17) #[true, true, true, true, true, false, false, false, false, false, false, false, false, false, false, false, false, false, false, false, false, false, false, false] rfl rfl (one_of HT_.out (by kernel_rfl)) (by decide) (fun K hK => ?_)
        refine goes_ Try.func28 (by kernel_rfl) rfl #[.agg #[.int .i64 ((rd_T55 l0 x3_1).f0), .int .i64 ((rd_T55 l0 x3_1).f1.f0.f0), .int .i64 ((rd_T55 l0 x3_1).f1.f0.f1), .int .i64 ((rd_T55 l0 x3_1).f1.f0.f2), .int .i64 ((rd_T55 l0 x3_1).f1.f0.f3), .int .i64 ((rd_T55 l0 x3_1).f1.f0.f4), .int .i64 ((rd_T55 l0 x3_1).f1.f1), .int .i64 ((rd_T55 l0 x3_1).f2.f0.f0), .int .i64 ((rd_T55 l0 x3_1).f2.f0.f1), .int .i64 ((rd_T55 l0 x3_1).f2.f0.f2), .int .i64 ((rd_T55 l0 x3_1).f2.f0.f3), .int .i64 ((rd_T55 l0 x3_1).f2.f0.f4), .int .i64 ((rd_T55 l0 x3_1).f2.f1), .int .i64 ((rd_T55 l0 x3_1).f3), .int .i64 ((rd_T55 l0 x3_1).f4), .int .i64 ((rd_T55 l0 x3_1).f5), .int .i64 ((rd_T55 l0 x3_1).f6), .int .i64 ((rd_T55 l0 x3_1).f7), .int .i64 ((rd_T55 l0 x3_1).f8), .int .i64 ((rd_T55 l0 x3_1).f9), .int .i64 ((rd_T55 l0 x3_1).f10)]] (by rfl) rfl rfl Gv.lm ?_
        with_reducible refine (spec_RuleOk.calls k1 ((rd_T55 l0 x3_1).f0) ((rd_T55 l0 x3_1).f1.f0.f0) ((rd_T55 l0 x3_1).f1.f0.f1) ((rd_T55 l0 x3_1).f1.f0.f2) ((rd_T55 l0 x3_1).f1.f0.f3) ((rd_T55 l0 x3_1).f1.f0.f4) ((rd_T55 l0 x3_1).f1.f1) ((rd_T55 l0 x3_1).f2.f0.f0) ((rd_T55 l0 x3_1).f2.f0.f1) ((rd_T55 l0 x3_1).f2.f0.f2) ((rd_T55 l0 x3_1).f2.f0.f3) ((rd_T55 l0 x3_1).f2.f0.f4) ((rd_T55 l0 x3_1).f2.f1) ((rd_T55 l0 x3_1).f3) ((rd_T55 l0 x3_1).f4) ((rd_T55 l0 x3_1).f5) ((rd_T55 l0 x3_1).f6) ((rd_T55 l0 x3_1).f7) ((rd_T55 l0 x3_1).f8) ((rd_T55 l0 x3_1).f9) ((rd_T55 l0 x3_1).f10) true _ A5.out).mono ?_
        rintro e w17 ⟨rfl, hb⟩
        refine ⟨_, rfl, ?_⟩
        have n0_ := Gv.a0 (below_step Gv.bw hb)
        clear HB
        have HB := n0_
        clear n0_
        (try clear hb)
        (try clear hb2)
        (try clear hk)
        (try clear hi)
        refine hK.out _ _ ⟨(Gv.bx HB.out hw258_0), (Gv.bx HB.out hw258_1), (Gv.bx HB.out hw258_2), (Gv.bx HB.out hw258_3), (Gv.bx HB.out hw258_4), (Gv.bx HB.out hw258_5), (Gv.bx HB.out hw258_6), (Gv.bx HB.out hw258_7), (Gv.bx HB.out hw258_8), (Gv.bx HB.out hw258_9), (Gv.bx HB.out hw258_10), (Gv.bx HB.out hw258_11), (Gv.bx HB.out hw258_12), (Gv.bx HB.out hw258_13), (Gv.bx HB.out hw258_14), (Gv.bx HB.out hw258_15), (Gv.bx HB.out hw258_16), (Gv.bx HB.out hw258_17), (Gv.bx HB.out hw258_18), (Gv.bx HB.out hw258_19), (Gv.bx HB.out hw258_20)⟩ (fun hHeld => ?_)
        clear hK K
        refine norm_ (a' := ?_) ?_ ?_
        rotate_left
        ·show Act.put _ (some 17) _ = _
         simp only [Act.put, List.setIfInBounds_toArray, List.set_cons_zero, List.set_cons_succ, i64_w, i32_w]
         rfl
        refine Gv.pu 5 (some 18) HT_ ?_
        refine Gv.pu 6 (some 19) HT_ ?_
        refine Gv.pu 7 (some 20) HT_ ?_
        refine Gv.pu 8 (some 21) HT_ ?_
        refine Gv.pu 9 (some 22) HT_ ?_
        refine Gv.pn 10 (some 23) HT_ ?_
        refine Gv.pn 11 (some 24) HT_ ?_
        refine Gv.pn 12 (some 25) HT_ ?_
        refine Gv.pn 13 (some 26) HT_ ?_
        refine Gv.pn 14 (some 27) HT_ ?_
        refine Gv.pn 15 (some 28) HT_ ?_
        refine Gv.pn 16 (some 29) HT_ ?_
        refine Gv.pn 17 (some 30) HT_ ?_
        refine Gv.pn 18 (some 31) HT_ ?_
        refine Gv.pn 19 (some 32) HT_ ?_
        refine Gv.pn 20 (some 33) HT_ ?_
        refine Gv.pn 21 (some 34) HT_ ?_
        refine Gv.pu 22 (some 35) HT_ ?_
        refine Gv.pu 23 (some 36) HT_ ?_
        refine done_ (done_of HT_.out (by kernel_rfl)) ?_
        try go_wp2
        go_roundg k1
        case measure => have := HK1.out; omega
        case rel => exact ⟨(wrap64 (x3_1 + 1)), Gv.rq, H', ⟨by have := HK1.out; omega⟩, ⟨Gv.bw⟩⟩
      ·replace c6 := Bool.eq_false_iff.mpr c6
       subst c6
       have H1 : (some false) = some r := by rw [if_neg (show ¬ (false = true) by decide)] at H; exact H
       clear H
       have H := H1
       clear H1
       obtain rfl := Option.some.inj H
       try go_wp2
       have n0_ := Gv.a0 (below_drew1 HB.out)
       clear HB
       have HB := n0_
       clear n0_
       have p258 : 0 ≤ (x3_1 : Int) := of_decide_eq_true (by first | (with_reducible assumption) | assumption)
       have q258 : x3_1 < (l0.length : Int) := of_decide_eq_true (by first | (with_reducible assumption) | assumption)
       obtain ⟨ad258, e258, hx258_0, hx258_1, hx258_2, hx258_3, hx258_4, hx258_5, hx258_6, hx258_7, hx258_8, hx258_9, hx258_10, hx258_11, hx258_12, hx258_13, hx258_14, hx258_15, hx258_16, hx258_17, hx258_18, hx258_19, hx258_20⟩ := at_T55 HR0.out x3_1 p258 q258
       have hw258_20 := hx258_20
       have hw258_19 := hx258_19
       have hw258_18 := hx258_18
       have hw258_17 := hx258_17
       have hw258_16 := hx258_16
       have hw258_15 := hx258_15
       have hw258_14 := hx258_14
       have hw258_13 := hx258_13
       have hw258_12 := hx258_12
       have hw258_11 := hx258_11
       have hw258_10 := hx258_10
       have hw258_9 := hx258_9
       have hw258_8 := hx258_8
       have hw258_7 := hx258_7
       have hw258_6 := hx258_6
       have hw258_5 := hx258_5
       have hw258_4 := hx258_4
       have hw258_3 := hx258_3
       have hw258_2 := hx258_2
       have hw258_1 := hx258_1
       have hw258_0 := hx258_0
       cases e258
       replace hx258_0 := Gv.bx HB.out hx258_0
       replace hx258_1 := Gv.bx HB.out hx258_1
       replace hx258_2 := Gv.bx HB.out hx258_2
       replace hx258_3 := Gv.bx HB.out hx258_3
       replace hx258_4 := Gv.bx HB.out hx258_4
       replace hx258_5 := Gv.bx HB.out hx258_5
       replace hx258_6 := Gv.bx HB.out hx258_6
       replace hx258_7 := Gv.bx HB.out hx258_7
       replace hx258_8 := Gv.bx HB.out hx258_8
       replace hx258_9 := Gv.bx HB.out hx258_9
       replace hx258_10 := Gv.bx HB.out hx258_10
       replace hx258_11 := Gv.bx HB.out hx258_11
       replace hx258_12 := Gv.bx HB.out hx258_12
       replace hx258_13 := Gv.bx HB.out hx258_13
       replace hx258_14 := Gv.bx HB.out hx258_14
       replace hx258_15 := Gv.bx HB.out hx258_15
       replace hx258_16 := Gv.bx HB.out hx258_16
       replace hx258_17 := Gv.bx HB.out hx258_17
       replace hx258_18 := Gv.bx HB.out hx258_18
       replace hx258_19 := Gv.bx HB.out hx258_19
       replace hx258_20 := Gv.bx HB.out hx258_20
       replace p258 := eq_true p258
       replace q258 := eq_true q258
       refine start_ (n := 24) (S := fun w' => w'.cell? (ad258.add ((x3_1).toNat * 21)) = some (.int .i64 ((rd_T55 l0 x3_1).f0)) ∧ w'.cell? ⟨(ad258.add ((x3_1).toNat * 21)).block, (ad258.add ((x3_1).toNat * 21)).off + 1, none⟩ = some (.int .i64 ((rd_T55 l0 x3_1).f1.f0.f0)) ∧ w'.cell? ⟨(ad258.add ((x3_1).toNat * 21)).block, (ad258.add ((x3_1).toNat * 21)).off + 2, none⟩ = some (.int .i64 ((rd_T55 l0 x3_1).f1.f0.f1)) ∧ w'.cell? ⟨(ad258.add ((x3_1).toNat * 21)).block, (ad258.add ((x3_1).toNat * 21)).off + 3, none⟩ = some (.int .i64 ((rd_T55 l0 x3_1).f1.f0.f2)) ∧ w'.cell? ⟨(ad258.add ((x3_1).toNat * 21)).block, (ad258.add ((x3_1).toNat * 21)).off + 4, none⟩ = some (.int .i64 ((rd_T55 l0 x3_1).f1.f0.f3)) ∧ w'.cell? ⟨(ad258.add ((x3_1).toNat * 21)).block, (ad258.add ((x3_1).toNat * 21)).off + 5, none⟩ = some (.int .i64 ((rd_T55 l0 x3_1).f1.f0.f4)) ∧ w'.cell? ⟨(ad258.add ((x3_1).toNat * 21)).block, (ad258.add ((x3_1).toNat * 21)).off + 6, none⟩ = some (.int .i64 ((rd_T55 l0 x3_1).f1.f1)) ∧ w'.cell? ⟨(ad258.add ((x3_1).toNat * 21)).block, (ad258.add ((x3_1).toNat * 21)).off + 7, none⟩ = some (.int .i64 ((rd_T55 l0 x3_1).f2.f0.f0)) ∧ w'.cell? ⟨(ad258.add ((x3_1).toNat * 21)).block, (ad258.add ((x3_1).toNat * 21)).off + 8, none⟩ = some (.int .i64 ((rd_T55 l0 x3_1).f2.f0.f1)) ∧ w'.cell? ⟨(ad258.add ((x3_1).toNat * 21)).block, (ad258.add ((x3_1).toNat * 21)).off + 9, none⟩ = some (.int .i64 ((rd_T55 l0 x3_1).f2.f0.f2)) ∧ w'.cell? ⟨(ad258.add ((x3_1).toNat * 21)).block, (ad258.add ((x3_1).toNat * 21)).off + 10, none⟩ = some (.int .i64 ((rd_T55 l0 x3_1).f2.f0.f3)) ∧ w'.cell? ⟨(ad258.add ((x3_1).toNat * 21)).block, (ad258.add ((x3_1).toNat * 21)).off + 11, none⟩ = some (.int .i64 ((rd_T55 l0 x3_1).f2.f0.f4)) ∧ w'.cell? ⟨(ad258.add ((x3_1).toNat * 21)).block, (ad258.add ((x3_1).toNat * 21)).off + 12, none⟩ = some (.int .i64 ((rd_T55 l0 x3_1).f2.f1)) ∧ w'.cell? ⟨(ad258.add ((x3_1).toNat * 21)).block, (ad258.add ((x3_1).toNat * 21)).off + 13, none⟩ = some (.int .i64 ((rd_T55 l0 x3_1).f3)) ∧ w'.cell? ⟨(ad258.add ((x3_1).toNat * 21)).block, (ad258.add ((x3_1).toNat * 21)).off + 14, none⟩ = some (.int .i64 ((rd_T55 l0 x3_1).f4)) ∧ w'.cell? ⟨(ad258.add ((x3_1).toNat * 21)).block, (ad258.add ((x3_1).toNat * 21)).off + 15, none⟩ = some (.int .i64 ((rd_T55 l0 x3_1).f5)) ∧ w'.cell? ⟨(ad258.add ((x3_1).toNat * 21)).block, (ad258.add ((x3_1).toNat * 21)).off + 16, none⟩ = some (.int .i64 ((rd_T55 l0 x3_1).f6)) ∧ w'.cell? ⟨(ad258.add ((x3_1).toNat * 21)).block, (ad258.add ((x3_1).toNat * 21)).off + 17, none⟩ = some (.int .i64 ((rd_T55 l0 x3_1).f7)) ∧ w'.cell? ⟨(ad258.add ((x3_1).toNat * 21)).block, (ad258.add ((x3_1).toNat * 21)).off + 18, none⟩ = some (.int .i64 ((rd_T55 l0 x3_1).f8)) ∧ w'.cell? ⟨(ad258.add ((x3_1).toNat * 21)).block, (ad258.add ((x3_1).toNat * 21)).off + 19, none⟩ = some (.int .i64 ((rd_T55 l0 x3_1).f9)) ∧ w'.cell? ⟨(ad258.add ((x3_1).toNat * 21)).block, (ad258.add ((x3_1).toNat * 21)).off + 20, none⟩ = some (.int .i64 ((rd_T55 l0 x3_1).f10))) (ds := []) #[false, false, false, false, false, false, false, false, false, false, false, false, false, false, false, false, false, false, false, false, false, false, false, false] (by kernel_rfl) rfl rfl ⟨(Gv.bx HB.out hw258_0), (Gv.bx HB.out hw258_1), (Gv.bx HB.out hw258_2), (Gv.bx HB.out hw258_3), (Gv.bx HB.out hw258_4), (Gv.bx HB.out hw258_5), (Gv.bx HB.out hw258_6), (Gv.bx HB.out hw258_7), (Gv.bx HB.out hw258_8), (Gv.bx HB.out hw258_9), (Gv.bx HB.out hw258_10), (Gv.bx HB.out hw258_11), (Gv.bx HB.out hw258_12), (Gv.bx HB.out hw258_13), (Gv.bx HB.out hw258_14), (Gv.bx HB.out hw258_15), (Gv.bx HB.out hw258_16), (Gv.bx HB.out hw258_17), (Gv.bx HB.out hw258_18), (Gv.bx HB.out hw258_19), (Gv.bx HB.out hw258_20)⟩ (fun hHeld => ?_); refine with_tabW spec_RulesOk.tab6 spec_RulesOk.bits6 (fun HT_ HW_ => ?_)
       generalize wr.drew = w18 at HB hx258_0 hx258_1 hx258_10 hx258_11 hx258_12 hx258_13 hx258_14 hx258_15 hx258_16 hx258_17 hx258_18 hx258_19 hx258_2 hx258_20 hx258_3 hx258_4 hx258_5 hx258_6 hx258_7 hx258_8 hx258_9 hHeld ⊢
       refine Gv.pu 0 (some 13) HT_ ?_
       refine Gv.pu 1 (some 14) HT_ ?_
       refine Gv.pu 2 (some 15) HT_ ?_
       refine take_ (i := 3) (N := some 16) (v := ?_) (a' := ?_) #[true, true, true, true, false, false, false, false, false, false, false, false, false, false, false, false, false, false, false, false, false, false, false, false] rfl rfl (take_ofW HT_.out HW_.out (by kernel_rfl)) (fun _ _ _ h => h) (Or.inl ⟨by rfl, ?_⟩) hHeld ?_ ?_
       rotate_left
       ·rintro w' ⟨s0, s1, s2, s3, s4, s5, s6, s7, s8, s9, s10, s11, s12, s13, s14, s15, s16, s17, s18, s19, s20⟩
        first | ((refine Gv.load_run (t := 55) (A := ad258.add ((x3_1).toNat * 21)) (cs := [_, _, _, _, _, _, _, _, _, _, _, _, _, _, _, _, _, _, _, _, _]) (x := ?xx21_) ?ho21_ ?hx21_ ⟨s0, s1, s2, s3, s4, s5, s6, s7, s8, s9, s10, s11, s12, s13, s14, s15, s16, s17, s18, s19, s20, trivial⟩ Try.underlying55 rfl (by kernel_rfl)); (case ho21_ => rfl); (case hx21_ => rfl)) | (go_simp; with_reducible rfl)
       rotate_left
       ·simp only [Act.put, List.setIfInBounds_toArray, List.set_cons_zero, List.set_cons_succ, i64_w, i32_w]
        rfl
       refine one_ (i := 4) (N := some 17) #[true, true, true, true, true, false, false, false, false, false, false, false, false, false, false, false, false, false, false, false, false, false, false, false] rfl rfl (one_of HT_.out (by kernel_rfl)) (by decide) (fun K hK => ?_)
       refine goes_ Try.func28 (by kernel_rfl) rfl #[.agg #[.int .i64 ((rd_T55 l0 x3_1).f0), .int .i64 ((rd_T55 l0 x3_1).f1.f0.f0), .int .i64 ((rd_T55 l0 x3_1).f1.f0.f1), .int .i64 ((rd_T55 l0 x3_1).f1.f0.f2), .int .i64 ((rd_T55 l0 x3_1).f1.f0.f3), .int .i64 ((rd_T55 l0 x3_1).f1.f0.f4), .int .i64 ((rd_T55 l0 x3_1).f1.f1), .int .i64 ((rd_T55 l0 x3_1).f2.f0.f0), .int .i64 ((rd_T55 l0 x3_1).f2.f0.f1), .int .i64 ((rd_T55 l0 x3_1).f2.f0.f2), .int .i64 ((rd_T55 l0 x3_1).f2.f0.f3), .int .i64 ((rd_T55 l0 x3_1).f2.f0.f4), .int .i64 ((rd_T55 l0 x3_1).f2.f1), .int .i64 ((rd_T55 l0 x3_1).f3), .int .i64 ((rd_T55 l0 x3_1).f4), .int .i64 ((rd_T55 l0 x3_1).f5), .int .i64 ((rd_T55 l0 x3_1).f6), .int .i64 ((rd_T55 l0 x3_1).f7), .int .i64 ((rd_T55 l0 x3_1).f8), .int .i64 ((rd_T55 l0 x3_1).f9), .int .i64 ((rd_T55 l0 x3_1).f10)]] (by rfl) rfl rfl Gv.lm ?_
       with_reducible refine (spec_RuleOk.calls k1 ((rd_T55 l0 x3_1).f0) ((rd_T55 l0 x3_1).f1.f0.f0) ((rd_T55 l0 x3_1).f1.f0.f1) ((rd_T55 l0 x3_1).f1.f0.f2) ((rd_T55 l0 x3_1).f1.f0.f3) ((rd_T55 l0 x3_1).f1.f0.f4) ((rd_T55 l0 x3_1).f1.f1) ((rd_T55 l0 x3_1).f2.f0.f0) ((rd_T55 l0 x3_1).f2.f0.f1) ((rd_T55 l0 x3_1).f2.f0.f2) ((rd_T55 l0 x3_1).f2.f0.f3) ((rd_T55 l0 x3_1).f2.f0.f4) ((rd_T55 l0 x3_1).f2.f1) ((rd_T55 l0 x3_1).f3) ((rd_T55 l0 x3_1).f4) ((rd_T55 l0 x3_1).f5) ((rd_T55 l0 x3_1).f6) ((rd_T55 l0 x3_1).f7) ((rd_T55 l0 x3_1).f8) ((rd_T55 l0 x3_1).f9) ((rd_T55 l0 x3_1).f10) false _ A5.out).mono ?_
       rintro e w19 ⟨rfl, hb⟩
       refine ⟨_, rfl, ?_⟩
       have n0_ := Gv.a0 (below_step Gv.bw hb)
       clear HB
       have HB := n0_
       clear n0_
       (try clear hb)
       (try clear hb2)
       (try clear hk)
       (try clear hi)
       refine hK.out _ _ ⟨(Gv.bx HB.out hw258_0), (Gv.bx HB.out hw258_1), (Gv.bx HB.out hw258_2), (Gv.bx HB.out hw258_3), (Gv.bx HB.out hw258_4), (Gv.bx HB.out hw258_5), (Gv.bx HB.out hw258_6), (Gv.bx HB.out hw258_7), (Gv.bx HB.out hw258_8), (Gv.bx HB.out hw258_9), (Gv.bx HB.out hw258_10), (Gv.bx HB.out hw258_11), (Gv.bx HB.out hw258_12), (Gv.bx HB.out hw258_13), (Gv.bx HB.out hw258_14), (Gv.bx HB.out hw258_15), (Gv.bx HB.out hw258_16), (Gv.bx HB.out hw258_17), (Gv.bx HB.out hw258_18), (Gv.bx HB.out hw258_19), (Gv.bx HB.out hw258_20)⟩ (fun hHeld => ?_)
       clear hK K
       refine norm_ (a' := ?_) ?_ ?_
       rotate_left
       ·show Act.put _ (some 17) _ = _
        simp only [Act.put, List.setIfInBounds_toArray, List.set_cons_zero, List.set_cons_succ, i64_w, i32_w]
        rfl
       refine Gv.pu 5 (some 18) HT_ ?_
       refine Gv.pu 6 (some 19) HT_ ?_
       refine Gv.pn 7 (some 20) HT_ ?_
       refine Gv.pn 8 (some 21) HT_ ?_
       refine Gv.pn 9 (some 22) HT_ ?_
       refine Gv.pn 10 (some 23) HT_ ?_
       refine Gv.pn 11 (some 24) HT_ ?_
       refine Gv.pn 12 (some 25) HT_ ?_
       refine Gv.pn 13 (some 26) HT_ ?_
       refine Gv.pn 14 (some 27) HT_ ?_
       refine Gv.pn 15 (some 28) HT_ ?_
       refine Gv.pn 16 (some 29) HT_ ?_
       refine Gv.pn 17 (some 30) HT_ ?_
       refine Gv.pn 18 (some 31) HT_ ?_
       refine Gv.pn 19 (some 32) HT_ ?_
       refine Gv.pn 20 (some 33) HT_ ?_
       refine Gv.pn 21 (some 34) HT_ ?_
       refine Gv.pn 22 (some 35) HT_ ?_
       refine Gv.pu 23 (some 36) HT_ ?_
       refine done_ (done_of HT_.out (by kernel_rfl)) ?_
       try go_wp2
       go_ret
       exact ⟨Gv.rt, Gv.bw⟩
     ·rw [if_neg c4] at H
      exact absurd H (by simp)
    ·rw [if_neg c3] at H
     have c3b0 : decide (x3_1 < (l0.length : Int)) = false := decide_eq_false c3
     clear c3
     obtain rfl := Option.some.inj H
     go_wp2
     go_ret
     exact ⟨Gv.rt, Gv.bw⟩

/-! ### spec_RuleDrop: function 22 -/
def spec_RuleDrop.l0 : Nat → List (S55) → Int → List (S55) → Int → Option ((List (S55)) × Int)
 | 0, _, _, _, _ => none
 | k + 1, x0, x1, x6, x7 => if x7 < (x0.length : Int) then (if 0 ≤ x7 then (if ((rd_T55 x0 x7).f0) = x1 then (spec_RuleDrop.l0 k x0 x1 x6 (wrap64 (x7 + 1))) else (if x6.length < 837723144972 then (spec_RuleDrop.l0 k x0 x1 (x6 ++ [(⟨(rd_T55 x0 x7).f0, (⟨(⟨(rd_T55 x0 x7).f1.f0.f0, (rd_T55 x0 x7).f1.f0.f1, (rd_T55 x0 x7).f1.f0.f2, (rd_T55 x0 x7).f1.f0.f3, (rd_T55 x0 x7).f1.f0.f4⟩ : S34), (rd_T55 x0 x7).f1.f1⟩ : S53), (⟨(⟨(rd_T55 x0 x7).f2.f0.f0, (rd_T55 x0 x7).f2.f0.f1, (rd_T55 x0 x7).f2.f0.f2, (rd_T55 x0 x7).f2.f0.f3, (rd_T55 x0 x7).f2.f0.f4⟩ : S34), (rd_T55 x0 x7).f2.f1⟩ : S53), (rd_T55 x0 x7).f3, (rd_T55 x0 x7).f4, (rd_T55 x0 x7).f5, (rd_T55 x0 x7).f6, (rd_T55 x0 x7).f7, (rd_T55 x0 x7).f8, (rd_T55 x0 x7).f9, (rd_T55 x0 x7).f10⟩ : S55)]) (wrap64 (x7 + 1))) else (none))) else (none)) else (if (x6.length : Int) = (x0.length : Int) then (some (([] : List (S55)), 4)) else (some (x6, 0)))
def spec_RuleDrop.f (k : Nat) (l0 : List (S55)) (a1 : Int) : Option ((List (S55)) × Int) := (spec_RulesOk.f k l0).bind fun t262 => (if t262 = true then (spec_RuleDrop.l0 k l0 a1 (([] : List (S55))) 0) else (some (([] : List (S55)), 1)))
theorem spec_RuleDrop.mono_l : ∀ k, (∀ y0 y1 y2 y3, LeO (spec_RuleDrop.l0 k y0 y1 y2 y3) (spec_RuleDrop.l0 (k + 1) y0 y1 y2 y3))
 | 0 => fun _ _ _ _ r h => by simp [spec_RuleDrop.l0] at h
 | k + 1 => by
  have ih0 := spec_RuleDrop.mono_l k
  ·intro y0 y1 y2 y3
   unfold spec_RuleDrop.l0
   repeat' first
   | (with_reducible exact ih0 _ _ _ _)
   | (with_reducible exact spec_RulesOk.mono _ _)
   | (with_reducible exact LeO.refl _)
   | (with_reducible exact LeO.none _)
   | (with_reducible refine LeO.ite ?_ ?_)
   | (with_reducible refine LeO.bind ?_ (fun _ => ?_))
   | exact ih0 _ _ _ _
   | exact spec_RulesOk.mono _ _
   | exact LeO.none _
   | refine LeO.ite ?_ ?_
   | refine LeO.bind ?_ (fun _ => ?_)
theorem spec_RuleDrop.mono : ∀ a0 a1 k, LeO (spec_RuleDrop.f k a0 a1) (spec_RuleDrop.f (k + 1) a0 a1) := by
 intro a0 a1 k
 have ih0 := spec_RuleDrop.mono_l k
 unfold spec_RuleDrop.f
 repeat' first
   | (with_reducible exact ih0 _ _ _ _)
   | (with_reducible exact spec_RulesOk.mono _ _)
   | (with_reducible exact LeO.refl _)
   | (with_reducible exact LeO.none _)
   | (with_reducible refine LeO.ite ?_ ?_)
   | (with_reducible refine LeO.bind ?_ (fun _ => ?_))
   | exact ih0 _ _ _ _
   | exact spec_RulesOk.mono _ _
   | exact LeO.none _
   | refine LeO.ite ?_ ?_
   | refine LeO.bind ?_ (fun _ => ?_)
set_option maxHeartbeats 8000000 in
set_option maxRecDepth 100000 in
theorem spec_RuleDrop.calls (k : Nat) (A0 : Option Addr) (c0 : Nat) (l0 : List (S55)) (a1 : Int) (r1 : List (S55)) (r2 : Int) (w : World) (hr0 : Kd.C k55 w A0 l0.length l0) (hc0 : l0.length ≤ c0) (h : spec_RuleDrop.f k l0 a1 = some (r1, r2)) :
  Calls Try.prog 22 #[.slice A0 l0.length c0, .int .i64 a1] w fun e w' => ∃ v0_ : Value, e = .returned (.tuple #[v0_, .int .i64 r2]) ∧ Kd.R k55 55 w' w.heap.size (fun _ => True) v0_ r1 ∧ Below w.heap.size w w' := by
 have hu55 := Try.underlying55
 have HR0 := Gv.a0 hr0
 have HC0 := Gv.a0 hc0
 clear hr0 hc0
 have HB := Gv.a0 (Below.refl w.heap.size w)
 have H : ((spec_RulesOk.f k l0).bind fun t262 => (if t262 = true then (spec_RuleDrop.l0 k l0 a1 (([] : List (S55))) 0) else (some (([] : List (S55)), 1)))) = some (r1, r2) := h
 clear h
 replace H := Option.bind_eq_some_iff.mp H
 obtain ⟨t262, A30, H⟩ := H
 replace H : (if t262 = true then (spec_RuleDrop.l0 k l0 a1 (([] : List (S55))) 0) else (some (([] : List (S55)), 1))) = some (r1, r2) := H
 have A3 := Gv.a0 A30
 clear A30
 by_cases c4 : t262 = true
 ·subst c4
  have H1 : (spec_RuleDrop.l0 k l0 a1 (([] : List (S55))) 0) = some (r1, r2) := by rw [if_pos rfl] at H; exact H
  clear H
  have H := H1
  clear H1
  obtain ⟨y263, hy263⟩ : ∃ y_ : List (S55), y_ = (([] : List (S55))) := ⟨_, rfl⟩
  replace H : (spec_RuleDrop.l0 k l0 a1 y263 0) = some (r1, r2) := by first | (rw [hy263]; with_reducible exact H) | (have H2_ := (Option.bind_some _ _).symm.trans H; rw [hy263]; with_reducible exact H2_) | (have H2_ := (Option.bind_some _ _).symm.trans H; with_reducible exact H2_) | with_reducible exact H | (rw [hy263]; exact H) | exact H
  have Ny263 := Gv.a0 hy263
  clear hy263
  have H' := Gv.a0 H
  clear H
  go_enter Try.func22, Try.ntmps22
  go_wp2_with (first | ((with_reducible refine gate_callee (f := 9) rfl ?_); refine goesL_ (some 9) rfl rfl Try.func9 (by kernel_rfl) rfl #[.slice A0 l0.length c0] rfl Gv.lm ?_; (with_reducible refine (spec_RulesOk.calls k _ _ l0 true _ ?side1 ?side2 A3.out).mono ?_); (case side1 => repeat (first | exact HR0.out | (with_reducible refine Kd.C_alloc ?_ _) | (with_reducible refine Kd.C_drewN ?_ _) | (with_reducible refine Kd.C_drew ?_))); (case side2 => exact HC0.out); rintro e w5 ⟨rfl, hb⟩; refine ⟨_, rfl, ?_⟩; have n0_ := Gv.a0 (below_step Gv.bw hb); clear HB; have HB := n0_; clear n0_; (try clear hb); (try clear hb2); (try clear hk); (try clear hi)) | ((with_reducible refine gate_dst (N := 11) rfl ?_); refine Kd.R_lit k55 _ 55 ?hg (N := 11) ?hd (xs := ([] : List (S55))) (inner := []) (ok := fun _ => True) (okp := fun _ => True) ?hr ?hp (fun _ hk => hk) trivial (Below.refl _ _) (Nat.le_refl _) (by simp) ?_; (case hd => rfl); (case hg => rfl); (case hr => first | (go_simp; done) | (go_simp; rfl)); (case hp => exact (Reps.none _ _)); intro v264 w6 ho7 hb hg_ hnew_; clear hg_ hnew_; (first | rw [← Ny263.out] at ho7 | (simp only [Int.reduceToNat] at ho7; rw [← Ny263.out] at ho7)); have n0_ := Gv.a0 (Kd.R_lower ho7 (below_size Gv.bw)); have n1_ := Gv.a0 (below_step Gv.bw hb); clear HB; have HO265 := n0_; have HB := n1_; clear n0_ n1_; clear hb ho7))
  go_loopg [6, 7] k (fun kq v6 v7 w' => ∃ (x6_1 : List (S55)) (x7_1 : Int), v7 = .int .i64 x7_1 ∧ Aside0 (spec_RuleDrop.l0 kq l0 a1 x6_1 x7_1 = some (r1, r2)) ∧ Aside0 (kq ≤ k) ∧ Aside0 (Kd.R k55 55 w' w.heap.size (fun _ => True) v6 x6_1) ∧ Aside0 (Below w.heap.size w w'))
  case atStart => exact ⟨(y263), (0), Gv.rq, H', ⟨Nat.le_refl _⟩, ⟨Gv.kr HO265.out⟩, ⟨Gv.bw⟩⟩
  case round =>
   clear H'
   try clear c2
   try clear p2
   try clear c4
   obtain ⟨x6_1, x7_1, rfl, HA, HK1, HO_6, HB⟩ := hrel
   cases gk with
   | zero => exact absurd HA.out (by simp [spec_RuleDrop.l0])
   | succ k1 =>
    have H := HA.out
    clear HA
    simp only [spec_RuleDrop.l0] at H
    by_cases c8 : x7_1 < (l0.length : Int)
    ·rw [if_pos c8] at H
     have c8b0 : decide (x7_1 < (l0.length : Int)) = true := decide_eq_true c8
     clear c8
     by_cases c9 : 0 ≤ x7_1
     ·rw [if_pos c9] at H
      have c9b0 : decide (0 ≤ x7_1) = true := decide_eq_true c9
      clear c9
      by_cases c10 : ((rd_T55 l0 x7_1).f0) = a1
      ·rw [if_pos c10] at H
       have c10b0 : (((rd_T55 l0 x7_1).f0) == a1) = true := beq_iff_eq.mpr c10
       have c10b1 : (((rd_T55 l0 x7_1).f0) != a1) = false := bne_eq_false_iff_eq.mpr c10
       clear c10
       have H' := Gv.a0 H
       clear H
       have p266 : 0 ≤ (x7_1 : Int) := of_decide_eq_true (by first | (with_reducible assumption) | assumption)
       have q266 : x7_1 < (l0.length : Int) := of_decide_eq_true (by first | (with_reducible assumption) | assumption)
       obtain ⟨ad266, e266, hx266_0, _, _, _, _, _, _, _, _, _, _, _, _, _, _, _, _, _, _, _, _⟩ := at_T55 HR0.out x7_1 p266 q266
       cases e266
       replace hx266_0 := Gv.bx HB.out hx266_0
       replace p266 := eq_true p266
       replace q266 := eq_true q266
       go_wp2
       go_roundg k1
       case measure => have := HK1.out; omega
       case rel => exact ⟨(x6_1), (wrap64 (x7_1 + 1)), Gv.rq, H', ⟨by have := HK1.out; omega⟩, ⟨Gv.kr HO_6.out⟩, ⟨Gv.bw⟩⟩
      ·rw [if_neg c10] at H
       have c10b0 : (((rd_T55 l0 x7_1).f0) == a1) = false := beq_eq_false_iff_ne.mpr c10
       have c10b1 : (((rd_T55 l0 x7_1).f0) != a1) = true := bne_iff_ne.mpr c10
       by_cases c11 : x6_1.length < 837723144972
       ·rw [if_pos c11] at H
        have LMc11 := Gv.a0 c11
        clear c11
        obtain ⟨y268, hy268⟩ : ∃ y_ : List (S55), y_ = (x6_1 ++ [(⟨(rd_T55 l0 x7_1).f0, (⟨(⟨(rd_T55 l0 x7_1).f1.f0.f0, (rd_T55 l0 x7_1).f1.f0.f1, (rd_T55 l0 x7_1).f1.f0.f2, (rd_T55 l0 x7_1).f1.f0.f3, (rd_T55 l0 x7_1).f1.f0.f4⟩ : S34), (rd_T55 l0 x7_1).f1.f1⟩ : S53), (⟨(⟨(rd_T55 l0 x7_1).f2.f0.f0, (rd_T55 l0 x7_1).f2.f0.f1, (rd_T55 l0 x7_1).f2.f0.f2, (rd_T55 l0 x7_1).f2.f0.f3, (rd_T55 l0 x7_1).f2.f0.f4⟩ : S34), (rd_T55 l0 x7_1).f2.f1⟩ : S53), (rd_T55 l0 x7_1).f3, (rd_T55 l0 x7_1).f4, (rd_T55 l0 x7_1).f5, (rd_T55 l0 x7_1).f6, (rd_T55 l0 x7_1).f7, (rd_T55 l0 x7_1).f8, (rd_T55 l0 x7_1).f9, (rd_T55 l0 x7_1).f10⟩ : S55)]) := ⟨_, rfl⟩
        replace H : (spec_RuleDrop.l0 k1 l0 a1 y268 (wrap64 (x7_1 + 1))) = some (r1, r2) := by first | (rw [hy268]; with_reducible exact H) | (have H2_ := (Option.bind_some _ _).symm.trans H; rw [hy268]; with_reducible exact H2_) | (have H2_ := (Option.bind_some _ _).symm.trans H; with_reducible exact H2_) | with_reducible exact H | (rw [hy268]; exact H) | exact H
        have Ny268 := Gv.a0 hy268
        clear hy268
        have H' := Gv.a0 H
        clear H
        have p266 : 0 ≤ (x7_1 : Int) := of_decide_eq_true (by first | (with_reducible assumption) | assumption)
        have q266 : x7_1 < (l0.length : Int) := of_decide_eq_true (by first | (with_reducible assumption) | assumption)
        obtain ⟨ad266, e266, hx266_0, _, _, _, _, _, _, _, _, _, _, _, _, _, _, _, _, _, _, _, _⟩ := at_T55 HR0.out x7_1 p266 q266
        cases e266
        replace hx266_0 := Gv.bx HB.out hx266_0
        replace p266 := eq_true p266
        replace q266 := eq_true q266
        have p267 : 0 ≤ (x7_1 : Int) := of_decide_eq_true (by first | (with_reducible assumption) | assumption)
        have q267 : x7_1 < (l0.length : Int) := of_decide_eq_true (by first | (with_reducible assumption) | assumption)
        obtain ⟨ad267, e267, hx267_0, hx267_1, hx267_2, hx267_3, hx267_4, hx267_5, hx267_6, hx267_7, hx267_8, hx267_9, hx267_10, hx267_11, hx267_12, hx267_13, hx267_14, hx267_15, hx267_16, hx267_17, hx267_18, hx267_19, hx267_20⟩ := at_T55 HR0.out x7_1 p267 q267
        obtain rfl : ad266 = ad267 := (by injection e267)
        replace hx267_0 := Gv.bx HB.out hx267_0
        replace hx267_1 := Gv.bx HB.out hx267_1
        replace hx267_2 := Gv.bx HB.out hx267_2
        replace hx267_3 := Gv.bx HB.out hx267_3
        replace hx267_4 := Gv.bx HB.out hx267_4
        replace hx267_5 := Gv.bx HB.out hx267_5
        replace hx267_6 := Gv.bx HB.out hx267_6
        replace hx267_7 := Gv.bx HB.out hx267_7
        replace hx267_8 := Gv.bx HB.out hx267_8
        replace hx267_9 := Gv.bx HB.out hx267_9
        replace hx267_10 := Gv.bx HB.out hx267_10
        replace hx267_11 := Gv.bx HB.out hx267_11
        replace hx267_12 := Gv.bx HB.out hx267_12
        replace hx267_13 := Gv.bx HB.out hx267_13
        replace hx267_14 := Gv.bx HB.out hx267_14
        replace hx267_15 := Gv.bx HB.out hx267_15
        replace hx267_16 := Gv.bx HB.out hx267_16
        replace hx267_17 := Gv.bx HB.out hx267_17
        replace hx267_18 := Gv.bx HB.out hx267_18
        replace hx267_19 := Gv.bx HB.out hx267_19
        replace hx267_20 := Gv.bx HB.out hx267_20
        replace p267 := eq_true p267
        replace q267 := eq_true q267
        go_wp2_with (first | ((with_reducible refine gate_builtin (b := .append) (xs := #[.tmp 25, .tmp 30]) rfl ?_); at_builtin; refine Kd.R_append k55 (w0 := w) w.heap.size rfl (.tmp 25) (.tmp 30) 25 55 (.agg #[(.int .i64 0), (.int .i64 0), (.int .i64 0), (.int .i64 0), (.int .i64 0), (.int .i64 0), (.int .i64 0), (.int .i64 0), (.int .i64 0), (.int .i64 0), (.int .i64 0), (.int .i64 0), (.int .i64 0), (.int .i64 0), (.int .i64 0), (.int .i64 0), (.int .i64 0), (.int .i64 0), (.int .i64 0), (.int .i64 0), (.int .i64 0)]) 168 rfl Try.underlying25 info55 rfl (by decide) (by omega) u6 x6_1 (⟨(rd_T55 l0 x7_1).f0, (⟨(⟨(rd_T55 l0 x7_1).f1.f0.f0, (rd_T55 l0 x7_1).f1.f0.f1, (rd_T55 l0 x7_1).f1.f0.f2, (rd_T55 l0 x7_1).f1.f0.f3, (rd_T55 l0 x7_1).f1.f0.f4⟩ : S34), (rd_T55 l0 x7_1).f1.f1⟩ : S53), (⟨(⟨(rd_T55 l0 x7_1).f2.f0.f0, (rd_T55 l0 x7_1).f2.f0.f1, (rd_T55 l0 x7_1).f2.f0.f2, (rd_T55 l0 x7_1).f2.f0.f3, (rd_T55 l0 x7_1).f2.f0.f4⟩ : S34), (rd_T55 l0 x7_1).f2.f1⟩ : S53), (rd_T55 l0 x7_1).f3, (rd_T55 l0 x7_1).f4, (rd_T55 l0 x7_1).f5, (rd_T55 l0 x7_1).f6, (rd_T55 l0 x7_1).f7, (rd_T55 l0 x7_1).f8, (rd_T55 l0 x7_1).f9, (rd_T55 l0 x7_1).f10⟩ : S55) [.int .i64 ((rd_T55 l0 x7_1).f0), .int .i64 ((rd_T55 l0 x7_1).f1.f0.f0), .int .i64 ((rd_T55 l0 x7_1).f1.f0.f1), .int .i64 ((rd_T55 l0 x7_1).f1.f0.f2), .int .i64 ((rd_T55 l0 x7_1).f1.f0.f3), .int .i64 ((rd_T55 l0 x7_1).f1.f0.f4), .int .i64 ((rd_T55 l0 x7_1).f1.f1), .int .i64 ((rd_T55 l0 x7_1).f2.f0.f0), .int .i64 ((rd_T55 l0 x7_1).f2.f0.f1), .int .i64 ((rd_T55 l0 x7_1).f2.f0.f2), .int .i64 ((rd_T55 l0 x7_1).f2.f0.f3), .int .i64 ((rd_T55 l0 x7_1).f2.f0.f4), .int .i64 ((rd_T55 l0 x7_1).f2.f1), .int .i64 ((rd_T55 l0 x7_1).f3), .int .i64 ((rd_T55 l0 x7_1).f4), .int .i64 ((rd_T55 l0 x7_1).f5), .int .i64 ((rd_T55 l0 x7_1).f6), .int .i64 ((rd_T55 l0 x7_1).f7), .int .i64 ((rd_T55 l0 x7_1).f8), .int .i64 ((rd_T55 l0 x7_1).f9), .int .i64 ((rd_T55 l0 x7_1).f10)] (fun _ => True) (fun _ => False) rfl rfl ?aP (fun _ hk => hk.elim) ?aF ?aO ?aB ?aS ?aL ?_; (case aP => exact k55_mkM _ _ _ (⟨(rd_T55 l0 x7_1).f0, (⟨(⟨(rd_T55 l0 x7_1).f1.f0.f0, (rd_T55 l0 x7_1).f1.f0.f1, (rd_T55 l0 x7_1).f1.f0.f2, (rd_T55 l0 x7_1).f1.f0.f3, (rd_T55 l0 x7_1).f1.f0.f4⟩ : S34), (rd_T55 l0 x7_1).f1.f1⟩ : S53), (⟨(⟨(rd_T55 l0 x7_1).f2.f0.f0, (rd_T55 l0 x7_1).f2.f0.f1, (rd_T55 l0 x7_1).f2.f0.f2, (rd_T55 l0 x7_1).f2.f0.f3, (rd_T55 l0 x7_1).f2.f0.f4⟩ : S34), (rd_T55 l0 x7_1).f2.f1⟩ : S53), (rd_T55 l0 x7_1).f3, (rd_T55 l0 x7_1).f4, (rd_T55 l0 x7_1).f5, (rd_T55 l0 x7_1).f6, (rd_T55 l0 x7_1).f7, (rd_T55 l0 x7_1).f8, (rd_T55 l0 x7_1).f9, (rd_T55 l0 x7_1).f10⟩ : S55)); (case aB => exact Gv.bw); (case aF => exact (fun _ _ => trivial)); (case aO => exact (Gv.kr HO_6.out)); (case aS => exact (below_size Gv.bw)); (case aL => have := LMc11.out; omega); intro v269 w12 ho hb hg hat; rw [← Ny268.out] at ho; have n0_ := Gv.a0 (hb); have n1_ := Gv.a0 (ho); clear HB; clear HO_6; have HB := n0_; have HO270 := n1_; clear n0_ n1_; clear ho hb hg hat) | ((with_reducible refine Gv.gate_load (t := 55) rfl ?_); refine Gv.load_event (cs := [_, _, _, _, _, _, _, _, _, _, _, _, _, _, _, _, _, _, _, _, _]) rfl rfl rfl ⟨hx267_0, hx267_1, hx267_2, hx267_3, hx267_4, hx267_5, hx267_6, hx267_7, hx267_8, hx267_9, hx267_10, hx267_11, hx267_12, hx267_13, hx267_14, hx267_15, hx267_16, hx267_17, hx267_18, hx267_19, hx267_20, trivial⟩ Try.underlying55 rfl (by kernel_rfl) ?_))
        go_roundg k1
        case measure => have := HK1.out; omega
        case rel => exact ⟨(y268), (wrap64 (x7_1 + 1)), Gv.rq, H', ⟨by have := HK1.out; omega⟩, ⟨Gv.kr HO270.out⟩, ⟨Gv.bw⟩⟩
       ·rw [if_neg c11] at H
        exact absurd H (by simp)
     ·rw [if_neg c9] at H
      exact absurd H (by simp)
    ·rw [if_neg c8] at H
     have c8b0 : decide (x7_1 < (l0.length : Int)) = false := decide_eq_false c8
     clear c8
     by_cases c13 : (x6_1.length : Int) = (l0.length : Int)
     ·rw [if_pos c13] at H
      have c13b0 : ((x6_1.length : Int) == (l0.length : Int)) = true := beq_iff_eq.mpr c13
      have c13b1 : ((x6_1.length : Int) != (l0.length : Int)) = false := bne_eq_false_iff_eq.mpr c13
      have c13b2 : (x6_1.length == l0.length) = true := by first | simpa using c13 | (simp at c13 ⊢; omega)
      clear c13
      simp only [Option.some.injEq, Prod.mk.injEq] at H
      obtain ⟨rfl, rfl⟩ := H
      obtain ⟨Ao14, co14, eo14⟩ := Kd.R_slice HO_6.out
      subst eo14
      go_wp2
      go_ret2
      exact ⟨_, Gv.rt, by first | exact Kd.R_nil _ _ _ _ _ | exact Kd.N_nil _ _ _ _ _ | exact Kd.V_nil _ _ _ _ _ | exact Kd.Q_nil _ _ _ _ _ | exact Kd.S_nil _ _ _ _ _, Gv.bw⟩
     ·rw [if_neg c13] at H
      have c13b0 : ((x6_1.length : Int) == (l0.length : Int)) = false := beq_eq_false_iff_ne.mpr c13
      have c13b1 : ((x6_1.length : Int) != (l0.length : Int)) = true := bne_iff_ne.mpr c13
      have c13b2 : (x6_1.length == l0.length) = false := by first | simpa using c13 | (simp at c13 ⊢; omega)
      simp only [Option.some.injEq, Prod.mk.injEq] at H
      obtain ⟨rfl, rfl⟩ := H
      obtain ⟨Ao15, co15, eo15⟩ := Kd.R_slice HO_6.out
      subst eo15
      go_wp2
      go_ret2
      exact ⟨_, Gv.rt, Gv.kr HO_6.out, Gv.bw⟩
 ·replace c4 := Bool.eq_false_iff.mpr c4
  subst c4
  have H1 : (some (([] : List (S55)), 1)) = some (r1, r2) := by rw [if_neg (show ¬ (false = true) by decide)] at H; exact H
  clear H
  have H := H1
  clear H1
  simp only [Option.some.injEq, Prod.mk.injEq] at H
  obtain ⟨rfl, rfl⟩ := H
  go_enter Try.func22, Try.ntmps22
  go_wp2_with (first | ((with_reducible refine gate_callee (f := 9) rfl ?_); refine goesL_ (some 9) rfl rfl Try.func9 (by kernel_rfl) rfl #[.slice A0 l0.length c0] rfl Gv.lm ?_; (with_reducible refine (spec_RulesOk.calls k _ _ l0 false _ ?side1 ?side2 A3.out).mono ?_); (case side1 => repeat (first | exact HR0.out | (with_reducible refine Kd.C_alloc ?_ _) | (with_reducible refine Kd.C_drewN ?_ _) | (with_reducible refine Kd.C_drew ?_))); (case side2 => exact HC0.out); rintro e w16 ⟨rfl, hb⟩; refine ⟨_, rfl, ?_⟩; have n0_ := Gv.a0 (below_step Gv.bw hb); clear HB; have HB := n0_; clear n0_; (try clear hb); (try clear hb2); (try clear hk); (try clear hi)))
  go_ret2
  exact ⟨_, Gv.rt, by first | exact Kd.R_nil _ _ _ _ _ | exact Kd.N_nil _ _ _ _ _ | exact Kd.V_nil _ _ _ _ _ | exact Kd.Q_nil _ _ _ _ _ | exact Kd.S_nil _ _ _ _ _, Gv.bw⟩

/-! ### impl_within: function 46 -/
def impl_within.f (a0 : Int) (a1 : Int) (a2 : Int) : Option (Bool) := if a0 ≥ a1 then (some (decide (a0 ≤ a2))) else (some false)
set_option maxHeartbeats 8000000 in
set_option maxRecDepth 100000 in
theorem impl_within.calls (a0 : Int) (a1 : Int) (a2 : Int) (r : Bool) (w : World) (h : impl_within.f a0 a1 a2 = some r) :
  Calls Try.prog 46 #[.int .i64 a0, .int .i64 a1, .int .i64 a2] w fun e w' => e = .returned (.bool r) ∧ Drawn0 w w' := by
 have H : (if a0 ≥ a1 then (some (decide (a0 ≤ a2))) else (some false)) = some r := h
 clear h
 by_cases c4 : a0 ≥ a1
 ·rw [if_pos c4] at H
  have c4b0 : decide (a1 ≤ a0) = true := decide_eq_true c4
  clear c4
  obtain rfl := Option.some.inj H
  go_enter Try.func46, Try.ntmps46
  go_wp2
  go_ret
  exact ⟨by first | rfl | (simp; done) | (simp [Int.tdiv_eq_ediv_of_nonneg]; done) | (simp [*]; done), by repeat (first | exact Drawn0.refl _ | apply Drawn0.step)⟩
 ·rw [if_neg c4] at H
  have c4b0 : decide (a1 ≤ a0) = false := decide_eq_false c4
  clear c4
  obtain rfl := Option.some.inj H
  go_enter Try.func46, Try.ntmps46
  go_wp2
  go_ret
  exact ⟨by first | rfl | (simp; done) | (simp [Int.tdiv_eq_ediv_of_nonneg]; done) | (simp [*]; done), by repeat (first | exact Drawn0.refl _ | apply Drawn0.step)⟩

/-! ### impl_isAny: function 64 -/
def impl_isAny.f (a0_0 : Int) (a0_1 : Int) (a0_2 : Int) (a0_3 : Int) (a0_4 : Int) (a0_5 : Int) : Option (Bool) := some ((a0_0 == 0 && (a0_1 == 0 && (a0_2 == 0 && (a0_3 == 0 && (a0_4 == 0))))) && (a0_5 == 0))
set_option maxHeartbeats 8000000 in
set_option maxRecDepth 100000 in
theorem impl_isAny.calls (a0_0 : Int) (a0_1 : Int) (a0_2 : Int) (a0_3 : Int) (a0_4 : Int) (a0_5 : Int) (r : Bool) (w : World) (h : impl_isAny.f a0_0 a0_1 a0_2 a0_3 a0_4 a0_5 = some r) :
  Calls Try.prog 64 #[.agg #[.int .i64 a0_0, .int .i64 a0_1, .int .i64 a0_2, .int .i64 a0_3, .int .i64 a0_4, .int .i64 a0_5]] w fun e w' => e = .returned (.bool r) ∧ Below w.heap.size w w' := by
 have hu53 := Try.underlying53
 have HB := Gv.a0 (Below.refl w.heap.size w)
 have H : (some ((a0_0 == 0 && (a0_1 == 0 && (a0_2 == 0 && (a0_3 == 0 && (a0_4 == 0))))) && (a0_5 == 0))) = some r := h
 clear h
 obtain rfl := Option.some.inj H
 go_enter Try.func64, Try.ntmps64
 go_wp2_with (first | ((with_reducible refine gate_dst (N := 1) rfl ?_); refine box_event ?hg (N := 1) ?hd (cs := #[.int .i64 a0_0, .int .i64 a0_1, .int .i64 a0_2, .int .i64 a0_3, .int .i64 a0_4, .int .i64 a0_5]) (t := 53) ?hr ?_; (case hd => rfl); (case hg => rfl); (case hr => first | (go_simp; done) | (go_simp; rfl)); intro gb271 hg w2 hbox hb; have n0_ := Gv.a0 (below_step Gv.bw hb); have n1_ := Gv.a0 (hbox); have n2_ := Gv.a0 ((Gv.ble hg Gv.bw : w.heap.size ≤ gb271)); have n3_ := Gv.a0 ((Gv.ble hg Gv.bw : w.heap.size ≤ gb271)); clear HB; have HB := n0_; have BK271 := n1_; have GW271 := n2_; have GE271 := n3_; clear n0_ n1_ n2_ n3_; clear hb hbox hg; obtain ⟨hcz3_0, hcz3_1, hcz3_2, hcz3_3, hcz3_4, hcz3_5⟩ := Gv.c6 BK271.out; obtain ⟨hfz3_0, hfz3_1, hfz3_2, hfz3_3, hfz3_4, hfz3_5⟩ := Gv.f6 BK271.out))
 go_ret
 exact ⟨Gv.rt, Gv.bw⟩

/-! ### impl_isLong: function 75 -/
def impl_isLong.f (a0 : Int) : Option (Bool) := (impl_within.f a0 0 4294967295).bind fun t272 => (some t272)
set_option maxHeartbeats 8000000 in
set_option maxRecDepth 100000 in
theorem impl_isLong.calls (a0 : Int) (r : Bool) (w : World) (h : impl_isLong.f a0 = some r) :
  Calls Try.prog 75 #[.int .i64 a0] w fun e w' => e = .returned (.bool r) ∧ Drawn0 w w' := by
 have H : ((impl_within.f a0 0 4294967295).bind fun t272 => (some t272)) = some r := h
 clear h
 replace H := Option.bind_eq_some_iff.mp H
 obtain ⟨t272, A20, H⟩ := H
 replace H : (some t272) = some r := H
 have A2 := Gv.a0 A20
 clear A20
 obtain rfl := Option.some.inj H
 go_enter Try.func75, Try.ntmps75
 go_wp2_with (first | ((with_reducible refine gate_callee (f := 46) rfl ?_); refine goesL_ (some 4) rfl rfl Try.func46 (by kernel_rfl) rfl #[.int .i64 a0, .int .i64 0, .int .i64 4294967295] rfl Gv.lm ?_; (with_reducible refine (impl_within.calls a0 0 4294967295 t272 _ A2.out).mono ?_); rintro e w' ⟨rfl, ⟨nd, rfl⟩⟩; refine ⟨_, rfl, ?_⟩))
 go_ret
 exact ⟨by first | rfl | (simp; done) | (simp [Int.tdiv_eq_ediv_of_nonneg]; done) | (simp [*]; done), by repeat (first | exact Drawn0.refl _ | apply Drawn0.step)⟩

/-! ### impl_AddrOk: function 65 -/
def impl_AddrOk.f (a0_0 : Int) (a0_1 : Int) (a0_2 : Int) (a0_3 : Int) (a0_4 : Int) : Option (Bool) := if a0_0 = 4 then (if a0_1 = 0 then (if a0_2 = 0 then (if a0_3 = 0 then ((impl_isLong.f a0_4).bind fun t274 => (some t274)) else (some false)) else (some false)) else (some false)) else (if a0_0 = 6 then ((impl_isLong.f a0_1).bind fun t275 => (if t275 = true then ((impl_isLong.f a0_2).bind fun t276 => (if t276 = true then ((impl_isLong.f a0_3).bind fun t277 => (if t277 = true then ((impl_isLong.f a0_4).bind fun t278 => (some t278)) else (some false))) else (some false))) else (some false))) else (some false))
set_option maxHeartbeats 8000000 in
set_option maxRecDepth 100000 in
theorem impl_AddrOk.calls (a0_0 : Int) (a0_1 : Int) (a0_2 : Int) (a0_3 : Int) (a0_4 : Int) (r : Bool) (w : World) (h : impl_AddrOk.f a0_0 a0_1 a0_2 a0_3 a0_4 = some r) :
  Calls Try.prog 65 #[.agg #[.int .i64 a0_0, .int .i64 a0_1, .int .i64 a0_2, .int .i64 a0_3, .int .i64 a0_4]] w fun e w' => e = .returned (.bool r) ∧ Below w.heap.size w w' := by
 have hu34 := Try.underlying34
 have HB := Gv.a0 (Below.refl w.heap.size w)
 have H : (if a0_0 = 4 then (if a0_1 = 0 then (if a0_2 = 0 then (if a0_3 = 0 then ((impl_isLong.f a0_4).bind fun t274 => (some t274)) else (some false)) else (some false)) else (some false)) else (if a0_0 = 6 then ((impl_isLong.f a0_1).bind fun t275 => (if t275 = true then ((impl_isLong.f a0_2).bind fun t276 => (if t276 = true then ((impl_isLong.f a0_3).bind fun t277 => (if t277 = true then ((impl_isLong.f a0_4).bind fun t278 => (some t278)) else (some false))) else (some false))) else (some false))) else (some false))) = some r := h
 clear h
 by_cases c2 : a0_0 = 4
 ·rw [if_pos c2] at H
  have c2b0 : (a0_0 == 4) = true := beq_iff_eq.mpr c2
  have c2b1 : (a0_0 != 4) = false := bne_eq_false_iff_eq.mpr c2
  clear c2
  by_cases c3 : a0_1 = 0
  ·rw [if_pos c3] at H
   have c3b0 : (a0_1 == 0) = true := beq_iff_eq.mpr c3
   have c3b1 : (a0_1 != 0) = false := bne_eq_false_iff_eq.mpr c3
   clear c3
   by_cases c4 : a0_2 = 0
   ·rw [if_pos c4] at H
    have c4b0 : (a0_2 == 0) = true := beq_iff_eq.mpr c4
    have c4b1 : (a0_2 != 0) = false := bne_eq_false_iff_eq.mpr c4
    clear c4
    by_cases c5 : a0_3 = 0
    ·rw [if_pos c5] at H
     have c5b0 : (a0_3 == 0) = true := beq_iff_eq.mpr c5
     have c5b1 : (a0_3 != 0) = false := bne_eq_false_iff_eq.mpr c5
     clear c5
     replace H := Option.bind_eq_some_iff.mp H
     obtain ⟨t274, A60, H⟩ := H
     replace H : (some t274) = some r := H
     have A6 := Gv.a0 A60
     clear A60
     obtain rfl := Option.some.inj H
     go_enter Try.func65, Try.ntmps65
     go_wp2_with (first | ((with_reducible refine gate_dst (N := 1) rfl ?_); refine box_event ?hg (N := 1) ?hd (cs := #[.int .i64 a0_0, .int .i64 a0_1, .int .i64 a0_2, .int .i64 a0_3, .int .i64 a0_4]) (t := 34) ?hr ?_; (case hd => rfl); (case hg => rfl); (case hr => first | (go_simp; done) | (go_simp; rfl)); intro gb273 hg w7 hbox hb; have n0_ := Gv.a0 (below_step Gv.bw hb); have n1_ := Gv.a0 (hbox); have n2_ := Gv.a0 ((Gv.ble hg Gv.bw : w.heap.size ≤ gb273)); have n3_ := Gv.a0 ((Gv.ble hg Gv.bw : w.heap.size ≤ gb273)); clear HB; have HB := n0_; have BK273 := n1_; have GW273 := n2_; have GE273 := n3_; clear n0_ n1_ n2_ n3_; clear hb hbox hg; obtain ⟨hcz8_0, hcz8_1, hcz8_2, hcz8_3, hcz8_4⟩ := Gv.c5 BK273.out; obtain ⟨hfz8_0, hfz8_1, hfz8_2, hfz8_3, hfz8_4⟩ := Gv.f5 BK273.out) | (go_at_call 75; (with_reducible refine (impl_isLong.calls a0_4 t274 _ A6.out).mono ?_); rintro e w' ⟨rfl, ⟨nd, rfl⟩⟩))
     go_ret
     exact ⟨Gv.rt, Gv.bw⟩
    ·rw [if_neg c5] at H
     have c5b0 : (a0_3 == 0) = false := beq_eq_false_iff_ne.mpr c5
     have c5b1 : (a0_3 != 0) = true := bne_iff_ne.mpr c5
     obtain rfl := Option.some.inj H
     go_enter Try.func65, Try.ntmps65
     go_wp2_with (first | ((with_reducible refine gate_dst (N := 1) rfl ?_); refine box_event ?hg (N := 1) ?hd (cs := #[.int .i64 a0_0, .int .i64 a0_1, .int .i64 a0_2, .int .i64 a0_3, .int .i64 a0_4]) (t := 34) ?hr ?_; (case hd => rfl); (case hg => rfl); (case hr => first | (go_simp; done) | (go_simp; rfl)); intro gb273 hg w9 hbox hb; have n0_ := Gv.a0 (below_step Gv.bw hb); have n1_ := Gv.a0 (hbox); have n2_ := Gv.a0 ((Gv.ble hg Gv.bw : w.heap.size ≤ gb273)); have n3_ := Gv.a0 ((Gv.ble hg Gv.bw : w.heap.size ≤ gb273)); clear HB; have HB := n0_; have BK273 := n1_; have GW273 := n2_; have GE273 := n3_; clear n0_ n1_ n2_ n3_; clear hb hbox hg; obtain ⟨hcz10_0, hcz10_1, hcz10_2, hcz10_3, hcz10_4⟩ := Gv.c5 BK273.out; obtain ⟨hfz10_0, hfz10_1, hfz10_2, hfz10_3, hfz10_4⟩ := Gv.f5 BK273.out))
     go_ret
     exact ⟨Gv.rt, Gv.bw⟩
   ·rw [if_neg c4] at H
    have c4b0 : (a0_2 == 0) = false := beq_eq_false_iff_ne.mpr c4
    have c4b1 : (a0_2 != 0) = true := bne_iff_ne.mpr c4
    obtain rfl := Option.some.inj H
    go_enter Try.func65, Try.ntmps65
    go_wp2_with (first | ((with_reducible refine gate_dst (N := 1) rfl ?_); refine box_event ?hg (N := 1) ?hd (cs := #[.int .i64 a0_0, .int .i64 a0_1, .int .i64 a0_2, .int .i64 a0_3, .int .i64 a0_4]) (t := 34) ?hr ?_; (case hd => rfl); (case hg => rfl); (case hr => first | (go_simp; done) | (go_simp; rfl)); intro gb273 hg w11 hbox hb; have n0_ := Gv.a0 (below_step Gv.bw hb); have n1_ := Gv.a0 (hbox); have n2_ := Gv.a0 ((Gv.ble hg Gv.bw : w.heap.size ≤ gb273)); have n3_ := Gv.a0 ((Gv.ble hg Gv.bw : w.heap.size ≤ gb273)); clear HB; have HB := n0_; have BK273 := n1_; have GW273 := n2_; have GE273 := n3_; clear n0_ n1_ n2_ n3_; clear hb hbox hg; obtain ⟨hcz12_0, hcz12_1, hcz12_2, hcz12_3, hcz12_4⟩ := Gv.c5 BK273.out; obtain ⟨hfz12_0, hfz12_1, hfz12_2, hfz12_3, hfz12_4⟩ := Gv.f5 BK273.out))
    go_ret
    exact ⟨Gv.rt, Gv.bw⟩
  ·rw [if_neg c3] at H
   have c3b0 : (a0_1 == 0) = false := beq_eq_false_iff_ne.mpr c3
   have c3b1 : (a0_1 != 0) = true := bne_iff_ne.mpr c3
   obtain rfl := Option.some.inj H
   go_enter Try.func65, Try.ntmps65
   go_wp2_with (first | ((with_reducible refine gate_dst (N := 1) rfl ?_); refine box_event ?hg (N := 1) ?hd (cs := #[.int .i64 a0_0, .int .i64 a0_1, .int .i64 a0_2, .int .i64 a0_3, .int .i64 a0_4]) (t := 34) ?hr ?_; (case hd => rfl); (case hg => rfl); (case hr => first | (go_simp; done) | (go_simp; rfl)); intro gb273 hg w13 hbox hb; have n0_ := Gv.a0 (below_step Gv.bw hb); have n1_ := Gv.a0 (hbox); have n2_ := Gv.a0 ((Gv.ble hg Gv.bw : w.heap.size ≤ gb273)); have n3_ := Gv.a0 ((Gv.ble hg Gv.bw : w.heap.size ≤ gb273)); clear HB; have HB := n0_; have BK273 := n1_; have GW273 := n2_; have GE273 := n3_; clear n0_ n1_ n2_ n3_; clear hb hbox hg; obtain ⟨hcz14_0, hcz14_1, hcz14_2, hcz14_3, hcz14_4⟩ := Gv.c5 BK273.out; obtain ⟨hfz14_0, hfz14_1, hfz14_2, hfz14_3, hfz14_4⟩ := Gv.f5 BK273.out))
   go_ret
   exact ⟨Gv.rt, Gv.bw⟩
 ·rw [if_neg c2] at H
  have c2b0 : (a0_0 == 4) = false := beq_eq_false_iff_ne.mpr c2
  have c2b1 : (a0_0 != 4) = true := bne_iff_ne.mpr c2
  by_cases c15 : a0_0 = 6
  ·rw [if_pos c15] at H
   have c15b0 : (a0_0 == 6) = true := beq_iff_eq.mpr c15
   have c15b1 : (a0_0 != 6) = false := bne_eq_false_iff_eq.mpr c15
   clear c15
   replace H := Option.bind_eq_some_iff.mp H
   obtain ⟨t275, A160, H⟩ := H
   replace H : (if t275 = true then ((impl_isLong.f a0_2).bind fun t276 => (if t276 = true then ((impl_isLong.f a0_3).bind fun t277 => (if t277 = true then ((impl_isLong.f a0_4).bind fun t278 => (some t278)) else (some false))) else (some false))) else (some false)) = some r := H
   have A16 := Gv.a0 A160
   clear A160
   by_cases c17 : t275 = true
   ·subst c17
    have H1 : ((impl_isLong.f a0_2).bind fun t276 => (if t276 = true then ((impl_isLong.f a0_3).bind fun t277 => (if t277 = true then ((impl_isLong.f a0_4).bind fun t278 => (some t278)) else (some false))) else (some false))) = some r := by rw [if_pos rfl] at H; exact H
    clear H
    have H := H1
    clear H1
    replace H := Option.bind_eq_some_iff.mp H
    obtain ⟨t276, A180, H⟩ := H
    replace H : (if t276 = true then ((impl_isLong.f a0_3).bind fun t277 => (if t277 = true then ((impl_isLong.f a0_4).bind fun t278 => (some t278)) else (some false))) else (some false)) = some r := H
    have A18 := Gv.a0 A180
    clear A180
    by_cases c19 : t276 = true
    ·subst c19
     have H1 : ((impl_isLong.f a0_3).bind fun t277 => (if t277 = true then ((impl_isLong.f a0_4).bind fun t278 => (some t278)) else (some false))) = some r := by rw [if_pos rfl] at H; exact H
     clear H
     have H := H1
     clear H1
     replace H := Option.bind_eq_some_iff.mp H
     obtain ⟨t277, A200, H⟩ := H
     replace H : (if t277 = true then ((impl_isLong.f a0_4).bind fun t278 => (some t278)) else (some false)) = some r := H
     have A20 := Gv.a0 A200
     clear A200
     by_cases c21 : t277 = true
     ·subst c21
      have H1 : ((impl_isLong.f a0_4).bind fun t278 => (some t278)) = some r := by rw [if_pos rfl] at H; exact H
      clear H
      have H := H1
      clear H1
      replace H := Option.bind_eq_some_iff.mp H
      obtain ⟨t278, A220, H⟩ := H
      replace H : (some t278) = some r := H
      have A22 := Gv.a0 A220
      clear A220
      obtain rfl := Option.some.inj H
      go_enter Try.func65, Try.ntmps65
      go_wp2_with (first | ((with_reducible refine gate_dst (N := 1) rfl ?_); refine box_event ?hg (N := 1) ?hd (cs := #[.int .i64 a0_0, .int .i64 a0_1, .int .i64 a0_2, .int .i64 a0_3, .int .i64 a0_4]) (t := 34) ?hr ?_; (case hd => rfl); (case hg => rfl); (case hr => first | (go_simp; done) | (go_simp; rfl)); intro gb273 hg w23 hbox hb; have n0_ := Gv.a0 (below_step Gv.bw hb); have n1_ := Gv.a0 (hbox); have n2_ := Gv.a0 ((Gv.ble hg Gv.bw : w.heap.size ≤ gb273)); have n3_ := Gv.a0 ((Gv.ble hg Gv.bw : w.heap.size ≤ gb273)); clear HB; have HB := n0_; have BK273 := n1_; have GW273 := n2_; have GE273 := n3_; clear n0_ n1_ n2_ n3_; clear hb hbox hg; obtain ⟨hcz24_0, hcz24_1, hcz24_2, hcz24_3, hcz24_4⟩ := Gv.c5 BK273.out; obtain ⟨hfz24_0, hfz24_1, hfz24_2, hfz24_3, hfz24_4⟩ := Gv.f5 BK273.out) | ((with_reducible refine gate_callee (f := 75) rfl ?_); refine goesL_ (some 29) rfl rfl Try.func75 (by kernel_rfl) rfl #[.int .i64 a0_1] rfl Gv.lm ?_; (with_reducible refine (impl_isLong.calls a0_1 true _ A16.out).mono ?_); rintro e w' ⟨rfl, ⟨nd, rfl⟩⟩; refine ⟨_, rfl, ?_⟩) | (go_at_call 75; (with_reducible refine (impl_isLong.calls a0_2 true _ A18.out).mono ?_); rintro e w' ⟨rfl, ⟨nd, rfl⟩⟩) | (go_at_call 75; (with_reducible refine (impl_isLong.calls a0_3 true _ A20.out).mono ?_); rintro e w' ⟨rfl, ⟨nd, rfl⟩⟩) | (go_at_call 75; (with_reducible refine (impl_isLong.calls a0_4 t278 _ A22.out).mono ?_); rintro e w' ⟨rfl, ⟨nd, rfl⟩⟩))
      go_ret
      exact ⟨Gv.rt, Gv.bw⟩
     ·replace c21 := Bool.eq_false_iff.mpr c21
      subst c21
      have H1 : (some false) = some r := by rw [if_neg (show ¬ (false = true) by decide)] at H; exact H
      clear H
      have H := H1
      clear H1
      obtain rfl := Option.some.inj H
      go_enter Try.func65, Try.ntmps65
      go_wp2_with (first | ((with_reducible refine gate_dst (N := 1) rfl ?_); refine box_event ?hg (N := 1) ?hd (cs := #[.int .i64 a0_0, .int .i64 a0_1, .int .i64 a0_2, .int .i64 a0_3, .int .i64 a0_4]) (t := 34) ?hr ?_; (case hd => rfl); (case hg => rfl); (case hr => first | (go_simp; done) | (go_simp; rfl)); intro gb273 hg w25 hbox hb; have n0_ := Gv.a0 (below_step Gv.bw hb); have n1_ := Gv.a0 (hbox); have n2_ := Gv.a0 ((Gv.ble hg Gv.bw : w.heap.size ≤ gb273)); have n3_ := Gv.a0 ((Gv.ble hg Gv.bw : w.heap.size ≤ gb273)); clear HB; have HB := n0_; have BK273 := n1_; have GW273 := n2_; have GE273 := n3_; clear n0_ n1_ n2_ n3_; clear hb hbox hg; obtain ⟨hcz26_0, hcz26_1, hcz26_2, hcz26_3, hcz26_4⟩ := Gv.c5 BK273.out; obtain ⟨hfz26_0, hfz26_1, hfz26_2, hfz26_3, hfz26_4⟩ := Gv.f5 BK273.out) | ((with_reducible refine gate_callee (f := 75) rfl ?_); refine goesL_ (some 29) rfl rfl Try.func75 (by kernel_rfl) rfl #[.int .i64 a0_1] rfl Gv.lm ?_; (with_reducible refine (impl_isLong.calls a0_1 true _ A16.out).mono ?_); rintro e w' ⟨rfl, ⟨nd, rfl⟩⟩; refine ⟨_, rfl, ?_⟩) | (go_at_call 75; (with_reducible refine (impl_isLong.calls a0_2 true _ A18.out).mono ?_); rintro e w' ⟨rfl, ⟨nd, rfl⟩⟩) | (go_at_call 75; (with_reducible refine (impl_isLong.calls a0_3 false _ A20.out).mono ?_); rintro e w' ⟨rfl, ⟨nd, rfl⟩⟩))
      go_ret
      exact ⟨Gv.rt, Gv.bw⟩
    ·replace c19 := Bool.eq_false_iff.mpr c19
     subst c19
     have H1 : (some false) = some r := by rw [if_neg (show ¬ (false = true) by decide)] at H; exact H
     clear H
     have H := H1
     clear H1
     obtain rfl := Option.some.inj H
     go_enter Try.func65, Try.ntmps65
     go_wp2_with (first | ((with_reducible refine gate_dst (N := 1) rfl ?_); refine box_event ?hg (N := 1) ?hd (cs := #[.int .i64 a0_0, .int .i64 a0_1, .int .i64 a0_2, .int .i64 a0_3, .int .i64 a0_4]) (t := 34) ?hr ?_; (case hd => rfl); (case hg => rfl); (case hr => first | (go_simp; done) | (go_simp; rfl)); intro gb273 hg w27 hbox hb; have n0_ := Gv.a0 (below_step Gv.bw hb); have n1_ := Gv.a0 (hbox); have n2_ := Gv.a0 ((Gv.ble hg Gv.bw : w.heap.size ≤ gb273)); have n3_ := Gv.a0 ((Gv.ble hg Gv.bw : w.heap.size ≤ gb273)); clear HB; have HB := n0_; have BK273 := n1_; have GW273 := n2_; have GE273 := n3_; clear n0_ n1_ n2_ n3_; clear hb hbox hg; obtain ⟨hcz28_0, hcz28_1, hcz28_2, hcz28_3, hcz28_4⟩ := Gv.c5 BK273.out; obtain ⟨hfz28_0, hfz28_1, hfz28_2, hfz28_3, hfz28_4⟩ := Gv.f5 BK273.out) | ((with_reducible refine gate_callee (f := 75) rfl ?_); refine goesL_ (some 29) rfl rfl Try.func75 (by kernel_rfl) rfl #[.int .i64 a0_1] rfl Gv.lm ?_; (with_reducible refine (impl_isLong.calls a0_1 true _ A16.out).mono ?_); rintro e w' ⟨rfl, ⟨nd, rfl⟩⟩; refine ⟨_, rfl, ?_⟩) | (go_at_call 75; (with_reducible refine (impl_isLong.calls a0_2 false _ A18.out).mono ?_); rintro e w' ⟨rfl, ⟨nd, rfl⟩⟩))
     go_ret
     exact ⟨Gv.rt, Gv.bw⟩
   ·replace c17 := Bool.eq_false_iff.mpr c17
    subst c17
    have H1 : (some false) = some r := by rw [if_neg (show ¬ (false = true) by decide)] at H; exact H
    clear H
    have H := H1
    clear H1
    obtain rfl := Option.some.inj H
    go_enter Try.func65, Try.ntmps65
    go_wp2_with (first | ((with_reducible refine gate_dst (N := 1) rfl ?_); refine box_event ?hg (N := 1) ?hd (cs := #[.int .i64 a0_0, .int .i64 a0_1, .int .i64 a0_2, .int .i64 a0_3, .int .i64 a0_4]) (t := 34) ?hr ?_; (case hd => rfl); (case hg => rfl); (case hr => first | (go_simp; done) | (go_simp; rfl)); intro gb273 hg w29 hbox hb; have n0_ := Gv.a0 (below_step Gv.bw hb); have n1_ := Gv.a0 (hbox); have n2_ := Gv.a0 ((Gv.ble hg Gv.bw : w.heap.size ≤ gb273)); have n3_ := Gv.a0 ((Gv.ble hg Gv.bw : w.heap.size ≤ gb273)); clear HB; have HB := n0_; have BK273 := n1_; have GW273 := n2_; have GE273 := n3_; clear n0_ n1_ n2_ n3_; clear hb hbox hg; obtain ⟨hcz30_0, hcz30_1, hcz30_2, hcz30_3, hcz30_4⟩ := Gv.c5 BK273.out; obtain ⟨hfz30_0, hfz30_1, hfz30_2, hfz30_3, hfz30_4⟩ := Gv.f5 BK273.out) | ((with_reducible refine gate_callee (f := 75) rfl ?_); refine goesL_ (some 29) rfl rfl Try.func75 (by kernel_rfl) rfl #[.int .i64 a0_1] rfl Gv.lm ?_; (with_reducible refine (impl_isLong.calls a0_1 false _ A16.out).mono ?_); rintro e w' ⟨rfl, ⟨nd, rfl⟩⟩; refine ⟨_, rfl, ?_⟩))
    go_ret
    exact ⟨Gv.rt, Gv.bw⟩
  ·rw [if_neg c15] at H
   have c15b0 : (a0_0 == 6) = false := beq_eq_false_iff_ne.mpr c15
   have c15b1 : (a0_0 != 6) = true := bne_iff_ne.mpr c15
   obtain rfl := Option.some.inj H
   go_enter Try.func65, Try.ntmps65
   go_wp2_with (first | ((with_reducible refine gate_dst (N := 1) rfl ?_); refine box_event ?hg (N := 1) ?hd (cs := #[.int .i64 a0_0, .int .i64 a0_1, .int .i64 a0_2, .int .i64 a0_3, .int .i64 a0_4]) (t := 34) ?hr ?_; (case hd => rfl); (case hg => rfl); (case hr => first | (go_simp; done) | (go_simp; rfl)); intro gb273 hg w31 hbox hb; have n0_ := Gv.a0 (below_step Gv.bw hb); have n1_ := Gv.a0 (hbox); have n2_ := Gv.a0 ((Gv.ble hg Gv.bw : w.heap.size ≤ gb273)); have n3_ := Gv.a0 ((Gv.ble hg Gv.bw : w.heap.size ≤ gb273)); clear HB; have HB := n0_; have BK273 := n1_; have GW273 := n2_; have GE273 := n3_; clear n0_ n1_ n2_ n3_; clear hb hbox hg; obtain ⟨hcz32_0, hcz32_1, hcz32_2, hcz32_3, hcz32_4⟩ := Gv.c5 BK273.out; obtain ⟨hfz32_0, hfz32_1, hfz32_2, hfz32_3, hfz32_4⟩ := Gv.f5 BK273.out))
   go_ret
   exact ⟨Gv.rt, Gv.bw⟩

/-! ### impl_bitsOf: function 66 -/
def impl_bitsOf.f (a0_0 : Int) (a0_1 : Int) (a0_2 : Int) (a0_3 : Int) (a0_4 : Int) : Option (Int) := if a0_0 = 4 then (some 32) else (some 128)
set_option maxHeartbeats 8000000 in
set_option maxRecDepth 100000 in
theorem impl_bitsOf.calls (a0_0 : Int) (a0_1 : Int) (a0_2 : Int) (a0_3 : Int) (a0_4 : Int) (r : Int) (w : World) (h : impl_bitsOf.f a0_0 a0_1 a0_2 a0_3 a0_4 = some r) :
  Calls Try.prog 66 #[.agg #[.int .i64 a0_0, .int .i64 a0_1, .int .i64 a0_2, .int .i64 a0_3, .int .i64 a0_4]] w fun e w' => e = .returned (.int .i64 r) ∧ Below w.heap.size w w' := by
 have hu34 := Try.underlying34
 have HB := Gv.a0 (Below.refl w.heap.size w)
 have H : (if a0_0 = 4 then (some 32) else (some 128)) = some r := h
 clear h
 by_cases c2 : a0_0 = 4
 ·rw [if_pos c2] at H
  have c2b0 : (a0_0 == 4) = true := beq_iff_eq.mpr c2
  have c2b1 : (a0_0 != 4) = false := bne_eq_false_iff_eq.mpr c2
  clear c2
  obtain rfl := Option.some.inj H
  go_enter Try.func66, Try.ntmps66
  go_wp2_with (first | ((with_reducible refine gate_dst (N := 1) rfl ?_); refine box_event ?hg (N := 1) ?hd (cs := #[.int .i64 a0_0, .int .i64 a0_1, .int .i64 a0_2, .int .i64 a0_3, .int .i64 a0_4]) (t := 34) ?hr ?_; (case hd => rfl); (case hg => rfl); (case hr => first | (go_simp; done) | (go_simp; rfl)); intro gb279 hg w3 hbox hb; have n0_ := Gv.a0 (below_step Gv.bw hb); have n1_ := Gv.a0 (hbox); have n2_ := Gv.a0 ((Gv.ble hg Gv.bw : w.heap.size ≤ gb279)); have n3_ := Gv.a0 ((Gv.ble hg Gv.bw : w.heap.size ≤ gb279)); clear HB; have HB := n0_; have BK279 := n1_; have GW279 := n2_; have GE279 := n3_; clear n0_ n1_ n2_ n3_; clear hb hbox hg; obtain ⟨hcz4_0, hcz4_1, hcz4_2, hcz4_3, hcz4_4⟩ := Gv.c5 BK279.out; obtain ⟨hfz4_0, hfz4_1, hfz4_2, hfz4_3, hfz4_4⟩ := Gv.f5 BK279.out))
  go_ret
  exact ⟨Gv.rt, Gv.bw⟩
 ·rw [if_neg c2] at H
  have c2b0 : (a0_0 == 4) = false := beq_eq_false_iff_ne.mpr c2
  have c2b1 : (a0_0 != 4) = true := bne_iff_ne.mpr c2
  obtain rfl := Option.some.inj H
  go_enter Try.func66, Try.ntmps66
  go_wp2_with (first | ((with_reducible refine gate_dst (N := 1) rfl ?_); refine box_event ?hg (N := 1) ?hd (cs := #[.int .i64 a0_0, .int .i64 a0_1, .int .i64 a0_2, .int .i64 a0_3, .int .i64 a0_4]) (t := 34) ?hr ?_; (case hd => rfl); (case hg => rfl); (case hr => first | (go_simp; done) | (go_simp; rfl)); intro gb279 hg w5 hbox hb; have n0_ := Gv.a0 (below_step Gv.bw hb); have n1_ := Gv.a0 (hbox); have n2_ := Gv.a0 ((Gv.ble hg Gv.bw : w.heap.size ≤ gb279)); have n3_ := Gv.a0 ((Gv.ble hg Gv.bw : w.heap.size ≤ gb279)); clear HB; have HB := n0_; have BK279 := n1_; have GW279 := n2_; have GE279 := n3_; clear n0_ n1_ n2_ n3_; clear hb hbox hg; obtain ⟨hcz6_0, hcz6_1, hcz6_2, hcz6_3, hcz6_4⟩ := Gv.c5 BK279.out; obtain ⟨hfz6_0, hfz6_1, hfz6_2, hfz6_3, hfz6_4⟩ := Gv.f5 BK279.out))
  go_ret
  exact ⟨Gv.rt, Gv.bw⟩

/-! ### impl_put: function 86 -/
def impl_put.l0 : Nat → Int → Int → List Int → Int → Int → Option (List Int)
 | 0, _, _, _, _, _ => none
 | k + 1, x0, x1, x5, x10, x11 => if x11 < x10 then (if 0 ≤ (wrap64 (8 * (wrap64 ((wrap64 (x1 - 1)) - x11)))) then (if 0 ≤ x11 then (if x11 < (x5.length : Int) then (impl_put.l0 k x0 x1 (x5.set (x11 : Int).toNat ((shr .i64 x0 (wrap64 (8 * (wrap64 ((wrap64 (x1 - 1)) - x11))))) % 256)) x10 (wrap64 (x11 + 1))) else (none)) else (none)) else (none)) else (some x5)
def impl_put.f (k : Nat) (a0 : Int) (a1 : Int) : Option (List Int) := if 0 ≤ a1 then (if (a1 : Int).toNat ≤ 281474976710656 then ((some (List.replicate (a1 : Int).toNat 0 : List Int)).bind fun y280 => (impl_put.l0 k a0 a1 y280 (y280.length : Int) 0)) else (none)) else (none)
theorem impl_put.mono_l : ∀ k, (∀ y0 y1 y2 y3 y4, LeO (impl_put.l0 k y0 y1 y2 y3 y4) (impl_put.l0 (k + 1) y0 y1 y2 y3 y4))
 | 0 => fun _ _ _ _ _ r h => by simp [impl_put.l0] at h
 | k + 1 => by
  have ih0 := impl_put.mono_l k
  ·intro y0 y1 y2 y3 y4
   unfold impl_put.l0
   repeat' first
   | (with_reducible exact ih0 _ _ _ _ _)
   | (with_reducible exact LeO.refl _)
   | (with_reducible exact LeO.none _)
   | (with_reducible refine LeO.ite ?_ ?_)
   | (with_reducible refine LeO.bind ?_ (fun _ => ?_))
   | exact ih0 _ _ _ _ _
   | exact LeO.none _
   | refine LeO.ite ?_ ?_
   | refine LeO.bind ?_ (fun _ => ?_)
theorem impl_put.mono : ∀ a0 a1 k, LeO (impl_put.f k a0 a1) (impl_put.f (k + 1) a0 a1) := by
 intro a0 a1 k
 have ih0 := impl_put.mono_l k
 unfold impl_put.f
 repeat' first
   | (with_reducible exact ih0 _ _ _ _ _)
   | (with_reducible exact LeO.refl _)
   | (with_reducible exact LeO.none _)
   | (with_reducible refine LeO.ite ?_ ?_)
   | (with_reducible refine LeO.bind ?_ (fun _ => ?_))
   | exact ih0 _ _ _ _ _
   | exact LeO.none _
   | refine LeO.ite ?_ ?_
   | refine LeO.bind ?_ (fun _ => ?_)
set_option maxHeartbeats 8000000 in
set_option maxRecDepth 100000 in
theorem impl_put.calls (k : Nat) (a0 : Int) (a1 : Int) (r : List Int) (w : World) (h : impl_put.f k a0 a1 = some r) :
  Calls Try.prog 86 #[.int .i64 a0, .int .i64 a1] w fun e w' => ∃ v0_ : Value, e = .returned (v0_) ∧ Kd.R (Kd.int .u8) 5 w' w.heap.size (fun _ => True) v0_ r ∧ Below w.heap.size w w' := by
 have HB := Gv.a0 (Below.refl w.heap.size w)
 have H : (if 0 ≤ a1 then (if (a1 : Int).toNat ≤ 281474976710656 then ((some (List.replicate (a1 : Int).toNat 0 : List Int)).bind fun y280 => (impl_put.l0 k a0 a1 y280 (y280.length : Int) 0)) else (none)) else (none)) = some r := h
 clear h
 by_cases c3 : 0 ≤ a1
 ·rw [if_pos c3] at H
  have c3b0 := eq_true c3
  have c3b1 : decide (0 ≤ a1) = true := decide_eq_true c3
  clear c3
  by_cases c4 : (a1 : Int).toNat ≤ 281474976710656
  ·rw [if_pos c4] at H
   have c4b0 := eq_true c4
   have c4b1 : decide ((a1 : Int).toNat ≤ 281474976710656) = true := decide_eq_true c4
   clear c4
   obtain ⟨y280, hy280⟩ : ∃ y_ : List Int, y_ = (List.replicate (a1 : Int).toNat 0) := ⟨_, rfl⟩
   replace H : (impl_put.l0 k a0 a1 y280 (y280.length : Int) 0) = some r := by first | (rw [hy280]; with_reducible exact H) | (have H2_ := (Option.bind_some _ _).symm.trans H; rw [hy280]; with_reducible exact H2_) | (have H2_ := (Option.bind_some _ _).symm.trans H; with_reducible exact H2_) | with_reducible exact H | (rw [hy280]; exact H) | exact H
   have Ny280 := Gv.a0 hy280
   clear hy280
   have H' := Gv.a0 H
   clear H
   go_enter Try.func86, Try.ntmps86
   go_wp2_with (first | ((with_reducible refine gate_dst (N := 8) rfl ?_); refine Kd.R_make (Kd.int .u8) _ 5 rfl (N := 8) rfl 80 _ _ rfl a1 rfl rfl Try.underlying80 (.int .u8 0) 1 info5 rfl (by decide) (by omega) 0 (ok := fun _ => True) (okp := fun _ => True) rfl (fun _ hk => hk) trivial (of_decide_eq_true (by first | (with_reducible assumption) | assumption)) (Nat.le_trans (Nat.mul_le_mul_right _ (of_decide_eq_true (by first | (with_reducible assumption) | assumption) : a1.toNat ≤ 281474976710656)) (by omega)) (Below.refl _ _) (Nat.le_refl _) ?_; intro v281 w5 ho6 hb hg_ hnew_; clear hg_ hnew_; (first | rw [← Ny280.out] at ho6 | (simp only [Int.reduceToNat] at ho6; rw [← Ny280.out] at ho6)); have n0_ := Gv.a0 (Kd.R_lower ho6 (below_size Gv.bw)); have n1_ := Gv.a0 (below_step Gv.bw hb); clear HB; have HO282 := n0_; have HB := n1_; clear n0_ n1_; clear hb ho6; obtain ⟨Ao7, co7, eo7⟩ := Kd.R_slice HO282.out; subst eo7))
   go_loopg [11] k (fun kq v11 w' => ∃ (x5_1 : List Int) (x11_1 : Int), v11 = .int .i64 x11_1 ∧ Aside0 (impl_put.l0 kq a0 a1 x5_1 (y280.length : Int) x11_1 = some r) ∧ Aside0 (kq ≤ k) ∧ Aside0 (Kd.R (Kd.int .u8) 5 w' w.heap.size (fun _ => True) (.slice Ao7 y280.length co7) x5_1) ∧ Aside0 (Below w.heap.size w w'))
   case atStart => exact ⟨(y280), (0), Gv.rq, H', ⟨Nat.le_refl _⟩, ⟨Gv.kr HO282.out⟩, ⟨Gv.bw⟩⟩
   case round =>
    clear H'
    try clear p2
    try clear c3
    try clear c3b0
    try clear c3b1
    try clear c4
    try clear c4b0
    try clear c4b1
    obtain ⟨x5_1, x11_1, rfl, HA, HK1, HO_5, HB⟩ := hrel
    have hl5_1 := (Kd.R_reads' HO_5.out).1
    rw [hl5_1] at HO_5
    (try simp only [hl5_1])
    cases gk with
    | zero => exact absurd HA.out (by simp [impl_put.l0])
    | succ k1 =>
     have H := HA.out
     clear HA
     simp only [impl_put.l0] at H
     by_cases c8 : x11_1 < (y280.length : Int)
     ·rw [if_pos c8] at H
      have c8b0 : decide (x11_1 < (y280.length : Int)) = true := decide_eq_true c8
      (try (have c8b9 := c8b0; rw [hl5_1] at c8b9))
      (try (have c8b8 := c8b0; rw [← hl5_1] at c8b8))
      clear c8
      obtain ⟨ji9, hji9⟩ : ∃ j_ : Int, (wrap64 (8 * (wrap64 ((wrap64 (a1 - 1)) - x11_1)))) = j_ := ⟨_, rfl⟩
      replace H : (if 0 ≤ (ji9) then (if 0 ≤ x11_1 then (if x11_1 < (x5_1.length : Int) then (impl_put.l0 k1 a0 a1 (x5_1.set (x11_1 : Int).toNat ((shr .i64 a0 (ji9)) % 256)) (y280.length : Int) (wrap64 (x11_1 + 1))) else (none)) else (none)) else (none)) = some r := by first | (rw [hji9] at H; exact H) | (simp only [hji9] at H ⊢; exact H)
      have hji9w : (IntKind.i64.wrap (8 * (wrap64 ((wrap64 (a1 - 1)) - x11_1)))) = ji9 := (i64_w _).trans hji9
      by_cases c10 : 0 ≤ (ji9)
      ·rw [if_pos c10] at H
       have c10b0 := eq_true c10
       have c10b1 : decide (0 ≤ (ji9)) = true := decide_eq_true c10
       clear c10
       obtain ⟨ji11, hji11⟩ : ∃ j_ : Int, (shr .i64 a0 (ji9)) = j_ := ⟨_, rfl⟩
       replace H : (if 0 ≤ x11_1 then (if x11_1 < (x5_1.length : Int) then (impl_put.l0 k1 a0 a1 (x5_1.set (x11_1 : Int).toNat ((ji11) % 256)) (y280.length : Int) (wrap64 (x11_1 + 1))) else (none)) else (none)) = some r := by first | (rw [hji11] at H; exact H) | (simp only [hji11] at H ⊢; exact H)
       have hji11_ : (a0 / 2 ^ min (ji9).toNat 64) = ji11 := hji11
       have hji11z : (ji9) ≤ 64 → (a0 / 2 ^ (ji9).toNat) = ji11 := shr_small hji11
       by_cases c12 : 0 ≤ x11_1
       ·rw [if_pos c12] at H
        have c12b0 : decide (0 ≤ x11_1) = true := decide_eq_true c12
        clear c12
        by_cases c13 : x11_1 < (x5_1.length : Int)
        ·rw [if_pos c13] at H
         have c13b0 : decide (x11_1 < (x5_1.length : Int)) = true := decide_eq_true c13
         clear c13
         obtain ⟨y283, hy283⟩ : ∃ y_ : List Int, y_ = (x5_1.set (x11_1 : Int).toNat ((ji11) % 256)) := ⟨_, rfl⟩
         replace H : (impl_put.l0 k1 a0 a1 y283 (y280.length : Int) (wrap64 (x11_1 + 1))) = some r := by first | (rw [hy283]; with_reducible exact H) | (have H2_ := (Option.bind_some _ _).symm.trans H; rw [hy283]; with_reducible exact H2_) | (have H2_ := (Option.bind_some _ _).symm.trans H; with_reducible exact H2_) | with_reducible exact H | (rw [hy283]; exact H) | exact H
         have Ny283 := Gv.a0 hy283
         clear hy283
         have H' := Gv.a0 H
         clear H
         have p14 : 0 ≤ (x11_1 : Int) := of_decide_eq_true (by first | (with_reducible assumption) | assumption)
         have q14 : (x11_1 : Int) < ((x5_1.length : Int) : Int) := of_decide_eq_true (by first | (with_reducible assumption) | assumption)
         obtain ⟨go14, co14, eo14, gb14, gl14, cl14, HG14⟩ := Kd.R_form HO_5.out (by omega)
         (first | cases eo14 | (injection eo14 with ea_ en_ ec_; (first | subst ea_ | (injection ea_ with ea_; subst ea_)); subst ec_; clear en_))
         have GB14 := Gv.a0 gb14
         have GG14 := Gv.a0 HG14
         clear gb14 gl14 HG14
         obtain ⟨hx14_0, hf14_0⟩ := Kd.R_celln 0 HO_5.out (x11_1 : Int) p14 q14
         replace p14 := eq_true p14
         replace q14 := eq_true q14
         have HP15 := Kd.R_putg HO_5.out (x11_1 : Int) ((ji11) % 256)
         go_wp2_with (first | ((with_reducible refine gate_store (t := 5) (p := 24) rfl ?_); refine store_event (t := 5) (p := 24) (v := ?vo_w16) (w1 := (wr.setCell ⟨go14, (x11_1 : Int).toNat, none⟩ (.int .u8 ((ji11) % 256)))) ?hg ?ho ?hn ?hr ?_; (case ho => rfl); (case hg => rfl); (case hn => rfl); (case hr => first | (go_simp; done) | (go_simp; rfl)); intro w16 hw; have hg : wr.grownBy w16 (some go14) := (by rw [hw]; exact HP15.2); have hp_ : Kd.R (Kd.int .u8) 5 w16 w.heap.size (fun _ => True) (.slice (some ⟨go14, 0, none⟩) x5_1.length co7) y283 := (by rw [hw, Ny283.out]; exact HP15.1); clear HP15; have n0_ := Gv.a0 (hp_); have n1_ := Gv.a0 ((by rw [hw]; exact below_set (HB.out) GB14.out : Below w.heap.size w w16)); clear HO_5; clear HB; have HO_5 := n0_; have HB := n1_; clear n0_ n1_; clear hg hw hp_))
         (try simp only [← hl5_1])
         go_roundg k1
         case measure => have := HK1.out; omega
         case rel => exact ⟨(y283), (wrap64 (x11_1 + 1)), Gv.rq, H', ⟨by have := HK1.out; omega⟩, ⟨by (try simp only [hl5_1]); (with_reducible repeat (first | apply Kd.R_alloc | apply Kd.R_drewN | apply Kd.R_drew)); exact HO_5.out⟩, ⟨Gv.bw⟩⟩
        ·rw [if_neg c13] at H
         exact absurd H (by simp)
       ·rw [if_neg c12] at H
        exact absurd H (by simp)
      ·rw [if_neg c10] at H
       exact absurd H (by simp)
     ·rw [if_neg c8] at H
      have c8b0 : decide (x11_1 < (y280.length : Int)) = false := decide_eq_false c8
      (try (have c8b9 := c8b0; rw [hl5_1] at c8b9))
      (try (have c8b8 := c8b0; rw [← hl5_1] at c8b8))
      clear c8
      obtain rfl := Option.some.inj H
      go_wp2
      go_ret
      exact ⟨_, Gv.rt, Gv.kr HO_5.out, Gv.bw⟩
  ·rw [if_neg c4] at H
   exact absurd H (by simp)
 ·rw [if_neg c3] at H
  exact absurd H (by simp)

/-! ### impl_Put32: function 81 -/
def impl_Put32.f (k : Nat) (a0 : Int) : Option (List Int) := (impl_put.f k a0 4).bind fun t284 => (some t284)
theorem impl_Put32.mono : ∀ a0 k, LeO (impl_Put32.f k a0) (impl_Put32.f (k + 1) a0) := by
 intro a0 k
 unfold impl_Put32.f
 repeat' first
   | (with_reducible exact impl_put.mono _ _ _)
   | (with_reducible exact LeO.refl _)
   | (with_reducible exact LeO.none _)
   | (with_reducible refine LeO.ite ?_ ?_)
   | (with_reducible refine LeO.bind ?_ (fun _ => ?_))
   | exact impl_put.mono _ _ _
   | exact LeO.none _
   | refine LeO.ite ?_ ?_
   | refine LeO.bind ?_ (fun _ => ?_)
set_option maxHeartbeats 8000000 in
set_option maxRecDepth 100000 in
theorem impl_Put32.calls (k : Nat) (a0 : Int) (r : List Int) (w : World) (h : impl_Put32.f k a0 = some r) :
  Calls Try.prog 81 #[.int .i64 a0] w fun e w' => ∃ v0_ : Value, e = .returned (v0_) ∧ Kd.R (Kd.int .u8) 5 w' w.heap.size (fun _ => True) v0_ r ∧ Below w.heap.size w w' := by
 have HB := Gv.a0 (Below.refl w.heap.size w)
 have H : ((impl_put.f k a0 4).bind fun t284 => (some t284)) = some r := h
 clear h
 replace H := Option.bind_eq_some_iff.mp H
 obtain ⟨t284, A20, H⟩ := H
 replace H : (some t284) = some r := H
 have A2 := Gv.a0 A20
 clear A20
 obtain rfl := Option.some.inj H
 go_enter Try.func81, Try.ntmps81
 go_wp2_with (first | ((with_reducible refine gate_callee (f := 86) rfl ?_); refine goesL_ (some 4) rfl rfl Try.func86 (by kernel_rfl) rfl #[.int .i64 a0, .int .i64 4] rfl Gv.lm ?_; (with_reducible refine (impl_put.calls k a0 4 t284 _ A2.out).mono ?_); rintro e w3 ⟨v285, rfl, ho0, hb⟩; refine ⟨_, rfl, ?_⟩; have n0_ := Gv.a0 (Kd.R_lower ho0 (below_size Gv.bw)); have n1_ := Gv.a0 (below_step Gv.bw hb); clear HB; have HO286 := n0_; have HB := n1_; clear n0_ n1_; (try clear hb); (try clear hb2); (try clear hk); (try clear hi); (try clear ho0)))
 go_ret
 exact ⟨_, Gv.rt, Gv.kr HO286.out, Gv.bw⟩

/-! ### slices_Grow_byte_byte: function 87 -/
def slices_Grow_byte_byte.f (a0 : Int) : Option (List Int) := if 0 ≤ a0 ∧ a0 ≤ 1099511627776 then some ([] : List Int) else none
set_option maxHeartbeats 8000000 in
set_option maxRecDepth 100000 in
theorem slices_Grow_byte_byte.calls (a0 : Int) (r : List Int) (w : World) (h : slices_Grow_byte_byte.f a0 = some r) :
  Calls Try.prog 87 #[.slice none 0 0, .int .i64 a0] w fun e w' => ∃ v0_ : Value, e = .returned (v0_) ∧ Kd.R (Kd.int .u8) 5 w' w.heap.size (fun _ => True) v0_ r ∧ Below w.heap.size w w' := by
 unfold slices_Grow_byte_byte.f at h
 by_cases hn : 0 ≤ a0 ∧ a0 ≤ 1099511627776
 rotate_left
 ·rw [if_neg hn] at h
  cases h
 rw [if_pos hn] at h
 obtain rfl := Option.some.inj h
 clear h
 by_cases h0 : a0 = 0
 ·subst h0
  go_enter Try.func87, Try.ntmps87
  go_wp2
  go_ret
  exact ⟨_, rfl, Kd.R_nil _ _ _ _ _, Below.refl _ w⟩
 obtain ⟨n, rfl⟩ : ∃ n : Nat, a0 = n := ⟨a0.toNat, by omega⟩
 have hi := info5
 rw [Option.map_eq_some_iff] at hi
 obtain ⟨i, hi, hz⟩ := hi
 simp only [Prod.mk.injEq] at hz
 obtain ⟨hz, hs, hb⟩ := hz
 have hrz : ∀ ty, (Builtin.append_ #[80, 3] ty #[.slice none 0 0, .int .i64 (n : Int)]).run Try.prog w = _ := fun ty =>
  Lib.run_append_nil_zeros w 80 3 ty 5 i (.int .u8 0) .i64 .i64 Try.underlying80 Try.underlying3 hi hz n (by omega) (by omega) (by omega) (by rw [hb]; omega)
 have hG1 : n ≤ grownCap w n 0 5 := grownCap_ge w _ _ _
 have hG2 : grownCap w n 0 5 ≤ maxLen := grownCap_le_maxLen w n 0 5 (by unfold maxLen; omega)
 obtain ⟨G, hG⟩ : ∃ G, G = grownCap w n 0 5 := ⟨_, rfl⟩
 rw [← hG] at hrz hG1 hG2
 have h1 : ¬ ((n : Int) < 0) := by omega
 have h2 : wrap64 ((0 : Int) - 0) = 0 := by unfold wrap64; omega
 have h3 : wrap64 ((n : Int) - 0) = n := by unfold wrap64; omega
 have h4 : (n : Int) > 0 := by omega
 have hG63 : G ≤ 9223372036854775807 := by unfold maxLen at hG2; omega
 have hsz : (Builtin.zeroCells (Value.int .u8 0).cells n ++ Builtin.zeroCells (Value.int .u8 0).cells (G - n)).size = G * 1 := by
  rw [Array.size_append, size_zeroCells, size_zeroCells, show (Value.int .u8 0).cells.size = 1 from rfl]
  omega
 clear hG hz hs hb hi
 go_enter Try.func87, Try.ntmps87
 go_wp2_with (at_builtin; refine Lib.wpList_append_run _ rfl _ _ _ _ rfl _ _ rfl rfl _ _ (hrz _) ?_)
 go_ret
 refine ⟨_, rfl, ⟨fun _ _ => trivial, [], ⟨by simp, .inr ⟨w.heap.size, G, _, rfl, Nat.le_refl _, heap_alloc_new _ _, Nat.zero_le _, hG2, hsz, by simp⟩⟩, Reps.none _ _⟩, (below_alloc (below_drew1 (Below.refl _ w)) _)⟩

/-! ### slices_Concat_byte_byte: function 82 -/
mutual
def slices_Concat_byte_byte.l0 : Nat → List (List Int) → Int → List (List Int) → Int → Int → Option (List Int)
 | 0, _, _, _, _, _ => none
 | k + 1, x0, x3, x9, x10, x11 => if x11 < x10 then (if 0 ≤ x11 then (if x11 < (x9.length : Int) then (if (wrap64 (x3 + ((rd_L8 x9 x11).length : Int))) < 0 then (none) else (slices_Concat_byte_byte.l0 k x0 (wrap64 (x3 + ((rd_L8 x9 x11).length : Int))) x9 x10 (wrap64 (x11 + 1)))) else (none)) else (none)) else ((slices_Grow_byte_byte.f x3).bind fun t291 => (slices_Concat_byte_byte.l1 k t291 x0 (x0.length : Int) 0))
def slices_Concat_byte_byte.l1 : Nat → List Int → List (List Int) → Int → Int → Option (List Int)
 | 0, _, _, _, _ => none
 | k + 1, x6, x25, x26, x27 => if x27 < x26 then (if 0 ≤ x27 then (if x27 < (x25.length : Int) then (if x6.length + (rd_L8 x25 x27).length < 140737488355328 then (slices_Concat_byte_byte.l1 k (x6 ++ (rd_L8 x25 x27)) x25 x26 (wrap64 (x27 + 1))) else (none)) else (none)) else (none)) else (some x6)
end
def slices_Concat_byte_byte.f (k : Nat) (l0 : List (List Int)) : Option (List Int) := slices_Concat_byte_byte.l0 k l0 0 l0 (l0.length : Int) 0
theorem slices_Concat_byte_byte.mono_l : ∀ k, (∀ y0 y1 y2 y3 y4, LeO (slices_Concat_byte_byte.l0 k y0 y1 y2 y3 y4) (slices_Concat_byte_byte.l0 (k + 1) y0 y1 y2 y3 y4)) ∧ (∀ y0 y1 y2 y3, LeO (slices_Concat_byte_byte.l1 k y0 y1 y2 y3) (slices_Concat_byte_byte.l1 (k + 1) y0 y1 y2 y3))
 | 0 => ⟨fun _ _ _ _ _ r h => by simp [slices_Concat_byte_byte.l0] at h, fun _ _ _ _ r h => by simp [slices_Concat_byte_byte.l1] at h⟩
 | k + 1 => by
  obtain ⟨ih0, ih1⟩ := slices_Concat_byte_byte.mono_l k
  refine ⟨?_, ?_⟩
  ·intro y0 y1 y2 y3 y4
   unfold slices_Concat_byte_byte.l0
   repeat' first
   | (with_reducible exact ih0 _ _ _ _ _)
   | (with_reducible exact ih1 _ _ _ _)
   | (with_reducible exact LeO.refl _)
   | (with_reducible exact LeO.none _)
   | (with_reducible refine LeO.ite ?_ ?_)
   | (with_reducible refine LeO.bind ?_ (fun _ => ?_))
   | exact ih0 _ _ _ _ _
   | exact ih1 _ _ _ _
   | exact LeO.none _
   | refine LeO.ite ?_ ?_
   | refine LeO.bind ?_ (fun _ => ?_)
  ·intro y0 y1 y2 y3
   unfold slices_Concat_byte_byte.l1
   repeat' first
   | (with_reducible exact ih0 _ _ _ _ _)
   | (with_reducible exact ih1 _ _ _ _)
   | (with_reducible exact LeO.refl _)
   | (with_reducible exact LeO.none _)
   | (with_reducible refine LeO.ite ?_ ?_)
   | (with_reducible refine LeO.bind ?_ (fun _ => ?_))
   | exact ih0 _ _ _ _ _
   | exact ih1 _ _ _ _
   | exact LeO.none _
   | refine LeO.ite ?_ ?_
   | refine LeO.bind ?_ (fun _ => ?_)
theorem slices_Concat_byte_byte.mono : ∀ a0 k, LeO (slices_Concat_byte_byte.f k a0) (slices_Concat_byte_byte.f (k + 1) a0) := by
 intro a0 k
 obtain ⟨ih0, ih1⟩ := slices_Concat_byte_byte.mono_l k
 unfold slices_Concat_byte_byte.f
 repeat' first
   | (with_reducible exact ih0 _ _ _ _ _)
   | (with_reducible exact ih1 _ _ _ _)
   | (with_reducible exact LeO.refl _)
   | (with_reducible exact LeO.none _)
   | (with_reducible refine LeO.ite ?_ ?_)
   | (with_reducible refine LeO.bind ?_ (fun _ => ?_))
   | exact ih0 _ _ _ _ _
   | exact ih1 _ _ _ _
   | exact LeO.none _
   | refine LeO.ite ?_ ?_
   | refine LeO.bind ?_ (fun _ => ?_)
set_option maxHeartbeats 8000000 in
set_option maxRecDepth 100000 in
theorem slices_Concat_byte_byte.calls (k : Nat) (A0 : Option Addr) (c0 : Nat) (l0 : List (List Int)) (r : List Int) (w : World) (hr0 : Kd.C (Kd.slice 5 (Kd.int .u8)) w A0 l0.length l0) (hc0 : l0.length ≤ c0) (h : slices_Concat_byte_byte.f k l0 = some r) :
  Calls Try.prog 82 #[.slice A0 l0.length c0] w fun e w' => ∃ v0_ : Value, e = .returned (v0_) ∧ Kd.R (Kd.int .u8) 5 w' w.heap.size (fun _ => True) v0_ r ∧ Below w.heap.size w w' := by
 have HR0 := Gv.a0 hr0
 have HC0 := Gv.a0 hc0
 clear hr0 hc0
 have HB := Gv.a0 (Below.refl w.heap.size w)
 have H : (slices_Concat_byte_byte.l0 k l0 0 l0 (l0.length : Int) 0) = some r := h
 clear h
 have H' := Gv.a0 H
 clear H
 go_enter Try.func82, Try.ntmps82
 go_wp2
 go_loopg [3, 11] k (fun kq v3 v11 w' => ∃ (x3_1 : Int) (x11_1 : Int), v3 = .int .i64 x3_1 ∧ v11 = .int .i64 x11_1 ∧ Aside0 (slices_Concat_byte_byte.l0 kq l0 x3_1 l0 (l0.length : Int) x11_1 = some r) ∧ Aside0 (kq ≤ k) ∧ Aside0 (Below w.heap.size w w'))
 case atStart => exact ⟨(0), (0), Gv.rq, Gv.rq, H', ⟨Nat.le_refl _⟩, ⟨Gv.bw⟩⟩
 case round =>
  clear H'
  obtain ⟨x3_1, x11_1, rfl, rfl, HA, HK1, HB⟩ := hrel
  cases gk with
  | zero => exact absurd HA.out (by simp [slices_Concat_byte_byte.l0])
  | succ k1 =>
   have H := HA.out
   clear HA
   simp only [slices_Concat_byte_byte.l0] at H
   by_cases c2 : x11_1 < (l0.length : Int)
   ·rw [if_pos c2] at H
    have c2b0 : decide (x11_1 < (l0.length : Int)) = true := decide_eq_true c2
    clear c2
    by_cases c3 : 0 ≤ x11_1
    ·rw [if_pos c3] at H
     have c3b0 : decide (0 ≤ x11_1) = true := decide_eq_true c3
     clear c3
     by_cases c4 : x11_1 < (l0.length : Int)
     ·rw [if_pos c4] at H
      have c4b0 : decide (x11_1 < (l0.length : Int)) = true := decide_eq_true c4
      clear c4
      by_cases c5 : (wrap64 (x3_1 + ((rd_L8 l0 x11_1).length : Int))) < 0
      ·rw [if_pos c5] at H
       exact absurd H (by simp)
      ·rw [if_neg c5] at H
       have c5b0 : decide ((wrap64 (x3_1 + ((rd_L8 l0 x11_1).length : Int))) < 0) = false := decide_eq_false c5
       clear c5
       have H' := Gv.a0 H
       clear H
       have p290 : 0 ≤ (x11_1 : Int) := of_decide_eq_true (by first | (with_reducible assumption) | assumption)
       have q290 : x11_1 < (l0.length : Int) := of_decide_eq_true (by first | (with_reducible assumption) | assumption)
       obtain ⟨ad290, A290_0, c290_0, e290, hx290_0, hl290_0, hi290_0⟩ := at_L8 HR0.out x11_1 p290 q290
       cases e290
       replace hx290_0 := Gv.bx HB.out hx290_0
       have HR290_0 := Gv.a0 hi290_0
       have HC290_0 := Gv.a0 hl290_0
       clear hi290_0 hl290_0
       replace p290 := eq_true p290
       replace q290 := eq_true q290
       go_wp2
       go_roundg k1
       case measure => have := HK1.out; omega
       case rel => exact ⟨(wrap64 (x3_1 + ((rd_L8 l0 x11_1).length : Int))), (wrap64 (x11_1 + 1)), Gv.rq, Gv.rq, H', ⟨by have := HK1.out; omega⟩, ⟨Gv.bw⟩⟩
     ·rw [if_neg c4] at H
      exact absurd H (by simp)
    ·rw [if_neg c3] at H
     exact absurd H (by simp)
   ·rw [if_neg c2] at H
    have c2b0 : decide (x11_1 < (l0.length : Int)) = false := decide_eq_false c2
    clear c2
    replace H := Option.bind_eq_some_iff.mp H
    obtain ⟨t291, A60, H⟩ := H
    replace H : (slices_Concat_byte_byte.l1 k1 t291 l0 (l0.length : Int) 0) = some r := H
    have A6 := Gv.a0 A60
    clear A60
    have H' := Gv.a0 H
    clear H
    go_wp2_with (first | ((with_reducible refine gate_callee (f := 87) rfl ?_); refine goesL_ (some 24) rfl rfl Try.func87 (by kernel_rfl) rfl #[.slice none 0 0, .int .i64 x3_1] rfl Gv.lm ?_; (with_reducible refine (slices_Grow_byte_byte.calls x3_1 t291 _ A6.out).mono ?_); rintro e w7 ⟨v292, rfl, ho0, hb⟩; refine ⟨_, rfl, ?_⟩; have n0_ := Gv.a0 (Kd.R_lower ho0 (below_size Gv.bw)); have n1_ := Gv.a0 (below_step Gv.bw hb); clear HB; have HO293 := n0_; have HB := n1_; clear n0_ n1_; (try clear hb); (try clear hb2); (try clear hk); (try clear hi); (try clear ho0)))
    go_loopg [6, 27] k1 (fun kq v6 v27 w' => ∃ (x6_2 : List Int) (x27_2 : Int), v27 = .int .i64 x27_2 ∧ Aside0 (slices_Concat_byte_byte.l1 kq x6_2 l0 (l0.length : Int) x27_2 = some r) ∧ Aside0 (kq ≤ k1) ∧ Aside0 (Kd.R (Kd.int .u8) 5 w' w.heap.size (fun _ => True) v6 x6_2) ∧ Aside0 (Below w.heap.size w w'))
    case atStart => exact ⟨(t291), (0), Gv.rq, H', ⟨Nat.le_refl _⟩, ⟨Gv.kr HO293.out⟩, ⟨Gv.bw⟩⟩
    case round =>
     clear H'
     try clear c2
     try clear c2b0
     try clear p2
     try clear q2
     try clear hx2
     try clear c3
     try clear c3b0
     try clear c4
     try clear c4b0
     try clear c5
     try clear c5b0
     try clear p6
     try clear hx290_0
     try clear p290
     try clear q290
     obtain ⟨x6_2, x27_2, rfl, HA, HK2, HO_6, HB⟩ := hrel
     cases gk with
     | zero => exact absurd HA.out (by simp [slices_Concat_byte_byte.l1])
     | succ k2 =>
      have H := HA.out
      clear HA
      simp only [slices_Concat_byte_byte.l1] at H
      by_cases c8 : x27_2 < (l0.length : Int)
      ·rw [if_pos c8] at H
       have c8b0 : decide (x27_2 < (l0.length : Int)) = true := decide_eq_true c8
       clear c8
       by_cases c9 : 0 ≤ x27_2
       ·rw [if_pos c9] at H
        have c9b0 : decide (0 ≤ x27_2) = true := decide_eq_true c9
        clear c9
        by_cases c10 : x27_2 < (l0.length : Int)
        ·rw [if_pos c10] at H
         have c10b0 : decide (x27_2 < (l0.length : Int)) = true := decide_eq_true c10
         clear c10
         by_cases c11 : x6_2.length + (rd_L8 l0 x27_2).length < 140737488355328
         ·rw [if_pos c11] at H
          have LMc11 := Gv.a0 c11
          clear c11
          obtain ⟨y295, hy295⟩ : ∃ y_ : List Int, y_ = (x6_2 ++ (rd_L8 l0 x27_2)) := ⟨_, rfl⟩
          replace H : (slices_Concat_byte_byte.l1 k2 y295 l0 (l0.length : Int) (wrap64 (x27_2 + 1))) = some r := by first | (rw [hy295]; with_reducible exact H) | (have H2_ := (Option.bind_some _ _).symm.trans H; rw [hy295]; with_reducible exact H2_) | (have H2_ := (Option.bind_some _ _).symm.trans H; with_reducible exact H2_) | with_reducible exact H | (rw [hy295]; exact H) | exact H
          have Ny295 := Gv.a0 hy295
          clear hy295
          have H' := Gv.a0 H
          clear H
          have p294 : 0 ≤ (x27_2 : Int) := of_decide_eq_true (by first | (with_reducible assumption) | assumption)
          have q294 : x27_2 < (l0.length : Int) := of_decide_eq_true (by first | (with_reducible assumption) | assumption)
          obtain ⟨ad294, A294_0, c294_0, e294, hx294_0, hl294_0, hi294_0⟩ := at_L8 HR0.out x27_2 p294 q294
          cases e294
          replace hx294_0 := Gv.bx HB.out hx294_0
          have HR294_0 := Gv.a0 hi294_0
          have HC294_0 := Gv.a0 hl294_0
          clear hi294_0 hl294_0
          replace p294 := eq_true p294
          replace q294 := eq_true q294
          go_wp2_with (first | ((with_reducible refine gate_builtin (b := .append) (xs := #[.tmp 31, .tmp 32]) rfl ?_); at_builtin; refine Kd.R_append_rows (Kd.int .u8) (w0 := w) w.heap.size rfl (.tmp 31) (.tmp 32) 80 5 (.int .u8 0) 1 rfl Try.underlying80 info5 rfl (by decide) (by omega) u6 x6_2 (rd_L8 l0 x27_2) _ _ _ (fun _ => True) (fun _ => False) rfl rfl ?aO ?aR (fun _ _ h => h) (fun _ h => h.elim) ?aF ?aB ?aS ?aL ?_; (case aR => repeat (first | exact (Kd.C_below HR294_0.out HB.out) | (with_reducible refine Kd.C_alloc ?_ _) | (with_reducible refine Kd.C_drewN ?_ _) | (with_reducible refine Kd.C_drew ?_))); (case aB => exact Gv.bw); (case aF => exact (fun _ _ => trivial)); (case aO => exact (Gv.kr HO_6.out)); (case aS => exact (below_size Gv.bw)); (case aL => have := LMc11.out; omega); intro v296 w12 ho hb hg hat; rw [← Ny295.out] at ho; have n0_ := Gv.a0 (hb); have n1_ := Gv.a0 (ho); clear HB; clear HO_6; have HB := n0_; have HO297 := n1_; clear n0_ n1_; clear ho hb hg hat))
          go_roundg k2
          case measure => have := HK1.out; have := HK2.out; omega
          case rel => exact ⟨(y295), (wrap64 (x27_2 + 1)), Gv.rq, H', ⟨by have := HK1.out; have := HK2.out; omega⟩, ⟨Gv.kr HO297.out⟩, ⟨Gv.bw⟩⟩
         ·rw [if_neg c11] at H
          exact absurd H (by simp)
        ·rw [if_neg c10] at H
         exact absurd H (by simp)
       ·rw [if_neg c9] at H
        exact absurd H (by simp)
      ·rw [if_neg c8] at H
       have c8b0 : decide (x27_2 < (l0.length : Int)) = false := decide_eq_false c8
       clear c8
       obtain rfl := Option.some.inj H
       go_wp2
       go_ret
       exact ⟨_, Gv.rt, Gv.kr HO_6.out, Gv.bw⟩

/-! ### impl_AddrBytes: function 76 -/
def impl_AddrBytes.f (k : Nat) (a0_0 : Int) (a0_1 : Int) (a0_2 : Int) (a0_3 : Int) (a0_4 : Int) : Option (List Int) := (impl_AddrOk.f a0_0 a0_1 a0_2 a0_3 a0_4).bind fun t299 => (if t299 = true then (if a0_0 = 4 then ((impl_Put32.f k a0_4).bind fun t300 => (some t300)) else ((impl_Put32.f k a0_1).bind fun t303 => ((impl_Put32.f k a0_2).bind fun t306 => ((impl_Put32.f k a0_3).bind fun t309 => ((impl_Put32.f k a0_4).bind fun t312 => ((slices_Concat_byte_byte.f k (([t303, t306, t309, t312] : List (List Int)))).bind fun t318 => (some t318))))))) else (some ([] : List Int)))
theorem impl_AddrBytes.mono : ∀ a0 a1 a2 a3 a4 k, LeO (impl_AddrBytes.f k a0 a1 a2 a3 a4) (impl_AddrBytes.f (k + 1) a0 a1 a2 a3 a4) := by
 intro a0 a1 a2 a3 a4 k
 unfold impl_AddrBytes.f
 repeat' first
   | (with_reducible exact impl_Put32.mono _ _)
   | (with_reducible exact slices_Concat_byte_byte.mono _ _)
   | (with_reducible exact LeO.refl _)
   | (with_reducible exact LeO.none _)
   | (with_reducible refine LeO.ite ?_ ?_)
   | (with_reducible refine LeO.bind ?_ (fun _ => ?_))
   | exact impl_Put32.mono _ _
   | exact slices_Concat_byte_byte.mono _ _
   | exact LeO.none _
   | refine LeO.ite ?_ ?_
   | refine LeO.bind ?_ (fun _ => ?_)
def impl_AddrBytes.T5 : Bool × List (List Nat × List Nat) := (true, [([], []), ([0], [0]), ([1], [1]), ([], []), ([3], [3]), ([4, 2], [4]), ([], []), ([6], [6]), ([7, 5], [7]), ([], []), ([9], [9]), ([10, 8], [10]), ([2, 5, 8, 11], [2, 5, 8, 11]), ([12, 11], [12]), ([13, 13, 0, 1, 2, 3, 4, 5, 6, 7, 8, 9, 10, 11, 12, 13], [13])])
def impl_AddrBytes.B5 : List Nat := [0, 1, 3, 0, 8, 31, 0, 64, 255, 0, 512, 2047, 4095, 8191, 16383]
theorem impl_AddrBytes.tab5 : rtab .any (opsOf Try.f76 5) = impl_AddrBytes.T5 := by kernel_rfl
theorem impl_AddrBytes.bits5 : waitsOk impl_AddrBytes.T5.2 impl_AddrBytes.B5 = true := by kernel_rfl
set_option maxHeartbeats 8000000 in
set_option maxRecDepth 100000 in
theorem impl_AddrBytes.calls (k : Nat) (a0_0 : Int) (a0_1 : Int) (a0_2 : Int) (a0_3 : Int) (a0_4 : Int) (r : List Int) (w : World) (h : impl_AddrBytes.f k a0_0 a0_1 a0_2 a0_3 a0_4 = some r) :
  Calls Try.prog 76 #[.agg #[.int .i64 a0_0, .int .i64 a0_1, .int .i64 a0_2, .int .i64 a0_3, .int .i64 a0_4]] w fun e w' => ∃ v0_ : Value, e = .returned (v0_) ∧ Kd.R (Kd.int .u8) 5 w' w.heap.size (fun _ => True) v0_ r ∧ Below w.heap.size w w' := by
 have hu34 := Try.underlying34
 have HB := Gv.a0 (Below.refl w.heap.size w)
 have H : ((impl_AddrOk.f a0_0 a0_1 a0_2 a0_3 a0_4).bind fun t299 => (if t299 = true then (if a0_0 = 4 then ((impl_Put32.f k a0_4).bind fun t300 => (some t300)) else ((impl_Put32.f k a0_1).bind fun t303 => ((impl_Put32.f k a0_2).bind fun t306 => ((impl_Put32.f k a0_3).bind fun t309 => ((impl_Put32.f k a0_4).bind fun t312 => ((slices_Concat_byte_byte.f k (([t303, t306, t309, t312] : List (List Int)))).bind fun t318 => (some t318))))))) else (some ([] : List Int)))) = some r := h
 clear h
 replace H := Option.bind_eq_some_iff.mp H
 obtain ⟨t299, A20, H⟩ := H
 replace H : (if t299 = true then (if a0_0 = 4 then ((impl_Put32.f k a0_4).bind fun t300 => (some t300)) else ((impl_Put32.f k a0_1).bind fun t303 => ((impl_Put32.f k a0_2).bind fun t306 => ((impl_Put32.f k a0_3).bind fun t309 => ((impl_Put32.f k a0_4).bind fun t312 => ((slices_Concat_byte_byte.f k (([t303, t306, t309, t312] : List (List Int)))).bind fun t318 => (some t318))))))) else (some ([] : List Int))) = some r := H
 have A2 := Gv.a0 A20
 clear A20
 by_cases c3 : t299 = true
 ·subst c3
  have H1 : (if a0_0 = 4 then ((impl_Put32.f k a0_4).bind fun t300 => (some t300)) else ((impl_Put32.f k a0_1).bind fun t303 => ((impl_Put32.f k a0_2).bind fun t306 => ((impl_Put32.f k a0_3).bind fun t309 => ((impl_Put32.f k a0_4).bind fun t312 => ((slices_Concat_byte_byte.f k (([t303, t306, t309, t312] : List (List Int)))).bind fun t318 => (some t318))))))) = some r := by rw [if_pos rfl] at H; exact H
  clear H
  have H := H1
  clear H1
  by_cases c4 : a0_0 = 4
  ·rw [if_pos c4] at H
   have c4b0 : (a0_0 == 4) = true := beq_iff_eq.mpr c4
   have c4b1 : (a0_0 != 4) = false := bne_eq_false_iff_eq.mpr c4
   clear c4
   replace H := Option.bind_eq_some_iff.mp H
   obtain ⟨t300, A50, H⟩ := H
   replace H : (some t300) = some r := H
   have A5 := Gv.a0 A50
   clear A50
   obtain rfl := Option.some.inj H
   go_enter Try.func76, Try.ntmps76
   go_wp2_with (first | ((with_reducible refine gate_dst (N := 1) rfl ?_); refine box_event ?hg (N := 1) ?hd (cs := #[.int .i64 a0_0, .int .i64 a0_1, .int .i64 a0_2, .int .i64 a0_3, .int .i64 a0_4]) (t := 34) ?hr ?_; (case hd => rfl); (case hg => rfl); (case hr => first | (go_simp; done) | (go_simp; rfl)); intro gb298 hg w6 hbox hb; have n0_ := Gv.a0 (below_step Gv.bw hb); have n1_ := Gv.a0 (hbox); have n2_ := Gv.a0 ((Gv.ble hg Gv.bw : w.heap.size ≤ gb298)); have n3_ := Gv.a0 ((Gv.ble hg Gv.bw : w.heap.size ≤ gb298)); clear HB; have HB := n0_; have BK298 := n1_; have GW298 := n2_; have GE298 := n3_; clear n0_ n1_ n2_ n3_; clear hb hbox hg; obtain ⟨hcz7_0, hcz7_1, hcz7_2, hcz7_3, hcz7_4⟩ := Gv.c5 BK298.out; obtain ⟨hfz7_0, hfz7_1, hfz7_2, hfz7_3, hfz7_4⟩ := Gv.f5 BK298.out) | ((with_reducible refine gate_callee (f := 65) rfl ?_); refine goesL_ (some 5) rfl rfl Try.func65 (by kernel_rfl) rfl #[.agg #[.int .i64 a0_0, .int .i64 a0_1, .int .i64 a0_2, .int .i64 a0_3, .int .i64 a0_4]] rfl Gv.lm ?_; (with_reducible refine (impl_AddrOk.calls a0_0 a0_1 a0_2 a0_3 a0_4 true _ A2.out).mono ?_); rintro e w8 ⟨rfl, hb⟩; refine ⟨_, rfl, ?_⟩; have n0_ := Gv.a0 (Gv.bb BK298.out hb); have n1_ := Gv.a0 (below_step Gv.bw hb); clear BK298; clear HB; have BK298 := n0_; have HB := n1_; clear n0_ n1_; (try clear hb); (try clear hb2); (try clear hk); (try clear hi); obtain ⟨hcz9_0, hcz9_1, hcz9_2, hcz9_3, hcz9_4⟩ := Gv.c5 BK298.out; obtain ⟨hfz9_0, hfz9_1, hfz9_2, hfz9_3, hfz9_4⟩ := Gv.f5 BK298.out) | ((with_reducible refine gate_callee (f := 81) rfl ?_); refine goesL_ (some 13) rfl rfl Try.func81 (by kernel_rfl) rfl #[.int .i64 a0_4] rfl Gv.lm ?_; (with_reducible refine (impl_Put32.calls k a0_4 t300 _ A5.out).mono ?_); rintro e w10 ⟨v301, rfl, ho0, hb⟩; refine ⟨_, rfl, ?_⟩; have n0_ := Gv.a0 (Kd.R_lower ho0 (below_size Gv.bw)); have n1_ := Gv.a0 (Gv.bb BK298.out hb); have n2_ := Gv.a0 (below_step Gv.bw hb); clear BK298; clear HB; have HO302 := n0_; have BK298 := n1_; have HB := n2_; clear n0_ n1_ n2_; (try clear hb); (try clear hb2); (try clear hk); (try clear hi); (try clear ho0)))
   go_ret
   exact ⟨_, Gv.rt, Gv.kr HO302.out, Gv.bw⟩
  ·rw [if_neg c4] at H
   have c4b0 : (a0_0 == 4) = false := beq_eq_false_iff_ne.mpr c4
   have c4b1 : (a0_0 != 4) = true := bne_iff_ne.mpr c4
   replace H := Option.bind_eq_some_iff.mp H
   obtain ⟨t303, A110, H⟩ := H
   replace H : ((impl_Put32.f k a0_2).bind fun t306 => ((impl_Put32.f k a0_3).bind fun t309 => ((impl_Put32.f k a0_4).bind fun t312 => ((slices_Concat_byte_byte.f k (([t303, t306, t309, t312] : List (List Int)))).bind fun t318 => (some t318))))) = some r := H
   have A11 := Gv.a0 A110
   clear A110
   replace H := Option.bind_eq_some_iff.mp H
   obtain ⟨t306, A120, H⟩ := H
   replace H : ((impl_Put32.f k a0_3).bind fun t309 => ((impl_Put32.f k a0_4).bind fun t312 => ((slices_Concat_byte_byte.f k (([t303, t306, t309, t312] : List (List Int)))).bind fun t318 => (some t318)))) = some r := H
   have A12 := Gv.a0 A120
   clear A120
   replace H := Option.bind_eq_some_iff.mp H
   obtain ⟨t309, A130, H⟩ := H
   replace H : ((impl_Put32.f k a0_4).bind fun t312 => ((slices_Concat_byte_byte.f k (([t303, t306, t309, t312] : List (List Int)))).bind fun t318 => (some t318))) = some r := H
   have A13 := Gv.a0 A130
   clear A130
   replace H := Option.bind_eq_some_iff.mp H
   obtain ⟨t312, A140, H⟩ := H
   replace H : ((slices_Concat_byte_byte.f k (([t303, t306, t309, t312] : List (List Int)))).bind fun t318 => (some t318)) = some r := H
   have A14 := Gv.a0 A140
   clear A140
   obtain ⟨y315, hy315⟩ : ∃ y_ : List (List Int), y_ = (([t303, t306, t309, t312] : List (List Int))) := ⟨_, rfl⟩
   replace H : ((slices_Concat_byte_byte.f k y315).bind fun t318 => (some t318)) = some r := by first | (rw [hy315]; with_reducible exact H) | (have H2_ := (Option.bind_some _ _).symm.trans H; rw [hy315]; with_reducible exact H2_) | (have H2_ := (Option.bind_some _ _).symm.trans H; with_reducible exact H2_) | with_reducible exact H | (rw [hy315]; exact H) | exact H
   have Ny315 := Gv.a0 hy315
   clear hy315
   replace H := Option.bind_eq_some_iff.mp H
   obtain ⟨t318, A150, H⟩ := H
   replace H : (some t318) = some r := H
   have A15 := Gv.a0 A150
   clear A150
   obtain rfl := Option.some.inj H
   go_enter Try.func76, Try.ntmps76
   try go_wp2_with (first | ((with_reducible refine gate_dst (N := 1) rfl ?_); refine box_event ?hg (N := 1) ?hd (cs := #[.int .i64 a0_0, .int .i64 a0_1, .int .i64 a0_2, .int .i64 a0_3, .int .i64 a0_4]) (t := 34) ?hr ?_; (case hd => rfl); (case hg => rfl); (case hr => first | (go_simp; done) | (go_simp; rfl)); intro gb298 hg w16 hbox hb; have n0_ := Gv.a0 (below_step Gv.bw hb); have n1_ := Gv.a0 (hbox); have n2_ := Gv.a0 ((Gv.ble hg Gv.bw : w.heap.size ≤ gb298)); have n3_ := Gv.a0 ((Gv.ble hg Gv.bw : w.heap.size ≤ gb298)); clear HB; have HB := n0_; have BK298 := n1_; have GW298 := n2_; have GE298 := n3_; clear n0_ n1_ n2_ n3_; clear hb hbox hg; obtain ⟨hcz17_0, hcz17_1, hcz17_2, hcz17_3, hcz17_4⟩ := Gv.c5 BK298.out; obtain ⟨hfz17_0, hfz17_1, hfz17_2, hfz17_3, hfz17_4⟩ := Gv.f5 BK298.out) | ((with_reducible refine gate_callee (f := 65) rfl ?_); refine goesL_ (some 5) rfl rfl Try.func65 (by kernel_rfl) rfl #[.agg #[.int .i64 a0_0, .int .i64 a0_1, .int .i64 a0_2, .int .i64 a0_3, .int .i64 a0_4]] rfl Gv.lm ?_; (with_reducible refine (impl_AddrOk.calls a0_0 a0_1 a0_2 a0_3 a0_4 true _ A2.out).mono ?_); rintro e w18 ⟨rfl, hb⟩; refine ⟨_, rfl, ?_⟩; have n0_ := Gv.a0 (Gv.bb BK298.out hb); have n1_ := Gv.a0 (below_step Gv.bw hb); clear BK298; clear HB; have BK298 := n0_; have HB := n1_; clear n0_ n1_; (try clear hb); (try clear hb2); (try clear hk); (try clear hi); obtain ⟨hcz19_0, hcz19_1, hcz19_2, hcz19_3, hcz19_4⟩ := Gv.c5 BK298.out; obtain ⟨hfz19_0, hfz19_1, hfz19_2, hfz19_3, hfz19_4⟩ := Gv.f5 BK298.out))
   have n0_ := Gv.a0 (blk_drew BK298.out)
   have n1_ := Gv.a0 (below_drew1 HB.out)
   clear BK298
   clear HB
   have BK298 := n0_
   have HB := n1_
   clear n0_ n1_
   refine start_ (n := 15) (S := fun w' => w'.cell? ⟨gb298, 0, none⟩ = some (.int .i64 a0_0) ∧ w'.cell? ⟨gb298, 1, none⟩ = some (.int .i64 a0_1) ∧ w'.cell? ⟨gb298, 2, none⟩ = some (.int .i64 a0_2) ∧ w'.cell? ⟨gb298, 3, none⟩ = some (.int .i64 a0_3) ∧ w'.cell? ⟨gb298, 4, none⟩ = some (.int .i64 a0_4)) (ds := []) #[false, false, false, false, false, false, false, false, false, false, false, false, false, false, false] (by kernel_rfl) rfl rfl ⟨(blk_cell BK298.out 0).trans rfl, (blk_cell BK298.out 1).trans rfl, (blk_cell BK298.out 2).trans rfl, (blk_cell BK298.out 3).trans rfl, (blk_cell BK298.out 4).trans rfl⟩ (fun hHeld => ?_); refine with_tabW impl_AddrBytes.tab5 impl_AddrBytes.bits5 (fun HT_ HW_ => ?_)
   generalize w18.drew = w20 at BK298 HB hHeld ⊢
   refine Gv.pu 0 (some 14) HT_ ?_
   refine Gv.pu 3 (some 17) HT_ ?_
   refine Gv.pu 6 (some 20) HT_ ?_
   refine Gv.pu 9 (some 23) HT_ ?_
   refine take_ (i := 1) (N := some 15) (v := ?_) (a' := ?_) #[true, true, false, true, false, false, true, false, false, true, false, false, false, false, false] rfl rfl (take_ofW HT_.out HW_.out (by kernel_rfl)) (fun _ _ _ h => h) (Or.inl ⟨by rfl, ?_⟩) hHeld ?_ ?_
   rotate_left
   ·rintro w' ⟨s0, s1, s2, s3, s4⟩
    go_simp
    with_reducible rfl
   rotate_left
   ·simp only [Act.put, List.setIfInBounds_toArray, List.set_cons_zero, List.set_cons_succ, i64_w, i32_w]
    rfl
   refine take_ (i := 4) (N := some 18) (v := ?_) (a' := ?_) #[true, true, false, true, true, false, true, false, false, true, false, false, false, false, false] rfl rfl (take_ofW HT_.out HW_.out (by kernel_rfl)) (fun _ _ _ h => h) (Or.inl ⟨by rfl, ?_⟩) hHeld ?_ ?_
   rotate_left
   ·rintro w' ⟨s0, s1, s2, s3, s4⟩
    go_simp
    with_reducible rfl
   rotate_left
   ·simp only [Act.put, List.setIfInBounds_toArray, List.set_cons_zero, List.set_cons_succ, i64_w, i32_w]
    rfl
   refine take_ (i := 7) (N := some 21) (v := ?_) (a' := ?_) #[true, true, false, true, true, false, true, true, false, true, false, false, false, false, false] rfl rfl (take_ofW HT_.out HW_.out (by kernel_rfl)) (fun _ _ _ h => h) (Or.inl ⟨by rfl, ?_⟩) hHeld ?_ ?_
   rotate_left
   ·rintro w' ⟨s0, s1, s2, s3, s4⟩
    go_simp
    with_reducible rfl
   rotate_left
   ·simp only [Act.put, List.setIfInBounds_toArray, List.set_cons_zero, List.set_cons_succ, i64_w, i32_w]
    rfl
   refine take_ (i := 10) (N := some 24) (v := ?_) (a' := ?_) #[true, true, false, true, true, false, true, true, false, true, true, false, false, false, false] rfl rfl (take_ofW HT_.out HW_.out (by kernel_rfl)) (fun _ _ _ h => h) (Or.inl ⟨by rfl, ?_⟩) hHeld ?_ ?_
   rotate_left
   ·rintro w' ⟨s0, s1, s2, s3, s4⟩
    go_simp
    with_reducible rfl
   rotate_left
   ·simp only [Act.put, List.setIfInBounds_toArray, List.set_cons_zero, List.set_cons_succ, i64_w, i32_w]
    rfl
   refine one_ (i := 2) (N := some 16) #[true, true, true, true, true, false, true, true, false, true, true, false, false, false, false] rfl rfl (one_of HT_.out (by kernel_rfl)) (by decide) (fun K hK => ?_)
   refine goes_ Try.func81 (by kernel_rfl) rfl #[.int .i64 a0_1] (by rfl) rfl rfl Gv.lm ?_
   with_reducible refine (impl_Put32.calls k a0_1 t303 _ A11.out).mono ?_
   rintro e w21 ⟨v304, rfl, ho0, hb⟩
   refine ⟨_, rfl, ?_⟩
   have n0_ := Gv.a0 (Kd.R_lower ho0 (below_size Gv.bw))
   have n1_ := Gv.a0 (Gv.bb BK298.out hb)
   have n2_ := Gv.a0 (below_step Gv.bw hb)
   clear BK298
   clear HB
   have HO305 := n0_
   have BK298 := n1_
   have HB := n2_
   clear n0_ n1_ n2_
   (try clear hb)
   (try clear hb2)
   (try clear hk)
   (try clear hi)
   (try clear ho0)
   refine hK.out _ _ ⟨(blk_cell BK298.out 0).trans rfl, (blk_cell BK298.out 1).trans rfl, (blk_cell BK298.out 2).trans rfl, (blk_cell BK298.out 3).trans rfl, (blk_cell BK298.out 4).trans rfl⟩ (fun hHeld => ?_)
   clear hK K
   refine norm_ (a' := ?_) ?_ ?_
   rotate_left
   ·show Act.put _ (some 16) _ = _
    simp only [Act.put, List.setIfInBounds_toArray, List.set_cons_zero, List.set_cons_succ, i64_w, i32_w]
    rfl
   refine one_ (i := 5) (N := some 19) #[true, true, true, true, true, true, true, true, false, true, true, false, false, false, false] rfl rfl (one_of HT_.out (by kernel_rfl)) (by decide) (fun K hK => ?_)
   refine goes_ Try.func81 (by kernel_rfl) rfl #[.int .i64 a0_2] (by rfl) rfl rfl Gv.lm ?_
   with_reducible refine (impl_Put32.calls k a0_2 t306 _ A12.out).mono ?_
   rintro e w22 ⟨v307, rfl, ho0, hb⟩
   refine ⟨_, rfl, ?_⟩
   have n0_ := Gv.a0 (Kd.R_elder' (Gv.kr HO305.out) (Kd.R_base ho0) hb)
   have n1_ := Gv.a0 (Kd.R_lower (Kd.R_new' ho0 (Kd.R_lt (Gv.kr HO305.out))) (below_size Gv.bw))
   have n2_ := Gv.a0 (Gv.bb BK298.out hb)
   have n3_ := Gv.a0 (below_step Gv.bw hb)
   clear HO305
   clear BK298
   clear HB
   have HO305 := n0_
   have HO308 := n1_
   have BK298 := n2_
   have HB := n3_
   clear n0_ n1_ n2_ n3_
   (try clear hb)
   (try clear hb2)
   (try clear hk)
   (try clear hi)
   (try clear ho0)
   refine hK.out _ _ ⟨(blk_cell BK298.out 0).trans rfl, (blk_cell BK298.out 1).trans rfl, (blk_cell BK298.out 2).trans rfl, (blk_cell BK298.out 3).trans rfl, (blk_cell BK298.out 4).trans rfl⟩ (fun hHeld => ?_)
   clear hK K
   refine norm_ (a' := ?_) ?_ ?_
   rotate_left
   ·show Act.put _ (some 19) _ = _
    simp only [Act.put, List.setIfInBounds_toArray, List.set_cons_zero, List.set_cons_succ, i64_w, i32_w]
    rfl
   refine one_ (i := 8) (N := some 22) #[true, true, true, true, true, true, true, true, true, true, true, false, false, false, false] rfl rfl (one_of HT_.out (by kernel_rfl)) (by decide) (fun K hK => ?_)
   refine goes_ Try.func81 (by kernel_rfl) rfl #[.int .i64 a0_3] (by rfl) rfl rfl Gv.lm ?_
   with_reducible refine (impl_Put32.calls k a0_3 t309 _ A13.out).mono ?_
   rintro e w23 ⟨v310, rfl, ho0, hb⟩
   refine ⟨_, rfl, ?_⟩
   have n0_ := Gv.a0 (Kd.R_elder' (Gv.kr HO305.out) (Kd.R_base ho0) hb)
   have n1_ := Gv.a0 (Kd.R_elder' (Gv.kr HO308.out) (Kd.R_base ho0) hb)
   have n2_ := Gv.a0 (Kd.R_lower (Kd.R_new' (Kd.R_new' ho0 (Kd.R_lt (Gv.kr HO305.out))) (Kd.R_lt (Gv.kr HO308.out))) (below_size Gv.bw))
   have n3_ := Gv.a0 (Gv.bb BK298.out hb)
   have n4_ := Gv.a0 (below_step Gv.bw hb)
   clear HO305
   clear HO308
   clear BK298
   clear HB
   have HO305 := n0_
   have HO308 := n1_
   have HO311 := n2_
   have BK298 := n3_
   have HB := n4_
   clear n0_ n1_ n2_ n3_ n4_
   (try clear hb)
   (try clear hb2)
   (try clear hk)
   (try clear hi)
   (try clear ho0)
   refine hK.out _ _ ⟨(blk_cell BK298.out 0).trans rfl, (blk_cell BK298.out 1).trans rfl, (blk_cell BK298.out 2).trans rfl, (blk_cell BK298.out 3).trans rfl, (blk_cell BK298.out 4).trans rfl⟩ (fun hHeld => ?_)
   clear hK K
   refine norm_ (a' := ?_) ?_ ?_
   rotate_left
   ·show Act.put _ (some 22) _ = _
    simp only [Act.put, List.setIfInBounds_toArray, List.set_cons_zero, List.set_cons_succ, i64_w, i32_w]
    rfl
   refine one_ (i := 11) (N := some 25) #[true, true, true, true, true, true, true, true, true, true, true, true, false, false, false] rfl rfl (one_of HT_.out (by kernel_rfl)) (by decide) (fun K hK => ?_)
   refine goes_ Try.func81 (by kernel_rfl) rfl #[.int .i64 a0_4] (by rfl) rfl rfl Gv.lm ?_
   with_reducible refine (impl_Put32.calls k a0_4 t312 _ A14.out).mono ?_
   rintro e w24 ⟨v313, rfl, ho0, hb⟩
   refine ⟨_, rfl, ?_⟩
   have n0_ := Gv.a0 (Kd.R_elder' (Gv.kr HO305.out) (Kd.R_base ho0) hb)
   have n1_ := Gv.a0 (Kd.R_elder' (Gv.kr HO308.out) (Kd.R_base ho0) hb)
   have n2_ := Gv.a0 (Kd.R_elder' (Gv.kr HO311.out) (Kd.R_base ho0) hb)
   have n3_ := Gv.a0 (Kd.R_lower (Kd.R_new' (Kd.R_new' (Kd.R_new' ho0 (Kd.R_lt (Gv.kr HO305.out))) (Kd.R_lt (Gv.kr HO308.out))) (Kd.R_lt (Gv.kr HO311.out))) (below_size Gv.bw))
   have n4_ := Gv.a0 (Gv.bb BK298.out hb)
   have n5_ := Gv.a0 (below_step Gv.bw hb)
   clear HO305
   clear HO308
   clear HO311
   clear BK298
   clear HB
   have HO305 := n0_
   have HO308 := n1_
   have HO311 := n2_
   have HO314 := n3_
   have BK298 := n4_
   have HB := n5_
   clear n0_ n1_ n2_ n3_ n4_ n5_
   (try clear hb)
   (try clear hb2)
   (try clear hk)
   (try clear hi)
   (try clear ho0)
   obtain ⟨Ao25, co25, eo25⟩ := Kd.R_slice HO305.out
   (first | subst eo25 | (injection eo25 with f1_ f2_ f3_; have f4_ := f1_.symm; have f5_ := f3_.symm; clear f1_ f2_ f3_; subst f4_; subst f5_))
   obtain ⟨Ao26, co26, eo26⟩ := Kd.R_slice HO308.out
   (first | subst eo26 | (injection eo26 with f1_ f2_ f3_; have f4_ := f1_.symm; have f5_ := f3_.symm; clear f1_ f2_ f3_; subst f4_; subst f5_))
   obtain ⟨Ao27, co27, eo27⟩ := Kd.R_slice HO311.out
   (first | subst eo27 | (injection eo27 with f1_ f2_ f3_; have f4_ := f1_.symm; have f5_ := f3_.symm; clear f1_ f2_ f3_; subst f4_; subst f5_))
   obtain ⟨Ao28, co28, eo28⟩ := Kd.R_slice HO314.out
   (first | subst eo28 | (injection eo28 with f1_ f2_ f3_; have f4_ := f1_.symm; have f5_ := f3_.symm; clear f1_ f2_ f3_; subst f4_; subst f5_))
   refine hK.out _ _ ⟨(blk_cell BK298.out 0).trans rfl, (blk_cell BK298.out 1).trans rfl, (blk_cell BK298.out 2).trans rfl, (blk_cell BK298.out 3).trans rfl, (blk_cell BK298.out 4).trans rfl⟩ (fun hHeld => ?_)
   clear hK K
   refine norm_ (a' := ?_) ?_ ?_
   rotate_left
   ·show Act.put _ (some 25) _ = _
    simp only [Act.put, List.setIfInBounds_toArray, List.set_cons_zero, List.set_cons_succ, i64_w, i32_w]
    rfl
   refine one_ (i := 12) (N := some 26) #[true, true, true, true, true, true, true, true, true, true, true, true, true, false, false] rfl rfl (one_of HT_.out (by kernel_rfl)) (by decide) (fun K hK => ?_)
   refine Kd.N_lit_step (Kd.slice 5 (Kd.int .u8)) _ 80 ?hg (N' := 26) ?hd (xs := ([t303, t306, t309, t312] : List (List Int))) (inner := [.slice Ao25 t303.length co25, .slice Ao26 t306.length co26, .slice Ao27 t309.length co27, .slice Ao28 t312.length co28]) (ok := (fun k_ => k_ ≠ gb298)) (okp := (fun k_ => k_ ≠ gb298)) ?hr ?hp (fun _ hk => hk) ((show ∀ k_, w24.heap.size ≤ k_ → (fun k_ => k_ ≠ gb298) k_ from fun k_ hk => Kd.freshB (g := gb298) (o := .cells #[.int .i64 a0_0, .int .i64 a0_1, .int .i64 a0_2, .int .i64 a0_3, .int .i64 a0_4] 34 (0, 0)) Gv.bk k_ hk) _ (Nat.le_refl _)) (Below.refl _ _) (Nat.le_refl _) (by simp) ?_; (case hd => rfl); (case hg => rfl); (case hr => first | (go_simp; done) | (go_simp; rfl)); (case hp => exact (Reps.one (show Kd.FK (Kd.slice 5 (Kd.int .u8)) _ _ t303 [.slice Ao25 t303.length co25] from (Kd.FK_slice_mk (Kd.R_reads' (Kd.R_mono (ok' := (fun k_ => k_ ≠ gb298)) (Kd.R_types (HO305.out) BK298.out (by decide)) (fun k_ hk => hk.2))).2.1 (Kd.R_F (Kd.R_mono (ok' := (fun k_ => k_ ≠ gb298)) (Kd.R_types (HO305.out) BK298.out (by decide)) (fun k_ hk => hk.2))))) (Reps.one (show Kd.FK (Kd.slice 5 (Kd.int .u8)) _ _ t306 [.slice Ao26 t306.length co26] from (Kd.FK_slice_mk (Kd.R_reads' (Kd.R_mono (ok' := (fun k_ => k_ ≠ gb298)) (Kd.R_types (HO308.out) BK298.out (by decide)) (fun k_ hk => hk.2))).2.1 (Kd.R_F (Kd.R_mono (ok' := (fun k_ => k_ ≠ gb298)) (Kd.R_types (HO308.out) BK298.out (by decide)) (fun k_ hk => hk.2))))) (Reps.one (show Kd.FK (Kd.slice 5 (Kd.int .u8)) _ _ t309 [.slice Ao27 t309.length co27] from (Kd.FK_slice_mk (Kd.R_reads' (Kd.R_mono (ok' := (fun k_ => k_ ≠ gb298)) (Kd.R_types (HO311.out) BK298.out (by decide)) (fun k_ hk => hk.2))).2.1 (Kd.R_F (Kd.R_mono (ok' := (fun k_ => k_ ≠ gb298)) (Kd.R_types (HO311.out) BK298.out (by decide)) (fun k_ hk => hk.2))))) (Reps.one (show Kd.FK (Kd.slice 5 (Kd.int .u8)) _ _ t312 [.slice Ao28 t312.length co28] from (Kd.FK_slice_mk (Kd.R_reads' (Kd.R_mono (ok' := (fun k_ => k_ ≠ gb298)) (Kd.R_types (HO314.out) BK298.out (by decide)) (fun k_ hk => hk.2))).2.1 (Kd.R_F (Kd.R_mono (ok' := (fun k_ => k_ ≠ gb298)) (Kd.R_types (HO314.out) BK298.out (by decide)) (fun k_ hk => hk.2))))) (Reps.none _ _))))))
   intro v316 w29 ho30 hb hg_ hnew_
   clear hg_ hnew_
   (first | rw [← Ny315.out] at ho30 | (simp only [Int.reduceToNat] at ho30; rw [← Ny315.out] at ho30))
   have n0_ := Gv.a0 (Kd.N_lower ho30 (below_size Gv.bw))
   have n1_ := Gv.a0 (Gv.bb BK298.out hb)
   have n2_ := Gv.a0 (below_step Gv.bw hb)
   clear BK298
   clear HB
   clear HO305
   clear HO308
   clear HO311
   clear HO314
   have HO317 := n0_
   have BK298 := n1_
   have HB := n2_
   clear n0_ n1_ n2_
   clear hb ho30
   obtain ⟨Ao31, co31, eo31⟩ := Kd.N_slice HO317.out
   (first | subst eo31 | (injection eo31 with f1_ f2_ f3_; have f4_ := f1_.symm; have f5_ := f3_.symm; clear f1_ f2_ f3_; subst f4_; subst f5_))
   refine hK.out _ _ ⟨(blk_cell BK298.out 0).trans rfl, (blk_cell BK298.out 1).trans rfl, (blk_cell BK298.out 2).trans rfl, (blk_cell BK298.out 3).trans rfl, (blk_cell BK298.out 4).trans rfl⟩ (fun hHeld => ?_)
   clear hK K
   refine norm_ (a' := ?_) ?_ ?_
   rotate_left
   ·show Act.put _ (some 26) _ = _
    simp only [Act.put, List.setIfInBounds_toArray, List.set_cons_zero, List.set_cons_succ, i64_w, i32_w]
    rfl
   refine one_ (i := 13) (N := some 27) #[true, true, true, true, true, true, true, true, true, true, true, true, true, true, false] rfl rfl (one_of HT_.out (by kernel_rfl)) (by decide) (fun K hK => ?_)
   refine goes_ Try.func82 (by kernel_rfl) rfl #[.slice Ao31 y315.length co31] (by rfl) rfl rfl Gv.lm ?_
   with_reducible refine (slices_Concat_byte_byte.calls k _ _ y315 t318 _ ?side1 ?side2 A15.out).mono ?_
   (case side1 => repeat (first | exact (Kd.N_reads' HO317.out).2.2 | (with_reducible refine Kd.C_alloc ?_ _) | (with_reducible refine Kd.C_drewN ?_ _) | (with_reducible refine Kd.C_drew ?_)))
   (case side2 => exact (Kd.N_reads' HO317.out).2.1)
   rintro e w32 ⟨v319, rfl, ho0, hb⟩
   refine ⟨_, rfl, ?_⟩
   have n0_ := Gv.a0 (Kd.N_elder' (by (with_reducible repeat (first | apply Kd.N_alloc | apply Kd.N_drewN | apply Kd.N_drew)); exact HO317.out) (Kd.R_base ho0) hb)
   have n1_ := Gv.a0 (Kd.R_lower ho0 (below_size Gv.bw))
   have n2_ := Gv.a0 (Gv.bb BK298.out hb)
   have n3_ := Gv.a0 (below_step Gv.bw hb)
   clear HO317
   clear BK298
   clear HB
   have HO317 := n0_
   have HO320 := n1_
   have BK298 := n2_
   have HB := n3_
   clear n0_ n1_ n2_ n3_
   (try clear hb)
   (try clear hb2)
   (try clear hk)
   (try clear hi)
   (try clear ho0)
   refine hK.out _ _ ⟨(blk_cell BK298.out 0).trans rfl, (blk_cell BK298.out 1).trans rfl, (blk_cell BK298.out 2).trans rfl, (blk_cell BK298.out 3).trans rfl, (blk_cell BK298.out 4).trans rfl⟩ (fun hHeld => ?_)
   clear hK K
   refine norm_ (a' := ?_) ?_ ?_
   rotate_left
   ·show Act.put _ (some 27) _ = _
    simp only [Act.put, List.setIfInBounds_toArray, List.set_cons_zero, List.set_cons_succ, i64_w, i32_w]
    rfl
   refine Gv.pu 14 (some 2) HT_ ?_
   refine done_ (done_of HT_.out (by kernel_rfl)) ?_
   try go_wp2
   go_ret
   exact ⟨_, Gv.rt, Gv.kr HO320.out, Gv.bw⟩
 ·replace c3 := Bool.eq_false_iff.mpr c3
  subst c3
  have H1 : (some ([] : List Int)) = some r := by rw [if_neg (show ¬ (false = true) by decide)] at H; exact H
  clear H
  have H := H1
  clear H1
  obtain rfl := Option.some.inj H
  go_enter Try.func76, Try.ntmps76
  go_wp2_with (first | ((with_reducible refine gate_dst (N := 1) rfl ?_); refine box_event ?hg (N := 1) ?hd (cs := #[.int .i64 a0_0, .int .i64 a0_1, .int .i64 a0_2, .int .i64 a0_3, .int .i64 a0_4]) (t := 34) ?hr ?_; (case hd => rfl); (case hg => rfl); (case hr => first | (go_simp; done) | (go_simp; rfl)); intro gb298 hg w33 hbox hb; have n0_ := Gv.a0 (below_step Gv.bw hb); have n1_ := Gv.a0 (hbox); have n2_ := Gv.a0 ((Gv.ble hg Gv.bw : w.heap.size ≤ gb298)); have n3_ := Gv.a0 ((Gv.ble hg Gv.bw : w.heap.size ≤ gb298)); clear HB; have HB := n0_; have BK298 := n1_; have GW298 := n2_; have GE298 := n3_; clear n0_ n1_ n2_ n3_; clear hb hbox hg; obtain ⟨hcz34_0, hcz34_1, hcz34_2, hcz34_3, hcz34_4⟩ := Gv.c5 BK298.out; obtain ⟨hfz34_0, hfz34_1, hfz34_2, hfz34_3, hfz34_4⟩ := Gv.f5 BK298.out) | ((with_reducible refine gate_callee (f := 65) rfl ?_); refine goesL_ (some 5) rfl rfl Try.func65 (by kernel_rfl) rfl #[.agg #[.int .i64 a0_0, .int .i64 a0_1, .int .i64 a0_2, .int .i64 a0_3, .int .i64 a0_4]] rfl Gv.lm ?_; (with_reducible refine (impl_AddrOk.calls a0_0 a0_1 a0_2 a0_3 a0_4 false _ A2.out).mono ?_); rintro e w35 ⟨rfl, hb⟩; refine ⟨_, rfl, ?_⟩; have n0_ := Gv.a0 (Gv.bb BK298.out hb); have n1_ := Gv.a0 (below_step Gv.bw hb); clear BK298; clear HB; have BK298 := n0_; have HB := n1_; clear n0_ n1_; (try clear hb); (try clear hb2); (try clear hk); (try clear hi)))
  go_ret
  exact ⟨_, Gv.rt, by first | exact Kd.R_nil _ _ _ _ _ | exact Kd.N_nil _ _ _ _ _ | exact Kd.V_nil _ _ _ _ _ | exact Kd.Q_nil _ _ _ _ _ | exact Kd.S_nil _ _ _ _ _, Gv.bw⟩

/-! ### impl_Clip: function 77 -/
def impl_Clip.f (a0 : Int) (a1 : Int) (a2 : Int) : Option (Int) := if a0 < a1 then (some a1) else (if a0 > a2 then (some a2) else (some a0))
set_option maxHeartbeats 8000000 in
set_option maxRecDepth 100000 in
theorem impl_Clip.calls (a0 : Int) (a1 : Int) (a2 : Int) (r : Int) (w : World) (h : impl_Clip.f a0 a1 a2 = some r) :
  Calls Try.prog 77 #[.int .i64 a0, .int .i64 a1, .int .i64 a2] w fun e w' => e = .returned (.int .i64 r) ∧ Drawn0 w w' := by
 have H : (if a0 < a1 then (some a1) else (if a0 > a2 then (some a2) else (some a0))) = some r := h
 clear h
 by_cases c4 : a0 < a1
 ·rw [if_pos c4] at H
  have c4b0 : decide (a0 < a1) = true := decide_eq_true c4
  clear c4
  obtain rfl := Option.some.inj H
  go_enter Try.func77, Try.ntmps77
  go_wp2
  go_ret
  exact ⟨by first | rfl | (simp; done) | (simp [Int.tdiv_eq_ediv_of_nonneg]; done) | (simp [*]; done), by repeat (first | exact Drawn0.refl _ | apply Drawn0.step)⟩
 ·rw [if_neg c4] at H
  have c4b0 : decide (a0 < a1) = false := decide_eq_false c4
  clear c4
  by_cases c5 : a0 > a2
  ·rw [if_pos c5] at H
   have c5b0 : decide (a2 < a0) = true := decide_eq_true c5
   clear c5
   obtain rfl := Option.some.inj H
   go_enter Try.func77, Try.ntmps77
   go_wp2
   go_ret
   exact ⟨by first | rfl | (simp; done) | (simp [Int.tdiv_eq_ediv_of_nonneg]; done) | (simp [*]; done), by repeat (first | exact Drawn0.refl _ | apply Drawn0.step)⟩
  ·rw [if_neg c5] at H
   have c5b0 : decide (a2 < a0) = false := decide_eq_false c5
   clear c5
   obtain rfl := Option.some.inj H
   go_enter Try.func77, Try.ntmps77
   go_wp2
   go_ret
   exact ⟨by first | rfl | (simp; done) | (simp [Int.tdiv_eq_ediv_of_nonneg]; done) | (simp [*]; done), by repeat (first | exact Drawn0.refl _ | apply Drawn0.step)⟩

/-! ### impl_beOf: function 83 -/
def impl_beOf.l0 : Nat → Int → List Int → Int → Int → Option (Int)
 | 0, _, _, _, _ => none
 | k + 1, x3, x6, x7, x8 => if x8 < x7 then (if 0 ≤ x8 then (if x8 < (x6.length : Int) then (impl_beOf.l0 k (Go.bits .or .i64 (wrap64 (x3 * 256)) (wrap64 (rd x6 x8))) x6 x7 (wrap64 (x8 + 1))) else (none)) else (none)) else (some x3)
def impl_beOf.f (k : Nat) (l0 : List Int) : Option (Int) := impl_beOf.l0 k 0 l0 (l0.length : Int) 0
theorem impl_beOf.mono_l : ∀ k, (∀ y0 y1 y2 y3, LeO (impl_beOf.l0 k y0 y1 y2 y3) (impl_beOf.l0 (k + 1) y0 y1 y2 y3))
 | 0 => fun _ _ _ _ r h => by simp [impl_beOf.l0] at h
 | k + 1 => by
  have ih0 := impl_beOf.mono_l k
  ·intro y0 y1 y2 y3
   unfold impl_beOf.l0
   repeat' first
   | (with_reducible exact ih0 _ _ _ _)
   | (with_reducible exact LeO.refl _)
   | (with_reducible exact LeO.none _)
   | (with_reducible refine LeO.ite ?_ ?_)
   | (with_reducible refine LeO.bind ?_ (fun _ => ?_))
   | exact ih0 _ _ _ _
   | exact LeO.none _
   | refine LeO.ite ?_ ?_
   | refine LeO.bind ?_ (fun _ => ?_)
theorem impl_beOf.mono : ∀ a0 k, LeO (impl_beOf.f k a0) (impl_beOf.f (k + 1) a0) := by
 intro a0 k
 have ih0 := impl_beOf.mono_l k
 unfold impl_beOf.f
 repeat' first
   | (with_reducible exact ih0 _ _ _ _)
   | (with_reducible exact LeO.refl _)
   | (with_reducible exact LeO.none _)
   | (with_reducible refine LeO.ite ?_ ?_)
   | (with_reducible refine LeO.bind ?_ (fun _ => ?_))
   | exact ih0 _ _ _ _
   | exact LeO.none _
   | refine LeO.ite ?_ ?_
   | refine LeO.bind ?_ (fun _ => ?_)
set_option maxHeartbeats 8000000 in
set_option maxRecDepth 100000 in
theorem impl_beOf.calls (k : Nat) (A0 : Option Addr) (c0 : Nat) (l0 : List Int) (r : Int) (w : World) (hr0 : Kd.C (Kd.int .u8) w A0 l0.length l0) (hc0 : l0.length ≤ c0) (h : impl_beOf.f k l0 = some r) :
  Calls Try.prog 83 #[.slice A0 l0.length c0] w fun e w' => e = .returned (.int .i64 r) ∧ Drawn0 w w' := by
 have HR0 := Gv.a0 hr0
 have HC0 := Gv.a0 hc0
 clear hr0 hc0
 have H : (impl_beOf.l0 k 0 l0 (l0.length : Int) 0) = some r := h
 clear h
 have H' := Gv.a0 H
 clear H
 go_enter Try.func83, Try.ntmps83
 go_wp2
 go_loopg [3, 8] k (fun kq v3 v8 w' => ∃ (x3_1 : Int) (x8_1 : Int), v3 = .int .i64 x3_1 ∧ v8 = .int .i64 x8_1 ∧ Aside0 (impl_beOf.l0 kq x3_1 l0 (l0.length : Int) x8_1 = some r) ∧ Aside0 (kq ≤ k) ∧ Drawn0 w w')
 case atStart => exact ⟨(0), (0), Gv.rq, Gv.rq, H', ⟨Nat.le_refl _⟩, by repeat (first | exact Drawn0.refl _ | apply Drawn0.step)⟩
 case round =>
  clear H'
  obtain ⟨x3_1, x8_1, rfl, rfl, HA, HK1, ⟨m1, rfl⟩⟩ := hrel
  cases gk with
  | zero => exact absurd HA.out (by simp [impl_beOf.l0])
  | succ k1 =>
   have H := HA.out
   clear HA
   simp only [impl_beOf.l0] at H
   by_cases c2 : x8_1 < (l0.length : Int)
   ·rw [if_pos c2] at H
    have c2b0 : decide (x8_1 < (l0.length : Int)) = true := decide_eq_true c2
    clear c2
    by_cases c3 : 0 ≤ x8_1
    ·rw [if_pos c3] at H
     have c3b0 : decide (0 ≤ x8_1) = true := decide_eq_true c3
     clear c3
     by_cases c4 : x8_1 < (l0.length : Int)
     ·rw [if_pos c4] at H
      have c4b0 : decide (x8_1 < (l0.length : Int)) = true := decide_eq_true c4
      clear c4
      have H' := Gv.a0 H
      clear H
      have p321 : 0 ≤ (x8_1 : Int) := of_decide_eq_true (by first | (with_reducible assumption) | assumption)
      have q321 : x8_1 < (l0.length : Int) := of_decide_eq_true (by first | (with_reducible assumption) | assumption)
      obtain ⟨ad321, e321, hx321_0⟩ := Kd.at_int HR0.out x8_1 p321 q321
      cases e321
      replace p321 := eq_true p321
      replace q321 := eq_true q321
      go_wp2
      go_roundg k1
      case measure => have := HK1.out; omega
      case rel => exact ⟨(Go.bits .or .i64 (wrap64 (x3_1 * 256)) (wrap64 (rd l0 x8_1))), (wrap64 (x8_1 + 1)), Gv.rq, Gv.rq, H', ⟨by have := HK1.out; omega⟩, by repeat (first | exact Drawn0.refl _ | apply Drawn0.step)⟩
     ·rw [if_neg c4] at H
      exact absurd H (by simp)
    ·rw [if_neg c3] at H
     exact absurd H (by simp)
   ·rw [if_neg c2] at H
    have c2b0 : decide (x8_1 < (l0.length : Int)) = false := decide_eq_false c2
    clear c2
    obtain rfl := Option.some.inj H
    go_wp2
    go_ret
    exact ⟨by first | rfl | (simp; done) | (simp [Int.tdiv_eq_ediv_of_nonneg]; done) | (simp [*]; done), by repeat (first | exact Drawn0.refl _ | apply Drawn0.step)⟩

end Go.Proofs.Ytbihbbkdciebhaa.PRd
