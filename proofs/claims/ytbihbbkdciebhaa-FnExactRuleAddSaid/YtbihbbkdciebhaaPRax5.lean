/- Plain Lean functions of a law's Go functions, their contracts, by a program of this session (wip/pr.py over the kit's print). -/
import Derived.Test.YtbihbbkdciebhaaPRax0
import Derived.Test.YtbihbbkdciebhaaPRax2
import Derived.Test.YtbihbbkdciebhaaPRax4
namespace Go.Proofs.Ytbihbbkdciebhaa.PRa
open Go.RowKit Go.Proofs.YtbihbbkdciebhaaW.PrintWords Go.Proofs.YtbihbbkdciebhaaW.PrintLast Go.Proofs.YtbihbbkdciebhaaW.PrintMore
attribute [local go_sem] max2_int min2_int max_two min_two max_three min_three max_four min_four   -- for this text's walks alone
set_option linter.unusedVariables false
set_option linter.unusedSimpArgs false

attribute [local go_sem high] eqA53
/-! ### spec_RulesOk: function 9 -/
def spec_RulesOk.l0 : Nat → List (S55) → Int → Option (Bool)
 | 0, _, _ => none
 | k + 1, x0, x3 => if x3 < (x0.length : Int) then (if 0 ≤ x3 then ((spec_RuleOk.f k ((rd_T55 x0 x3).f0) ((rd_T55 x0 x3).f1.f0.f0) ((rd_T55 x0 x3).f1.f0.f1) ((rd_T55 x0 x3).f1.f0.f2) ((rd_T55 x0 x3).f1.f0.f3) ((rd_T55 x0 x3).f1.f0.f4) ((rd_T55 x0 x3).f1.f1) ((rd_T55 x0 x3).f2.f0.f0) ((rd_T55 x0 x3).f2.f0.f1) ((rd_T55 x0 x3).f2.f0.f2) ((rd_T55 x0 x3).f2.f0.f3) ((rd_T55 x0 x3).f2.f0.f4) ((rd_T55 x0 x3).f2.f1) ((rd_T55 x0 x3).f3) ((rd_T55 x0 x3).f4) ((rd_T55 x0 x3).f5) ((rd_T55 x0 x3).f6) ((rd_T55 x0 x3).f7) ((rd_T55 x0 x3).f8) ((rd_T55 x0 x3).f9) ((rd_T55 x0 x3).f10)).bind fun t259 => (if t259 = true then (if x3 > 0 then (if 0 ≤ (wrap64 (x3 - 1)) then (if (wrap64 (x3 - 1)) < (x0.length : Int) then (if ((rd_T55 x0 (wrap64 (x3 - 1))).f0) ≥ ((rd_T55 x0 x3).f0) then (some false) else (spec_RulesOk.l0 k x0 (wrap64 (x3 + 1)))) else (none)) else (none)) else (spec_RulesOk.l0 k x0 (wrap64 (x3 + 1)))) else (some false))) else (none)) else (some true)
def spec_RulesOk.f (k : Nat) (l0 : List (S55)) : Option (Bool) := if (l0.length : Int) > 32 then (some false) else (spec_RulesOk.l0 k l0 0)
theorem spec_RulesOk.mono_l : ∀ k, (∀ y0 y1, LeO (spec_RulesOk.l0 k y0 y1) (spec_RulesOk.l0 (k + 1) y0 y1))
 | 0 => fun _ _ r h => by simp [spec_RulesOk.l0] at h
 | k + 1 => by
  have ih0 := spec_RulesOk.mono_l k
  ·intro y0 y1
   unfold spec_RulesOk.l0
   repeat' first
   | (with_reducible exact ih0 _ _)
   | (with_reducible exact spec_RuleOk.mono _ _ _ _ _ _ _ _ _ _ _ _ _ _ _ _ _ _ _ _ _ _)
   | (with_reducible exact LeO.refl _)
   | (with_reducible exact LeO.none _)
   | (with_reducible refine LeO.ite ?_ ?_)
   | (with_reducible refine LeO.bind ?_ (fun _ => ?_))
   | exact ih0 _ _
   | exact spec_RuleOk.mono _ _ _ _ _ _ _ _ _ _ _ _ _ _ _ _ _ _ _ _ _ _
   | exact LeO.none _
   | refine LeO.ite ?_ ?_
   | refine LeO.bind ?_ (fun _ => ?_)
theorem spec_RulesOk.mono : ∀ a0 k, LeO (spec_RulesOk.f k a0) (spec_RulesOk.f (k + 1) a0) := by
 intro a0 k
 have ih0 := spec_RulesOk.mono_l k
 unfold spec_RulesOk.f
 repeat' first
   | (with_reducible exact ih0 _ _)
   | (with_reducible exact spec_RuleOk.mono _ _ _ _ _ _ _ _ _ _ _ _ _ _ _ _ _ _ _ _ _ _)
   | (with_reducible exact LeO.refl _)
   | (with_reducible exact LeO.none _)
   | (with_reducible refine LeO.ite ?_ ?_)
   | (with_reducible refine LeO.bind ?_ (fun _ => ?_))
   | exact ih0 _ _
   | exact spec_RuleOk.mono _ _ _ _ _ _ _ _ _ _ _ _ _ _ _ _ _ _ _ _ _ _
   | exact LeO.none _
   | refine LeO.ite ?_ ?_
   | refine LeO.bind ?_ (fun _ => ?_)
def spec_RulesOk.T6 : Bool × List (List Nat × List Nat) := (true, [([], []), ([], []), ([0, 1], [0, 1]), ([2], [2]), ([3], [3]), ([4], [4]), ([5, 4], [5]), ([6], [6]), ([7, 6], [6, 7]), ([8, 6, 6], [6, 8]), ([9], [9]), ([9], [9]), ([11, 9], [9, 11]), ([10, 12, 9], [9, 10, 12]), ([13, 9], [9, 13]), ([14, 9], [9, 14]), ([9], [9]), ([9], [9]), ([16, 17, 9], [9, 16, 17]), ([18, 9], [9, 18]), ([19, 9], [9, 19]), ([15, 20, 9], [9, 15, 20]), ([9, 21, 6], [6, 9, 21]), ([6, 22], [6, 22])])
def spec_RulesOk.B6 : List Nat := [0, 0, 3, 7, 15, 31, 63, 127, 255, 511, 1023, 1023, 3071, 8191, 16383, 32767, 1023, 1023, 197631, 459775, 984063, 2097151, 4194303, 8388607]
theorem spec_RulesOk.tab6 : rtab .any (opsOf Try.f9 6) = spec_RulesOk.T6 := by kernel_rfl
theorem spec_RulesOk.bits6 : waitsOk spec_RulesOk.T6.2 spec_RulesOk.B6 = true := by kernel_rfl
set_option maxHeartbeats 8000000 in
set_option maxRecDepth 100000 in
theorem spec_RulesOk.calls (k : Nat) (A0 : Option Addr) (c0 : Nat) (l0 : List (S55)) (r : Bool) (w : World) (hr0 : Kd.C k55 w A0 l0.length l0) (hc0 : l0.length ≤ c0) (h : spec_RulesOk.f k l0 = some r) :
  Calls Try.prog 9 #[.slice A0 l0.length c0] w fun e w' => e = .returned (.bool r) ∧ Below w.heap.size w w' := by
 have hu55 := Try.underlying55
 have HR0 := Gv.a0 hr0
 have HC0 := Gv.a0 hc0
 clear hr0 hc0
 have HB := Gv.a0 (Below.refl w.heap.size w)
 have H : (if (l0.length : Int) > 32 then (some false) else (spec_RulesOk.l0 k l0 0)) = some r := h
 clear h
 by_cases c2 : (l0.length : Int) > 32
 ·rw [if_pos c2] at H
  have c2b0 : decide (32 < (l0.length : Int)) = true := decide_eq_true c2
  have c2b1 : decide (32 < l0.length) = true := decide_eq_true (by omega)
  clear c2
  obtain rfl := Option.some.inj H
  go_enter Try.func9, Try.ntmps9
  go_wp2
  go_ret
  exact ⟨Gv.rt, Gv.bw⟩
 ·rw [if_neg c2] at H
  have c2b0 : decide (32 < (l0.length : Int)) = false := decide_eq_false c2
  have c2b1 : decide (32 < l0.length) = false := decide_eq_false (by omega)
  clear c2
  have H' := Gv.a0 H
  clear H
  go_enter Try.func9, Try.ntmps9
  go_wp2
  go_loopg [3] k (fun kq v3 w' => ∃ (x3_1 : Int), v3 = .int .i64 x3_1 ∧ Aside0 (spec_RulesOk.l0 kq l0 x3_1 = some r) ∧ Aside0 (kq ≤ k) ∧ Aside0 (Below w.heap.size w w'))
  case atStart => exact ⟨(0), Gv.rq, H', ⟨Nat.le_refl _⟩, ⟨Gv.bw⟩⟩
  case round =>
   clear H'
   try clear c2
   try clear c2b0
   try clear c2b1
   try clear p2
   obtain ⟨x3_1, rfl, HA, HK1, HB⟩ := hrel
   cases gk with
   | zero => exact absurd HA.out (by simp [spec_RulesOk.l0])
   | succ k1 =>
    have H := HA.out
    clear HA
    simp only [spec_RulesOk.l0] at H
    by_cases c3 : x3_1 < (l0.length : Int)
    ·rw [if_pos c3] at H
     have c3b0 : decide (x3_1 < (l0.length : Int)) = true := decide_eq_true c3
     clear c3
     by_cases c4 : 0 ≤ x3_1
     ·rw [if_pos c4] at H
      have c4b0 : decide (0 ≤ x3_1) = true := decide_eq_true c4
      clear c4
      replace H := Option.bind_eq_some_iff.mp H
      obtain ⟨t259, A50, H⟩ := H
      replace H : (if t259 = true then (if x3_1 > 0 then (if 0 ≤ (wrap64 (x3_1 - 1)) then (if (wrap64 (x3_1 - 1)) < (l0.length : Int) then (if ((rd_T55 l0 (wrap64 (x3_1 - 1))).f0) ≥ ((rd_T55 l0 x3_1).f0) then (some false) else (spec_RulesOk.l0 k1 l0 (wrap64 (x3_1 + 1)))) else (none)) else (none)) else (spec_RulesOk.l0 k1 l0 (wrap64 (x3_1 + 1)))) else (some false)) = some r := H
      have A5 := Gv.a0 A50
      clear A50
      by_cases c6 : t259 = true
      ·subst c6
       have H1 : (if x3_1 > 0 then (if 0 ≤ (wrap64 (x3_1 - 1)) then (if (wrap64 (x3_1 - 1)) < (l0.length : Int) then (if ((rd_T55 l0 (wrap64 (x3_1 - 1))).f0) ≥ ((rd_T55 l0 x3_1).f0) then (some false) else (spec_RulesOk.l0 k1 l0 (wrap64 (x3_1 + 1)))) else (none)) else (none)) else (spec_RulesOk.l0 k1 l0 (wrap64 (x3_1 + 1)))) = some r := by rw [if_pos rfl] at H; exact H
       clear H
       have H := H1
       clear H1
       by_cases c7 : x3_1 > 0
       ·rw [if_pos c7] at H
        have c7b0 : decide (0 < x3_1) = true := decide_eq_true c7
        clear c7
        obtain ⟨ji8, hji8⟩ : ∃ j_ : Int, (wrap64 (x3_1 - 1)) = j_ := ⟨_, rfl⟩
        replace H : (if 0 ≤ (ji8) then (if (ji8) < (l0.length : Int) then (if ((rd_T55 l0 (ji8)).f0) ≥ ((rd_T55 l0 x3_1).f0) then (some false) else (spec_RulesOk.l0 k1 l0 (wrap64 (x3_1 + 1)))) else (none)) else (none)) = some r := by first | (rw [hji8] at H; exact H) | (simp only [hji8] at H ⊢; exact H)
        (try rw [hji8] at A5)
        have hji8w : (IntKind.i64.wrap (x3_1 - 1)) = ji8 := (i64_w _).trans hji8
        by_cases c9 : 0 ≤ (ji8)
        ·rw [if_pos c9] at H
         have c9b0 : decide (0 ≤ (ji8)) = true := decide_eq_true c9
         clear c9
         by_cases c10 : (ji8) < (l0.length : Int)
         ·rw [if_pos c10] at H
          have c10b0 : decide ((ji8) < (l0.length : Int)) = true := decide_eq_true c10
          clear c10
          by_cases c11 : ((rd_T55 l0 (ji8)).f0) ≥ ((rd_T55 l0 x3_1).f0)
          ·rw [if_pos c11] at H
           have c11b0 : decide (((rd_T55 l0 x3_1).f0) ≤ ((rd_T55 l0 (ji8)).f0)) = true := decide_eq_true c11
           clear c11
           obtain rfl := Option.some.inj H
           try go_wp2
           have n0_ := Gv.a0 (below_drew1 HB.out)
           clear HB
           have HB := n0_
           clear n0_
           have p258 : 0 ≤ (x3_1 : Int) := of_decide_eq_true (by first | (with_reducible assumption) | assumption)
           have q258 : x3_1 < (l0.length : Int) := of_decide_eq_true (by first | (with_reducible assumption) | assumption)
           obtain ⟨ad258, e258, hx258_0, hx258_1, hx258_2, hx258_3, hx258_4, hx258_5, hx258_6, hx258_7, hx258_8, hx258_9, hx258_10, hx258_11, hx258_12, hx258_13, hx258_14, hx258_15, hx258_16, hx258_17, hx258_18, hx258_19, hx258_20⟩ := at_T55 HR0.out x3_1 p258 q258
           have hw258_20 := hx258_20
           have hw258_19 := hx258_19
           have hw258_18 := hx258_18
           have hw258_17 := hx258_17
           have hw258_16 := hx258_16
           have hw258_15 := hx258_15
           have hw258_14 := hx258_14
           have hw258_13 := hx258_13
           have hw258_12 := hx258_12
           have hw258_11 := hx258_11
           have hw258_10 := hx258_10
           have hw258_9 := hx258_9
           have hw258_8 := hx258_8
           have hw258_7 := hx258_7
           have hw258_6 := hx258_6
           have hw258_5 := hx258_5
           have hw258_4 := hx258_4
           have hw258_3 := hx258_3
           have hw258_2 := hx258_2
           have hw258_1 := hx258_1
           have hw258_0 := hx258_0
           cases e258
           replace hx258_0 := Gv.bx HB.out hx258_0
           replace hx258_1 := Gv.bx HB.out hx258_1
           replace hx258_2 := Gv.bx HB.out hx258_2
           replace hx258_3 := Gv.bx HB.out hx258_3
           replace hx258_4 := Gv.bx HB.out hx258_4
           replace hx258_5 := Gv.bx HB.out hx258_5
           replace hx258_6 := Gv.bx HB.out hx258_6
           replace hx258_7 := Gv.bx HB.out hx258_7
           replace hx258_8 := Gv.bx HB.out hx258_8
           replace hx258_9 := Gv.bx HB.out hx258_9
           replace hx258_10 := Gv.bx HB.out hx258_10
           replace hx258_11 := Gv.bx HB.out hx258_11
           replace hx258_12 := Gv.bx HB.out hx258_12
           replace hx258_13 := Gv.bx HB.out hx258_13
           replace hx258_14 := Gv.bx HB.out hx258_14
           replace hx258_15 := Gv.bx HB.out hx258_15
           replace hx258_16 := Gv.bx HB.out hx258_16
           replace hx258_17 := Gv.bx HB.out hx258_17
           replace hx258_18 := Gv.bx HB.out hx258_18
           replace hx258_19 := Gv.bx HB.out hx258_19
           replace hx258_20 := Gv.bx HB.out hx258_20
           replace p258 := eq_true p258
           replace q258 := eq_true q258
           have p260 : 0 ≤ ((ji8) : Int) := of_decide_eq_true (by first | (with_reducible assumption) | assumption)
           have q260 : (ji8) < (l0.length : Int) := of_decide_eq_true (by first | (with_reducible assumption) | assumption)
           obtain ⟨ad260, e260, hx260_0, _, _, _, _, _, _, _, _, _, _, _, _, _, _, _, _, _, _, _, _⟩ := at_T55 HR0.out (ji8) p260 q260
           have hw260_0 := hx260_0
           obtain rfl : ad258 = ad260 := (by injection e260)
           replace hx260_0 := Gv.bx HB.out hx260_0
           replace p260 := eq_true p260
           replace q260 := eq_true q260
           have p261 : 0 ≤ (x3_1 : Int) := of_decide_eq_true (by first | (with_reducible assumption) | assumption)
           have q261 : x3_1 < (l0.length : Int) := of_decide_eq_true (by first | (with_reducible assumption) | assumption)
           obtain ⟨ad261, e261, hx261_0, _, _, _, _, _, _, _, _, _, _, _, _, _, _, _, _, _, _, _, _⟩ := at_T55 HR0.out x3_1 p261 q261
           have hw261_0 := hx261_0
           obtain rfl : ad258 = ad261 := (by injection e261)
           replace hx261_0 := Gv.bx HB.out hx261_0
           replace p261 := eq_true p261
           replace q261 := eq_true q261
           refine start_ (n := 24) (S := fun w' => w'.cell? (ad258.add ((x3_1).toNat * 21)) = some (.int .i64 ((rd_T55 l0 x3_1).f0)) ∧ w'.cell? ⟨(ad258.add ((x3_1).toNat * 21)).block, (ad258.add ((x3_1).toNat * 21)).off + 1, none⟩ = some (.int .i64 ((rd_T55 l0 x3_1).f1.f0.f0)) ∧ w'.cell? ⟨(ad258.add ((x3_1).toNat * 21)).block, (ad258.add ((x3_1).toNat * 21)).off + 2, none⟩ = some (.int .i64 ((rd_T55 l0 x3_1).f1.f0.f1)) ∧ w'.cell? ⟨(ad258.add ((x3_1).toNat * 21)).block, (ad258.add ((x3_1).toNat * 21)).off + 3, none⟩ = some (.int .i64 ((rd_T55 l0 x3_1).f1.f0.f2)) ∧ w'.cell? ⟨(ad258.add ((x3_1).toNat * 21)).block, (ad258.add ((x3_1).toNat * 21)).off + 4, none⟩ = some (.int .i64 ((rd_T55 l0 x3_1).f1.f0.f3)) ∧ w'.cell? ⟨(ad258.add ((x3_1).toNat * 21)).block, (ad258.add ((x3_1).toNat * 21)).off + 5, none⟩ = some (.int .i64 ((rd_T55 l0 x3_1).f1.f0.f4)) ∧ w'.cell? ⟨(ad258.add ((x3_1).toNat * 21)).block, (ad258.add ((x3_1).toNat * 21)).off + 6, none⟩ = some (.int .i64 ((rd_T55 l0 x3_1).f1.f1)) ∧ w'.cell? ⟨(ad258.add ((x3_1).toNat * 21)).block, (ad258.add ((x3_1).toNat * 21)).off + 7, none⟩ = some (.int .i64 ((rd_T55 l0 x3_1).f2.f0.f0)) ∧ w'.cell? ⟨(ad258.add ((x3_1).toNat * 21)).block, (ad258.add ((x3_1).toNat * 21)).off + 8, none⟩ = some (.int .i64 ((rd_T55 l0 x3_1).f2.f0.f1)) ∧ w'.cell? ⟨(ad258.add ((x3_1).toNat * 21)).block, (ad258.add ((x3_1).toNat * 21)).off + 9, none⟩ = some (.int .i64 ((rd_T55 l0 x3_1).f2.f0.f2)) ∧ w'.cell? ⟨(ad258.add ((x3_1).toNat * 21)).block, (ad258.add ((x3_1).toNat * 21)).off + 10, none⟩ = some (.int .i64 ((rd_T55 l0 x3_1).f2.f0.f3)) ∧ w'.cell? ⟨(ad258.add ((x3_1).toNat * 21)).block, (ad258.add ((x3_1).toNat * 21)).off + 11, none⟩ = some (.int .i64 ((rd_T55 l0 x3_1).f2.f0.f4)) ∧ w'.cell? ⟨(ad258.add ((x3_1).toNat * 21)).block, (ad258.add ((x3_1).toNat * 21)).off + 12, none⟩ = some (.int .i64 ((rd_T55 l0 x3_1).f2.f1)) ∧ w'.cell? ⟨(ad258.add ((x3_1).toNat * 21)).block, (ad258.add ((x3_1).toNat * 21)).off + 13, none⟩ = some (.int .i64 ((rd_T55 l0 x3_1).f3)) ∧ w'.cell? ⟨(ad258.add ((x3_1).toNat * 21)).block, (ad258.add ((x3_1).toNat * 21)).off + 14, none⟩ = some (.int .i64 ((rd_T55 l0 x3_1).f4)) ∧ w'.cell? ⟨(ad258.add ((x3_1).toNat * 21)).block, (ad258.add ((x3_1).toNat * 21)).off + 15, none⟩ = some (.int .i64 ((rd_T55 l0 x3_1).f5)) ∧ w'.cell? ⟨(ad258.add ((x3_1).toNat * 21)).block, (ad258.add ((x3_1).toNat * 21)).off + 16, none⟩ = some (.int .i64 ((rd_T55 l0 x3_1).f6)) ∧ w'.cell? ⟨(ad258.add ((x3_1).toNat * 21)).block, (ad258.add ((x3_1).toNat * 21)).off + 17, none⟩ = some (.int .i64 ((rd_T55 l0 x3_1).f7)) ∧ w'.cell? ⟨(ad258.add ((x3_1).toNat * 21)).block, (ad258.add ((x3_1).toNat * 21)).off + 18, none⟩ = some (.int .i64 ((rd_T55 l0 x3_1).f8)) ∧ w'.cell? ⟨(ad258.add ((x3_1).toNat * 21)).block, (ad258.add ((x3_1).toNat * 21)).off + 19, none⟩ = some (.int .i64 ((rd_T55 l0 x3_1).f9)) ∧ w'.cell? ⟨(ad258.add ((x3_1).toNat * 21)).block, (ad258.add ((x3_1).toNat * 21)).off + 20, none⟩ = some (.int .i64 ((rd_T55 l0 x3_1).f10)) ∧ w'.cell? (ad258.add (((ji8)).toNat * 21)) = some (.int .i64 ((rd_T55 l0 (ji8)).f0)) ∧ w'.cell? (ad258.add ((x3_1).toNat * 21)) = some (.int .i64 ((rd_T55 l0 x3_1).f0))) (ds := []) #[false, false, false, false, false, false, false, false, false, false, false, false, false, false, false, false, false, false, false, false, false, false, false, false] (by kernel_rfl) rfl rfl ⟨(Gv.bx HB.out hw258_0), (Gv.bx HB.out hw258_1), (Gv.bx HB.out hw258_2), (Gv.bx HB.out hw258_3), (Gv.bx HB.out hw258_4), (Gv.bx HB.out hw258_5), (Gv.bx HB.out hw258_6), (Gv.bx HB.out hw258_7), (Gv.bx HB.out hw258_8), (Gv.bx HB.out hw258_9), (Gv.bx HB.out hw258_10), (Gv.bx HB.out hw258_11), (Gv.bx HB.out hw258_12), (Gv.bx HB.out hw258_13), (Gv.bx HB.out hw258_14), (Gv.bx HB.out hw258_15), (Gv.bx HB.out hw258_16), (Gv.bx HB.out hw258_17), (Gv.bx HB.out hw258_18), (Gv.bx HB.out hw258_19), (Gv.bx HB.out hw258_20), (Gv.bx HB.out hw260_0), (Gv.bx HB.out hw261_0)⟩ (fun hHeld => ?_); refine with_tabW spec_RulesOk.tab6 spec_RulesOk.bits6 (fun HT_ HW_ => ?_)
           generalize wr.drew = w12 at HB hx258_0 hx258_1 hx258_10 hx258_11 hx258_12 hx258_13 hx258_14 hx258_15 hx258_16 hx258_17 hx258_18 hx258_19 hx258_2 hx258_20 hx258_3 hx258_4 hx258_5 hx258_6 hx258_7 hx258_8 hx258_9 hx260_0 hx261_0 hHeld ⊢
           refine Gv.pu 0 (some 13) HT_ ?_
           refine Gv.pu 1 (some 14) HT_ ?_
           refine Gv.pu 2 (some 15) HT_ ?_
           refine take_ (i := 3) (N := some 16) (v := ?_) (a' := ?_) #[true, true, true, true, false, false, false, false, false, false, false, false, false, false, false, false, false, false, false, false, false, false, false, false] rfl rfl (take_ofW HT_.out HW_.out (by kernel_rfl)) (fun _ _ _ h => h) (Or.inl ⟨by rfl, ?_⟩) hHeld ?_ ?_
           rotate_left
           ·rintro w' ⟨s0, s1, s2, s3, s4, s5, s6, s7, s8, s9, s10, s11, s12, s13, s14, s15, s16, s17, s18, s19, s20, s21, s22⟩
            first | ((refine Gv.load_run (t := 55) (A := ad258.add ((x3_1).toNat * 21)) (cs := [_, _, _, _, _, _, _, _, _, _, _, _, _, _, _, _, _, _, _, _, _]) (x := ?xx7_) ?ho7_ ?hx7_ ⟨s0, s1, s2, s3, s4, s5, s6, s7, s8, s9, s10, s11, s12, s13, s14, s15, s16, s17, s18, s19, s20, trivial⟩ Try.underlying55 rfl (by kernel_rfl)); (case ho7_ => rfl); (case hx7_ => rfl)) | (go_simp; with_reducible rfl)
           rotate_left
           ·simp only [Act.put, List.setIfInBounds_toArray, List.set_cons_zero, List.set_cons_succ, i64_w, i32_w]
            rfl
           refine one_ (i := 4) (N := some 17) #[true, true, true, true, true, false, false, false, false, false, false, false, false, false, false, false, false, false, false, false, false, false, false, false] rfl rfl (one_of HT_.out (by kernel_rfl)) (by decide) (fun K hK => ?_)
           refine goes_ Try.func28 (by kernel_rfl) rfl #[.agg #[.int .i64 ((rd_T55 l0 x3_1).f0), .int .i64 ((rd_T55 l0 x3_1).f1.f0.f0), .int .i64 ((rd_T55 l0 x3_1).f1.f0.f1), .int .i64 ((rd_T55 l0 x3_1).f1.f0.f2), .int .i64 ((rd_T55 l0 x3_1).f1.f0.f3), .int .i64 ((rd_T55 l0 x3_1).f1.f0.f4), .int .i64 ((rd_T55 l0 x3_1).f1.f1), .int .i64 ((rd_T55 l0 x3_1).f2.f0.f0), .int .i64 ((rd_T55 l0 x3_1).f2.f0.f1), .int .i64 ((rd_T55 l0 x3_1).f2.f0.f2), .int .i64 ((rd_T55 l0 x3_1).f2.f0.f3), .int .i64 ((rd_T55 l0 x3_1).f2.f0.f4), .int .i64 ((rd_T55 l0 x3_1).f2.f1), .int .i64 ((rd_T55 l0 x3_1).f3), .int .i64 ((rd_T55 l0 x3_1).f4), .int .i64 ((rd_T55 l0 x3_1).f5), .int .i64 ((rd_T55 l0 x3_1).f6), .int .i64 ((rd_T55 l0 x3_1).f7), .int .i64 ((rd_T55 l0 x3_1).f8), .int .i64 ((rd_T55 l0 x3_1).f9), .int .i64 ((rd_T55 l0 x3_1).f10)]] (by rfl) rfl rfl Gv.lm ?_
           with_reducible refine (spec_RuleOk.calls k1 ((rd_T55 l0 x3_1).f0) ((rd_T55 l0 x3_1).f1.f0.f0) ((rd_T55 l0 x3_1).f1.f0.f1) ((rd_T55 l0 x3_1).f1.f0.f2) ((rd_T55 l0 x3_1).f1.f0.f3) ((rd_T55 l0 x3_1).f1.f0.f4) ((rd_T55 l0 x3_1).f1.f1) ((rd_T55 l0 x3_1).f2.f0.f0) ((rd_T55 l0 x3_1).f2.f0.f1) ((rd_T55 l0 x3_1).f2.f0.f2) ((rd_T55 l0 x3_1).f2.f0.f3) ((rd_T55 l0 x3_1).f2.f0.f4) ((rd_T55 l0 x3_1).f2.f1) ((rd_T55 l0 x3_1).f3) ((rd_T55 l0 x3_1).f4) ((rd_T55 l0 x3_1).f5) ((rd_T55 l0 x3_1).f6) ((rd_T55 l0 x3_1).f7) ((rd_T55 l0 x3_1).f8) ((rd_T55 l0 x3_1).f9) ((rd_T55 l0 x3_1).f10) true _ A5.out).mono ?_
           rintro e w13 ⟨rfl, hb⟩
           refine ⟨_, rfl, ?_⟩
           have n0_ := Gv.a0 (below_step Gv.bw hb)
           clear HB
           have HB := n0_
           clear n0_
           (try clear hb)
           (try clear hb2)
           (try clear hk)
           (try clear hi)
           refine hK.out _ _ ⟨(Gv.bx HB.out hw258_0), (Gv.bx HB.out hw258_1), (Gv.bx HB.out hw258_2), (Gv.bx HB.out hw258_3), (Gv.bx HB.out hw258_4), (Gv.bx HB.out hw258_5), (Gv.bx HB.out hw258_6), (Gv.bx HB.out hw258_7), (Gv.bx HB.out hw258_8), (Gv.bx HB.out hw258_9), (Gv.bx HB.out hw258_10), (Gv.bx HB.out hw258_11), (Gv.bx HB.out hw258_12), (Gv.bx HB.out hw258_13), (Gv.bx HB.out hw258_14), (Gv.bx HB.out hw258_15), (Gv.bx HB.out hw258_16), (Gv.bx HB.out hw258_17), (Gv.bx HB.out hw258_18), (Gv.bx HB.out hw258_19), (Gv.bx HB.out hw258_20), (Gv.bx HB.out hw260_0), (Gv.bx HB.out hw261_0)⟩ (fun hHeld => ?_)
           clear hK K
           refine norm_ (a' := ?_) ?_ ?_
           rotate_left
           ·show Act.put _ (some 17) _ = _
            simp only [Act.put, List.setIfInBounds_toArray, List.set_cons_zero, List.set_cons_succ, i64_w, i32_w]
            rfl
           refine Gv.pu 5 (some 18) HT_ ?_
           refine Gv.pu 6 (some 19) HT_ ?_
           refine Gv.pu 7 (some 20) HT_ ?_
           refine Gv.pu 8 (some 21) HT_ ?_
           refine Gv.pu 9 (some 22) HT_ ?_
           refine Gv.pu 10 (some 23) HT_ ?_
           refine Gv.pu 11 (some 24) HT_ ?_
           refine Gv.pu 12 (some 25) HT_ ?_
           refine Gv.pu 13 (some 26) HT_ ?_
           refine Gv.pu 14 (some 27) HT_ ?_
           refine Gv.pu 16 (some 29) HT_ ?_
           refine Gv.pu 17 (some 30) HT_ ?_
           refine Gv.pu 18 (some 31) HT_ ?_
           refine Gv.pu 19 (some 32) HT_ ?_
           refine take_ (i := 15) (N := some 28) (v := ?_) (a' := ?_) #[true, true, true, true, true, true, true, true, true, true, true, true, true, true, true, true, true, true, true, true, false, false, false, false] rfl rfl (take_ofW HT_.out HW_.out (by kernel_rfl)) (fun _ _ _ h => h) (Or.inl ⟨by rfl, ?_⟩) hHeld ?_ ?_
           rotate_left
           ·rintro w' ⟨s0, s1, s2, s3, s4, s5, s6, s7, s8, s9, s10, s11, s12, s13, s14, s15, s16, s17, s18, s19, s20, s21, s22⟩
            first | ((refine Gv.load_run (t := 55) (A := ad258.add ((x3_1).toNat * 21)) (cs := [_, _, _, _, _, _, _, _, _, _, _, _, _, _, _, _, _, _, _, _, _]) (x := ?xx9_) ?ho9_ ?hx9_ ⟨s0, s1, s2, s3, s4, s5, s6, s7, s8, s9, s10, s11, s12, s13, s14, s15, s16, s17, s18, s19, s20, trivial⟩ Try.underlying55 rfl (by kernel_rfl)); (case ho9_ => rfl); (case hx9_ => rfl)) | (go_simp; with_reducible rfl)
           rotate_left
           ·simp only [Act.put, List.setIfInBounds_toArray, List.set_cons_zero, List.set_cons_succ, i64_w, i32_w]
            rfl
           refine take_ (i := 20) (N := some 33) (v := ?_) (a' := ?_) #[true, true, true, true, true, true, true, true, true, true, true, true, true, true, true, true, true, true, true, true, true, false, false, false] rfl rfl (take_ofW HT_.out HW_.out (by kernel_rfl)) (fun _ _ _ h => h) (Or.inl ⟨by rfl, ?_⟩) hHeld ?_ ?_
           rotate_left
           ·rintro w' ⟨s0, s1, s2, s3, s4, s5, s6, s7, s8, s9, s10, s11, s12, s13, s14, s15, s16, s17, s18, s19, s20, s21, s22⟩
            first | ((refine Gv.load_run (t := 55) (A := ad258.add ((x3_1).toNat * 21)) (cs := [_, _, _, _, _, _, _, _, _, _, _, _, _, _, _, _, _, _, _, _, _]) (x := ?xx11_) ?ho11_ ?hx11_ ⟨s0, s1, s2, s3, s4, s5, s6, s7, s8, s9, s10, s11, s12, s13, s14, s15, s16, s17, s18, s19, s20, trivial⟩ Try.underlying55 rfl (by kernel_rfl)); (case ho11_ => rfl); (case hx11_ => rfl)) | (go_simp; with_reducible rfl)
           rotate_left
           ·simp only [Act.put, List.setIfInBounds_toArray, List.set_cons_zero, List.set_cons_succ, i64_w, i32_w]
            rfl
           refine Gv.pu 21 (some 34) HT_ ?_
           refine Gv.pu 22 (some 35) HT_ ?_
           refine Gv.pu 23 (some 36) HT_ ?_
           refine done_ (done_of HT_.out (by kernel_rfl)) ?_
           try go_wp2
           go_ret
           exact ⟨by first | rfl | (simp [errW_none, errW_some] <;> rfl) | (simp only [← hji8]; first | rfl | (simp [errW_none, errW_some] <;> rfl)) | (simp [*, errW_none, errW_some] <;> rfl), Gv.bw⟩
          ·rw [if_neg c11] at H
           have c11b0 : decide (((rd_T55 l0 x3_1).f0) ≤ ((rd_T55 l0 (ji8)).f0)) = false := decide_eq_false c11
           clear c11
           have H' := Gv.a0 H
           clear H
           try go_wp2
           have n0_ := Gv.a0 (below_drew1 HB.out)
           clear HB
           have HB := n0_
           clear n0_
           have p258 : 0 ≤ (x3_1 : Int) := of_decide_eq_true (by first | (with_reducible assumption) | assumption)
           have q258 : x3_1 < (l0.length : Int) := of_decide_eq_true (by first | (with_reducible assumption) | assumption)
           obtain ⟨ad258, e258, hx258_0, hx258_1, hx258_2, hx258_3, hx258_4, hx258_5, hx258_6, hx258_7, hx258_8, hx258_9, hx258_10, hx258_11, hx258_12, hx258_13, hx258_14, hx258_15, hx258_16, hx258_17, hx258_18, hx258_19, hx258_20⟩ := at_T55 HR0.out x3_1 p258 q258
           have hw258_20 := hx258_20
           have hw258_19 := hx258_19
           have hw258_18 := hx258_18
           have hw258_17 := hx258_17
           have hw258_16 := hx258_16
           have hw258_15 := hx258_15
           have hw258_14 := hx258_14
           have hw258_13 := hx258_13
           have hw258_12 := hx258_12
           have hw258_11 := hx258_11
           have hw258_10 := hx258_10
           have hw258_9 := hx258_9
           have hw258_8 := hx258_8
           have hw258_7 := hx258_7
           have hw258_6 := hx258_6
           have hw258_5 := hx258_5
           have hw258_4 := hx258_4
           have hw258_3 := hx258_3
           have hw258_2 := hx258_2
           have hw258_1 := hx258_1
           have hw258_0 := hx258_0
           cases e258
           replace hx258_0 := Gv.bx HB.out hx258_0
           replace hx258_1 := Gv.bx HB.out hx258_1
           replace hx258_2 := Gv.bx HB.out hx258_2
           replace hx258_3 := Gv.bx HB.out hx258_3
           replace hx258_4 := Gv.bx HB.out hx258_4
           replace hx258_5 := Gv.bx HB.out hx258_5
           replace hx258_6 := Gv.bx HB.out hx258_6
           replace hx258_7 := Gv.bx HB.out hx258_7
           replace hx258_8 := Gv.bx HB.out hx258_8
           replace hx258_9 := Gv.bx HB.out hx258_9
           replace hx258_10 := Gv.bx HB.out hx258_10
           replace hx258_11 := Gv.bx HB.out hx258_11
           replace hx258_12 := Gv.bx HB.out hx258_12
           replace hx258_13 := Gv.bx HB.out hx258_13
           replace hx258_14 := Gv.bx HB.out hx258_14
           replace hx258_15 := Gv.bx HB.out hx258_15
           replace hx258_16 := Gv.bx HB.out hx258_16
           replace hx258_17 := Gv.bx HB.out hx258_17
           replace hx258_18 := Gv.bx HB.out hx258_18
           replace hx258_19 := Gv.bx HB.out hx258_19
           replace hx258_20 := Gv.bx HB.out hx258_20
           replace p258 := eq_true p258
           replace q258 := eq_true q258
           have p260 : 0 ≤ ((ji8) : Int) := of_decide_eq_true (by first | (with_reducible assumption) | assumption)
           have q260 : (ji8) < (l0.length : Int) := of_decide_eq_true (by first | (with_reducible assumption) | assumption)
           obtain ⟨ad260, e260, hx260_0, _, _, _, _, _, _, _, _, _, _, _, _, _, _, _, _, _, _, _, _⟩ := at_T55 HR0.out (ji8) p260 q260
           have hw260_0 := hx260_0
           obtain rfl : ad258 = ad260 := (by injection e260)
           replace hx260_0 := Gv.bx HB.out hx260_0
           replace p260 := eq_true p260
           replace q260 := eq_true q260
           have p261 : 0 ≤ (x3_1 : Int) := of_decide_eq_true (by first | (with_reducible assumption) | assumption)
           have q261 : x3_1 < (l0.length : Int) := of_decide_eq_true (by first | (with_reducible assumption) | assumption)
           obtain ⟨ad261, e261, hx261_0, _, _, _, _, _, _, _, _, _, _, _, _, _, _, _, _, _, _, _, _⟩ := at_T55 HR0.out x3_1 p261 q261
           have hw261_0 := hx261_0
           obtain rfl : ad258 = ad261 := (by injection e261)
           replace hx261_0 := Gv.bx HB.out hx261_0
           replace p261 := eq_true p261
           replace q261 := eq_true q261
           refine start_ (n := 24) (S := fun w' => w'.cell? (ad258.add ((x3_1).toNat * 21)) = some (.int .i64 ((rd_T55 l0 x3_1).f0)) ∧ w'.cell? ⟨(ad258.add ((x3_1).toNat * 21)).block, (ad258.add ((x3_1).toNat * 21)).off + 1, none⟩ = some (.int .i64 ((rd_T55 l0 x3_1).f1.f0.f0)) ∧ w'.cell? ⟨(ad258.add ((x3_1).toNat * 21)).block, (ad258.add ((x3_1).toNat * 21)).off + 2, none⟩ = some (.int .i64 ((rd_T55 l0 x3_1).f1.f0.f1)) ∧ w'.cell? ⟨(ad258.add ((x3_1).toNat * 21)).block, (ad258.add ((x3_1).toNat * 21)).off + 3, none⟩ = some (.int .i64 ((rd_T55 l0 x3_1).f1.f0.f2)) ∧ w'.cell? ⟨(ad258.add ((x3_1).toNat * 21)).block, (ad258.add ((x3_1).toNat * 21)).off + 4, none⟩ = some (.int .i64 ((rd_T55 l0 x3_1).f1.f0.f3)) ∧ w'.cell? ⟨(ad258.add ((x3_1).toNat * 21)).block, (ad258.add ((x3_1).toNat * 21)).off + 5, none⟩ = some (.int .i64 ((rd_T55 l0 x3_1).f1.f0.f4)) ∧ w'.cell? ⟨(ad258.add ((x3_1).toNat * 21)).block, (ad258.add ((x3_1).toNat * 21)).off + 6, none⟩ = some (.int .i64 ((rd_T55 l0 x3_1).f1.f1)) ∧ w'.cell? ⟨(ad258.add ((x3_1).toNat * 21)).block, (ad258.add ((x3_1).toNat * 21)).off + 7, none⟩ = some (.int .i64 ((rd_T55 l0 x3_1).f2.f0.f0)) ∧ w'.cell? ⟨(ad258.add ((x3_1).toNat * 21)).block, (ad258.add ((x3_1).toNat * 21)).off + 8, none⟩ = some (.int .i64 ((rd_T55 l0 x3_1).f2.f0.f1)) ∧ w'.cell? ⟨(ad258.add ((x3_1).toNat * 21)).block, (ad258.add ((x3_1).toNat * 21)).off + 9, none⟩ = some (.int .i64 ((rd_T55 l0 x3_1).f2.f0.f2)) ∧ w'.cell? ⟨(ad258.add ((x3_1).toNat * 21)).block, (ad258.add ((x3_1).toNat * 21)).off + 10, none⟩ = some (.int .i64 ((rd_T55 l0 x3_1).f2.f0.f3)) ∧ w'.cell? ⟨(ad258.add ((x3_1).toNat * 21)).block, (ad258.add ((x3_1).toNat * 21)).off + 11, none⟩ = some (.int .i64 ((rd_T55 l0 x3_1).f2.f0.f4)) ∧ w'.cell? ⟨(ad258.add ((x3_1).toNat * 21)).block, (ad258.add ((x3_1).toNat * 21)).off + 12, none⟩ = some (.int .i64 ((rd_T55 l0 x3_1).f2.f1)) ∧ w'.cell? ⟨(ad258.add ((x3_1).toNat * 21)).block, (ad258.add ((x3_1).toNat * 21)).off + 13, none⟩ = some (.int .i64 ((rd_T55 l0 x3_1).f3)) ∧ w'.cell? ⟨(ad258.add ((x3_1).toNat * 21)).block, (ad258.add ((x3_1).toNat * 21)).off + 14, none⟩ = some (.int .i64 ((rd_T55 l0 x3_1).f4)) ∧ w'.cell? ⟨(ad258.add ((x3_1).toNat * 21)).block, (ad258.add ((x3_1).toNat * 21)).off + 15, none⟩ = some (.int .i64 ((rd_T55 l0 x3_1).f5)) ∧ w'.cell? ⟨(ad258.add ((x3_1).toNat * 21)).block, (ad258.add ((x3_1).toNat * 21)).off + 16, none⟩ = some (.int .i64 ((rd_T55 l0 x3_1).f6)) ∧ w'.cell? ⟨(ad258.add ((x3_1).toNat * 21)).block, (ad258.add ((x3_1).toNat * 21)).off + 17, none⟩ = some (.int .i64 ((rd_T55 l0 x3_1).f7)) ∧ w'.cell? ⟨(ad258.add ((x3_1).toNat * 21)).block, (ad258.add ((x3_1).toNat * 21)).off + 18, none⟩ = some (.int .i64 ((rd_T55 l0 x3_1).f8)) ∧ w'.cell? ⟨(ad258.add ((x3_1).toNat * 21)).block, (ad258.add ((x3_1).toNat * 21)).off + 19, none⟩ = some (.int .i64 ((rd_T55 l0 x3_1).f9)) ∧ w'.cell? ⟨(ad258.add ((x3_1).toNat * 21)).block, (ad258.add ((x3_1).toNat * 21)).off + 20, none⟩ = some (.int .i64 ((rd_T55 l0 x3_1).f10)) ∧ w'.cell? (ad258.add (((ji8)).toNat * 21)) = some (.int .i64 ((rd_T55 l0 (ji8)).f0)) ∧ w'.cell? (ad258.add ((x3_1).toNat * 21)) = some (.int .i64 ((rd_T55 l0 x3_1).f0))) (ds := []) #[false, false, false, false, false, false, false, false, false, false, false, false, false, false, false, false, false, false, false, false, false, false, false, false] (by kernel_rfl) rfl rfl ⟨(Gv.bx HB.out hw258_0), (Gv.bx HB.out hw258_1), (Gv.bx HB.out hw258_2), (Gv.bx HB.out hw258_3), (Gv.bx HB.out hw258_4), (Gv.bx HB.out hw258_5), (Gv.bx HB.out hw258_6), (Gv.bx HB.out hw258_7), (Gv.bx HB.out hw258_8), (Gv.bx HB.out hw258_9), (Gv.bx HB.out hw258_10), (Gv.bx HB.out hw258_11), (Gv.bx HB.out hw258_12), (Gv.bx HB.out hw258_13), (Gv.bx HB.out hw258_14), (Gv.bx HB.out hw258_15), (Gv.bx HB.out hw258_16), (Gv.bx HB.out hw258_17), (Gv.bx HB.out hw258_18), (Gv.bx HB.out hw258_19), (Gv.bx HB.out hw258_20), (Gv.bx HB.out hw260_0), (Gv.bx HB.out hw261_0)⟩ (fun hHeld => ?_); refine with_tabW spec_RulesOk.tab6 spec_RulesOk.bits6 (fun HT_ HW_ => ?_)
           generalize wr.drew = w14 at HB hx258_0 hx258_1 hx258_10 hx258_11 hx258_12 hx258_13 hx258_14 hx258_15 hx258_16 hx258_17 hx258_18 hx258_19 hx258_2 hx258_20 hx258_3 hx258_4 hx258_5 hx258_6 hx258_7 hx258_8 hx258_9 hx260_0 hx261_0 hHeld ⊢
           refine Gv.pu 0 (some 13) HT_ ?_
           refine Gv.pu 1 (some 14) HT_ ?_
           refine Gv.pu 2 (some 15) HT_ ?_
           refine take_ (i := 3) (N := some 16) (v := ?_) (a' := ?_) #[true, true, true, true, false, false, false, false, false, false, false, false, false, false, false, false, false, false, false, false, false, false, false, false] rfl rfl (take_ofW HT_.out HW_.out (by kernel_rfl)) (fun _ _ _ h => h) (Or.inl ⟨by rfl, ?_⟩) hHeld ?_ ?_
           rotate_left
           ·rintro w' ⟨s0, s1, s2, s3, s4, s5, s6, s7, s8, s9, s10, s11, s12, s13, s14, s15, s16, s17, s18, s19, s20, s21, s22⟩
            first | ((refine Gv.load_run (t := 55) (A := ad258.add ((x3_1).toNat * 21)) (cs := [_, _, _, _, _, _, _, _, _, _, _, _, _, _, _, _, _, _, _, _, _]) (x := ?xx13_) ?ho13_ ?hx13_ ⟨s0, s1, s2, s3, s4, s5, s6, s7, s8, s9, s10, s11, s12, s13, s14, s15, s16, s17, s18, s19, s20, trivial⟩ Try.underlying55 rfl (by kernel_rfl)); (case ho13_ => rfl); (case hx13_ => rfl)) | (go_simp; with_reducible rfl)
           rotate_left
           ·simp only [Act.put, List.setIfInBounds_toArray, List.set_cons_zero, List.set_cons_succ, i64_w, i32_w]
            rfl
           refine one_ (i := 4) (N := some 17) #[true, true, true, true, true, false, false, false, false, false, false, false, false, false, false, false, false, false, false, false, false, false, false, false] rfl rfl (one_of HT_.out (by kernel_rfl)) (by decide) (fun K hK => ?_)
           refine goes_ Try.func28 (by kernel_rfl) rfl #[.agg #[.int .i64 ((rd_T55 l0 x3_1).f0), .int .i64 ((rd_T55 l0 x3_1).f1.f0.f0), .int .i64 ((rd_T55 l0 x3_1).f1.f0.f1), .int .i64 ((rd_T55 l0 x3_1).f1.f0.f2), .int .i64 ((rd_T55 l0 x3_1).f1.f0.f3), .int .i64 ((rd_T55 l0 x3_1).f1.f0.f4), .int .i64 ((rd_T55 l0 x3_1).f1.f1), .int .i64 ((rd_T55 l0 x3_1).f2.f0.f0), .int .i64 ((rd_T55 l0 x3_1).f2.f0.f1), .int .i64 ((rd_T55 l0 x3_1).f2.f0.f2), .int .i64 ((rd_T55 l0 x3_1).f2.f0.f3), .int .i64 ((rd_T55 l0 x3_1).f2.f0.f4), .int .i64 ((rd_T55 l0 x3_1).f2.f1), .int .i64 ((rd_T55 l0 x3_1).f3), .int .i64 ((rd_T55 l0 x3_1).f4), .int .i64 ((rd_T55 l0 x3_1).f5), .int .i64 ((rd_T55 l0 x3_1).f6), .int .i64 ((rd_T55 l0 x3_1).f7), .int .i64 ((rd_T55 l0 x3_1).f8), .int .i64 ((rd_T55 l0 x3_1).f9), .int .i64 ((rd_T55 l0 x3_1).f10)]] (by rfl) rfl rfl Gv.lm ?_
           with_reducible refine (spec_RuleOk.calls k1 ((rd_T55 l0 x3_1).f0) ((rd_T55 l0 x3_1).f1.f0.f0) ((rd_T55 l0 x3_1).f1.f0.f1) ((rd_T55 l0 x3_1).f1.f0.f2) ((rd_T55 l0 x3_1).f1.f0.f3) ((rd_T55 l0 x3_1).f1.f0.f4) ((rd_T55 l0 x3_1).f1.f1) ((rd_T55 l0 x3_1).f2.f0.f0) ((rd_T55 l0 x3_1).f2.f0.f1) ((rd_T55 l0 x3_1).f2.f0.f2) ((rd_T55 l0 x3_1).f2.f0.f3) ((rd_T55 l0 x3_1).f2.f0.f4) ((rd_T55 l0 x3_1).f2.f1) ((rd_T55 l0 x3_1).f3) ((rd_T55 l0 x3_1).f4) ((rd_T55 l0 x3_1).f5) ((rd_T55 l0 x3_1).f6) ((rd_T55 l0 x3_1).f7) ((rd_T55 l0 x3_1).f8) ((rd_T55 l0 x3_1).f9) ((rd_T55 l0 x3_1).f10) true _ A5.out).mono ?_
           rintro e w15 ⟨rfl, hb⟩
           refine ⟨_, rfl, ?_⟩
           have n0_ := Gv.a0 (below_step Gv.bw hb)
           clear HB
           have HB := n0_
           clear n0_
           (try clear hb)
           (try clear hb2)
           (try clear hk)
           (try clear hi)
           refine hK.out _ _ ⟨(Gv.bx HB.out hw258_0), (Gv.bx HB.out hw258_1), (Gv.bx HB.out hw258_2), (Gv.bx HB.out hw258_3), (Gv.bx HB.out hw258_4), (Gv.bx HB.out hw258_5), (Gv.bx HB.out hw258_6), (Gv.bx HB.out hw258_7), (Gv.bx HB.out hw258_8), (Gv.bx HB.out hw258_9), (Gv.bx HB.out hw258_10), (Gv.bx HB.out hw258_11), (Gv.bx HB.out hw258_12), (Gv.bx HB.out hw258_13), (Gv.bx HB.out hw258_14), (Gv.bx HB.out hw258_15), (Gv.bx HB.out hw258_16), (Gv.bx HB.out hw258_17), (Gv.bx HB.out hw258_18), (Gv.bx HB.out hw258_19), (Gv.bx HB.out hw258_20), (Gv.bx HB.out hw260_0), (Gv.bx HB.out hw261_0)⟩ (fun hHeld => ?_)
           clear hK K
           refine norm_ (a' := ?_) ?_ ?_
           rotate_left
           ·show Act.put _ (some 17) _ = _
            simp only [Act.put, List.setIfInBounds_toArray, List.set_cons_zero, List.set_cons_succ, i64_w, i32_w]
            rfl
           refine Gv.pu 5 (some 18) HT_ ?_
           refine Gv.pu 6 (some 19) HT_ ?_
           refine Gv.pu 7 (some 20) HT_ ?_
           refine Gv.pu 8 (some 21) HT_ ?_
           refine Gv.pu 9 (some 22) HT_ ?_
           refine Gv.pu 10 (some 23) HT_ ?_
           refine Gv.pu 11 (some 24) HT_ ?_
           refine Gv.pu 12 (some 25) HT_ ?_
           refine Gv.pu 13 (some 26) HT_ ?_
           refine Gv.pu 14 (some 27) HT_ ?_
           refine Gv.pu 16 (some 29) HT_ ?_
           refine Gv.pu 17 (some 30) HT_ ?_
           refine Gv.pu 18 (some 31) HT_ ?_
           refine Gv.pu 19 (some 32) HT_ ?_
           refine take_ (i := 15) (N := some 28) (v := ?_) (a' := ?_) #[true, true, true, true, true, true, true, true, true, true, true, true, true, true, true, true, true, true, true, true, false, false, false, false] rfl rfl (take_ofW HT_.out HW_.out (by kernel_rfl)) (fun _ _ _ h => h) (Or.inl ⟨by rfl, ?_⟩) hHeld ?_ ?_
           rotate_left
           ·rintro w' ⟨s0, s1, s2, s3, s4, s5, s6, s7, s8, s9, s10, s11, s12, s13, s14, s15, s16, s17, s18, s19, s20, s21, s22⟩
            first | ((refine Gv.load_run (t := 55) (A := ad258.add ((x3_1).toNat * 21)) (cs := [_, _, _, _, _, _, _, _, _, _, _, _, _, _, _, _, _, _, _, _, _]) (x := ?xx15_) ?ho15_ ?hx15_ ⟨s0, s1, s2, s3, s4, s5, s6, s7, s8, s9, s10, s11, s12, s13, s14, s15, s16, s17, s18, s19, s20, trivial⟩ Try.underlying55 rfl (by kernel_rfl)); (case ho15_ => rfl); (case hx15_ => rfl)) | (go_simp; with_reducible rfl)
           rotate_left
           ·simp only [Act.put, List.setIfInBounds_toArray, List.set_cons_zero, List.set_cons_succ, i64_w, i32_w]
            rfl
           refine take_ (i := 20) (N := some 33) (v := ?_) (a' := ?_) #[true, true, true, true, true, true, true, true, true, true, true, true, true, true, true, true, true, true, true, true, true, false, false, false] rfl rfl (take_ofW HT_.out HW_.out (by kernel_rfl)) (fun _ _ _ h => h) (Or.inl ⟨by rfl, ?_⟩) hHeld ?_ ?_
           rotate_left
           ·rintro w' ⟨s0, s1, s2, s3, s4, s5, s6, s7, s8, s9, s10, s11, s12, s13, s14, s15, s16, s17, s18, s19, s20, s21, s22⟩
            first | ((refine Gv.load_run (t := 55) (A := ad258.add ((x3_1).toNat * 21)) (cs := [_, _, _, _, _, _, _, _, _, _, _, _, _, _, _, _, _, _, _, _, _]) (x := ?xx17_) ?ho17_ ?hx17_ ⟨s0, s1, s2, s3, s4, s5, s6, s7, s8, s9, s10, s11, s12, s13, s14, s15, s16, s17, s18, s19, s20, trivial⟩ Try.underlying55 rfl (by kernel_rfl)); (case ho17_ => rfl); (case hx17_ => rfl)) | (go_simp; with_reducible rfl)
           rotate_left
           ·simp only [Act.put, List.setIfInBounds_toArray, List.set_cons_zero, List.set_cons_succ, i64_w, i32_w]
            rfl
           refine Gv.pu 21 (some 34) HT_ ?_
           refine Gv.pu 22 (some 35) HT_ ?_
           refine Gv.pu 23 (some 36) HT_ ?_
           refine done_ (done_of HT_.out (by kernel_rfl)) ?_
           try go_wp2
           go_roundg k1
           case measure => have := HK1.out; omega
           case rel => exact ⟨(wrap64 (x3_1 + 1)), Gv.rq, H', ⟨by have := HK1.out; omega⟩, ⟨Gv.bw⟩⟩
         ·rw [if_neg c10] at H
          exact absurd H (by simp)
        ·rw [if_neg c9] at H
         exact absurd H (by simp)
       ·rw [if_neg c7] at H
        have c7b0 : decide (0 < x3_1) = false := decide_eq_false c7
        clear c7
        have H' := Gv.a0 H
        clear H
        try go_wp2
        have n0_ := Gv.a0 (below_drew1 HB.out)
        clear HB
        have HB := n0_
        clear n0_
        have p258 : 0 ≤ (x3_1 : Int) := of_decide_eq_true (by first | (with_reducible assumption) | assumption)
        have q258 : x3_1 < (l0.length : Int) := of_decide_eq_true (by first | (with_reducible assumption) | assumption)
        obtain ⟨ad258, e258, hx258_0, hx258_1, hx258_2, hx258_3, hx258_4, hx258_5, hx258_6, hx258_7, hx258_8, hx258_9, hx258_10, hx258_11, hx258_12, hx258_13, hx258_14, hx258_15, hx258_16, hx258_17, hx258_18, hx258_19, hx258_20⟩ := at_T55 HR0.out x3_1 p258 q258
        have hw258_20 := hx258_20
        have hw258_19 := hx258_19
        have hw258_18 := hx258_18
        have hw258_17 := hx258_17
        have hw258_16 := hx258_16
        have hw258_15 := hx258_15
        have hw258_14 := hx258_14
        have hw258_13 := hx258_13
        have hw258_12 := hx258_12
        have hw258_11 := hx258_11
        have hw258_10 := hx258_10
        have hw258_9 := hx258_9
        have hw258_8 := hx258_8
        have hw258_7 := hx258_7
        have hw258_6 := hx258_6
        have hw258_5 := hx258_5
        have hw258_4 := hx258_4
        have hw258_3 := hx258_3
        have hw258_2 := hx258_2
        have hw258_1 := hx258_1
        have hw258_0 := hx258_0
        cases e258
        replace hx258_0 := Gv.bx HB.out hx258_0
        replace hx258_1 := Gv.bx HB.out hx258_1
        replace hx258_2 := Gv.bx HB.out hx258_2
        replace hx258_3 := Gv.bx HB.out hx258_3
        replace hx258_4 := Gv.bx HB.out hx258_4
        replace hx258_5 := Gv.bx HB.out hx258_5
        replace hx258_6 := Gv.bx HB.out hx258_6
        replace hx258_7 := Gv.bx HB.out hx258_7
        replace hx258_8 := Gv.bx HB.out hx258_8
        replace hx258_9 := Gv.bx HB.out hx258_9
        replace hx258_10 := Gv.bx HB.out hx258_10
        replace hx258_11 := Gv.bx HB.out hx258_11
        replace hx258_12 := Gv.bx HB.out hx258_12
        replace hx258_13 := Gv.bx HB.out hx258_13
        replace hx258_14 := Gv.bx HB.out hx258_14
        replace hx258_15 := Gv.bx HB.out hx258_15
        replace hx258_16 := Gv.bx HB.out hx258_16
        replace hx258_17 := Gv.bx HB.out hx258_17
        replace hx258_18 := Gv.bx HB.out hx258_18
        replace hx258_19 := Gv.bx HB.out hx258_19
        replace hx258_20 := Gv.bx HB.out hx258_20
        replace p258 := eq_true p258
        replace q258 := eq_true q258
        refine start_ (n := 24) (S := fun w' => w'.cell? (ad258.add ((x3_1).toNat * 21)) = some (.int .i64 ((rd_T55 l0 x3_1).f0)) ∧ w'.cell? ⟨(ad258.add ((x3_1).toNat * 21)).block, (ad258.add ((x3_1).toNat * 21)).off + 1, none⟩ = some (.int .i64 ((rd_T55 l0 x3_1).f1.f0.f0)) ∧ w'.cell? ⟨(ad258.add ((x3_1).toNat * 21)).block, (ad258.add ((x3_1).toNat * 21)).off + 2, none⟩ = some (.int .i64 ((rd_T55 l0 x3_1).f1.f0.f1)) ∧ w'.cell? ⟨(ad258.add ((x3_1).toNat * 21)).block, (ad258.add ((x3_1).toNat * 21)).off + 3, none⟩ = some (.int .i64 ((rd_T55 l0 x3_1).f1.f0.f2)) ∧ w'.cell? ⟨(ad258.add ((x3_1).toNat * 21)).block, (ad258.add ((x3_1).toNat * 21)).off + 4, none⟩ = some (.int .i64 ((rd_T55 l0 x3_1).f1.f0.f3)) ∧ w'.cell? ⟨(ad258.add ((x3_1).toNat * 21)).block, (ad258.add ((x3_1).toNat * 21)).off + 5, none⟩ = some (.int .i64 ((rd_T55 l0 x3_1).f1.f0.f4)) ∧ w'.cell? ⟨(ad258.add ((x3_1).toNat * 21)).block, (ad258.add ((x3_1).toNat * 21)).off + 6, none⟩ = some (.int .i64 ((rd_T55 l0 x3_1).f1.f1)) ∧ w'.cell? ⟨(ad258.add ((x3_1).toNat * 21)).block, (ad258.add ((x3_1).toNat * 21)).off + 7, none⟩ = some (.int .i64 ((rd_T55 l0 x3_1).f2.f0.f0)) ∧ w'.cell? ⟨(ad258.add ((x3_1).toNat * 21)).block, (ad258.add ((x3_1).toNat * 21)).off + 8, none⟩ = some (.int .i64 ((rd_T55 l0 x3_1).f2.f0.f1)) ∧ w'.cell? ⟨(ad258.add ((x3_1).toNat * 21)).block, (ad258.add ((x3_1).toNat * 21)).off + 9, none⟩ = some (.int .i64 ((rd_T55 l0 x3_1).f2.f0.f2)) ∧ w'.cell? ⟨(ad258.add ((x3_1).toNat * 21)).block, (ad258.add ((x3_1).toNat * 21)).off + 10, none⟩ = some (.int .i64 ((rd_T55 l0 x3_1).f2.f0.f3)) ∧ w'.cell? ⟨(ad258.add ((x3_1).toNat * 21)).block, (ad258.add ((x3_1).toNat * 21)).off + 11, none⟩ = some (.int .i64 ((rd_T55 l0 x3_1).f2.f0.f4)) ∧ w'.cell? ⟨(ad258.add ((x3_1).toNat * 21)).block, (ad258.add ((x3_1).toNat * 21)).off + 12, none⟩ = some (.int .i64 ((rd_T55 l0 x3_1).f2.f1)) ∧ w'.cell? ⟨(ad258.add ((x3_1).toNat * 21)).block, (ad258.add ((x3_1).toNat * 21)).off + 13, none⟩ = some (.int .i64 ((rd_T55 l0 x3_1).f3)) ∧ w'.cell? ⟨(ad258.add ((x3_1).toNat * 21)).block, (ad258.add ((x3_1).toNat * 21)).off + 14, none⟩ = some (.int .i64 ((rd_T55 l0 x3_1).f4)) ∧ w'.cell? ⟨(ad258.add ((x3_1).toNat * 21)).block, (ad258.add ((x3_1).toNat * 21)).off + 15, none⟩ = some (.int .i64 ((rd_T55 l0 x3_1).f5)) ∧ w'.cell? ⟨(ad258.add ((x3_1).toNat * 21)).block, (ad258.add ((x3_1).toNat * 21)).off + 16, none⟩ = some (.int .i64 ((rd_T55 l0 x3_1).f6)) ∧ w'.cell? ⟨(ad258.add ((x3_1).toNat * 21)).block, (ad258.add ((x3_1).toNat * 21)).off + 17, none⟩ = some (.int .i64 ((rd_T55 l0 x3_1).f7)) ∧ w'.cell? ⟨(ad258.add ((x3_1).toNat * 21)).block, (ad258.add ((x3_1).toNat * 21)).off + 18, none⟩ = some (.int .i64 ((rd_T55 l0 x3_1).f8)) ∧ w'.cell? ⟨(ad258.add ((x3_1).toNat * 21)).block, (ad258.add ((x3_1).toNat * 21)).off + 19, none⟩ = some (.int .i64 ((rd_T55 l0 x3_1).f9)) ∧ w'.cell? ⟨(ad258.add ((x3_1).toNat * 21)).block, (ad258.add ((x3_1).toNat * 21)).off + 20, none⟩ = some (.int .i64 ((rd_T55 l0 x3_1).f10))) (ds := []) #[false, false, false, false, false, false, false, false, false, false, false, false, false, false, false, false, false, false, false, false, false, false, false, false] (by kernel_rfl) rfl rfl ⟨(Gv.bx HB.out hw258_0), (Gv.bx HB.out hw258_1), (Gv.bx HB.out hw258_2), (Gv.bx HB.out hw258_3), (Gv.bx HB.out hw258_4), (Gv.bx HB.out hw258_5), (Gv.bx HB.out hw258_6), (Gv.bx HB.out hw258_7), (Gv.bx HB.out hw258_8), (Gv.bx HB.out hw258_9), (Gv.bx HB.out hw258_10), (Gv.bx HB.out hw258_11), (Gv.bx HB.out hw258_12), (Gv.bx HB.out hw258_13), (Gv.bx HB.out hw258_14), (Gv.bx HB.out hw258_15), (Gv.bx HB.out hw258_16), (Gv.bx HB.out hw258_17), (Gv.bx HB.out hw258_18), (Gv.bx HB.out hw258_19), (Gv.bx HB.out hw258_20)⟩ (fun hHeld => ?_); refine with_tabW spec_RulesOk.tab6 spec_RulesOk.bits6 (fun HT_ HW_ => ?_)
        generalize wr.drew = w16 at HB hx258_0 hx258_1 hx258_10 hx258_11 hx258_12 hx258_13 hx258_14 hx258_15 hx258_16 hx258_17 hx258_18 hx258_19 hx258_2 hx258_20 hx258_3 hx258_4 hx258_5 hx258_6 hx258_7 hx258_8 hx258_9 hHeld ⊢
        refine Gv.pu 0 (some 13) HT_ ?_
        refine Gv.pu 1 (some 14) HT_ ?_
        refine Gv.pu 2 (some 15) HT_ ?_
        refine take_ (i := 3) (N := some 16) (v := ?_) (a' := ?_) #[true, true, true, true, false, false, false, false, false, false, false, false, false, false, false, false, false, false, false, false, false, false, false, false] rfl rfl (take_ofW HT_.out HW_.out (by kernel_rfl)) (fun _ _ _ h => h) (Or.inl ⟨by rfl, ?_⟩) hHeld ?_ ?_
        rotate_left
        ·rintro w' ⟨s0, s1, s2, s3, s4, s5, s6, s7, s8, s9, s10, s11, s12, s13, s14, s15, s16, s17, s18, s19, s20⟩
         first | ((refine Gv.load_run (t := 55) (A := ad258.add ((x3_1).toNat * 21)) (cs := [_, _, _, _, _, _, _, _, _, _, _, _, _, _, _, _, _, _, _, _, _]) (x := ?xx19_) ?ho19_ ?hx19_ ⟨s0, s1, s2, s3, s4, s5, s6, s7, s8, s9, s10, s11, s12, s13, s14, s15, s16, s17, s18, s19, s20, trivial⟩ Try.underlying55 rfl (by kernel_rfl)); (case ho19_ => rfl); (case hx19_ => rfl)) | (go_simp; with_reducible rfl)
        rotate_left
        ·simp only [Act.put, List.setIfInBounds_toArray, List.set_cons_zero, List.set_cons_succ, i64_w, i32_w]
         rfl
        refine one_ (i := 4) (N := some 17) #[true, true, true, true, true, false, false, false, false, false, false, false, false, false, false, false, false, false, false, false, false, false, false, false] rfl rfl (one_of HT_.out (by kernel_rfl)) (by decide) (fun K hK => ?_)
        refine goes_ Try.func28 (by kernel_rfl) rfl #[.agg #[.int .i64 ((rd_T55 l0 x3_1).f0), .int .i64 ((rd_T55 l0 x3_1).f1.f0.f0), .int .i64 ((rd_T55 l0 x3_1).f1.f0.f1), .int .i64 ((rd_T55 l0 x3_1).f1.f0.f2), .int .i64 ((rd_T55 l0 x3_1).f1.f0.f3), .int .i64 ((rd_T55 l0 x3_1).f1.f0.f4), .int .i64 ((rd_T55 l0 x3_1).f1.f1), .int .i64 ((rd_T55 l0 x3_1).f2.f0.f0), .int .i64 ((rd_T55 l0 x3_1).f2.f0.f1), .int .i64 ((rd_T55 l0 x3_1).f2.f0.f2), .int .i64 ((rd_T55 l0 x3_1).f2.f0.f3), .int .i64 ((rd_T55 l0 x3_1).f2.f0.f4), .int .i64 ((rd_T55 l0 x3_1).f2.f1), .int .i64 ((rd_T55 l0 x3_1).f3), .int .i64 ((rd_T55 l0 x3_1).f4), .int .i64 ((rd_T55 l0 x3_1).f5), .int .i64 ((rd_T55 l0 x3_1).f6), .int .i64 ((rd_T55 l0 x3_1).f7), .int .i64 ((rd_T55 l0 x3_1).f8), .int .i64 ((rd_T55 l0 x3_1).f9), .int .i64 ((rd_T55 l0 x3_1).f10)]] (by rfl) rfl rfl Gv.lm ?_
        with_reducible refine (spec_RuleOk.calls k1 ((rd_T55 l0 x3_1).f0) ((rd_T55 l0 x3_1).f1.f0.f0) ((rd_T55 l0 x3_1).f1.f0.f1) ((rd_T55 l0 x3_1).f1.f0.f2) ((rd_T55 l0 x3_1).f1.f0.f3) ((rd_T55 l0 x3_1).f1.f0.f4) ((rd_T55 l0 x3_1).f1.f1) ((rd_T55 l0 x3_1).f2.f0.f0) ((rd_T55 l0 x3_1).f2.f0.f1) ((rd_T55 l0 x3_1).f2.f0.f2) ((rd_T55 l0 x3_1).f2.f0.f3) ((rd_T55 l0 x3_1).f2.f0.f4) ((rd_T55 l0 x3_1).f2.f1) ((rd_T55 l0 x3_1).f3) ((rd_T55 l0 x3_1).f4) ((rd_T55 l0 x3_1).f5) ((rd_T55 l0 x3_1).f6) ((rd_T55 l0 x3_1).f7) ((rd_T55 l0 x3_1).f8) ((rd_T55 l0 x3_1).f9) ((rd_T55 l0 x3_1).f10) true _ A5.out).mono ?_
        rintro e w17 ⟨rfl, hb⟩
        refine ⟨_, rfl, ?_⟩
        have n0_ := Gv.a0 (below_step Gv.bw hb)
        clear HB
        have HB := n0_
        clear n0_
        (try clear hb)
        (try clear hb2)
        (try clear hk)
        (try clear hi)
        refine hK.out _ _ ⟨(Gv.bx HB.out hw258_0), (Gv.bx HB.out hw258_1), (Gv.bx HB.out hw258_2), (Gv.bx HB.out hw258_3), (Gv.bx HB.out hw258_4), (Gv.bx HB.out hw258_5), (Gv.bx HB.out hw258_6), (Gv.bx HB.out hw258_7), (Gv.bx HB.out hw258_8), (Gv.bx HB.out hw258_9), (Gv.bx HB.out hw258_10), (Gv.bx HB.out hw258_11), (Gv.bx HB.out hw258_12), (Gv.bx HB.out hw258_13), (Gv.bx HB.out hw258_14), (Gv.bx HB.out hw258_15), (Gv.bx HB.out hw258_16), (Gv.bx HB.out hw258_17), (Gv.bx HB.out hw258_18), (Gv.bx HB.out hw258_19), (Gv.bx HB.out hw258_20)⟩ (fun hHeld => ?_)
        clear hK K
        refine norm_ (a' := ?_) ?_ ?_
        rotate_left
        ·show Act.put _ (some 17) _ = _
         simp only [Act.put, List.setIfInBounds_toArray, List.set_cons_zero, List.set_cons_succ, i64_w, i32_w]
         rfl
        refine Gv.pu 5 (some 18) HT_ ?_
        refine Gv.pu 6 (some 19) HT_ ?_
        refine Gv.pu 7 (some 20) HT_ ?_
        refine Gv.pu 8 (some 21) HT_ ?_
        refine Gv.pu 9 (some 22) HT_ ?_
        refine Gv.pn 10 (some 23) HT_ ?_
        refine Gv.pn 11 (some 24) HT_ ?_
        refine Gv.pn 12 (some 25) HT_ ?_
        refine Gv.pn 13 (some 26) HT_ ?_
        refine Gv.pn 14 (some 27) HT_ ?_
        refine Gv.pn 15 (some 28) HT_ ?_
        refine Gv.pn 16 (some 29) HT_ ?_
        refine Gv.pn 17 (some 30) HT_ ?_
        refine Gv.pn 18 (some 31) HT_ ?_
        refine Gv.pn 19 (some 32) HT_ ?_
        refine Gv.pn 20 (some 33) HT_ ?_
        refine Gv.pn 21 (some 34) HT_ ?_
        refine Gv.pu 22 (some 35) HT_ ?_
        refine Gv.pu 23 (some 36) HT_ ?_
        refine done_ (done_of HT_.out (by kernel_rfl)) ?_
        try go_wp2
        go_roundg k1
        case measure => have := HK1.out; omega
        case rel => exact ⟨(wrap64 (x3_1 + 1)), Gv.rq, H', ⟨by have := HK1.out; omega⟩, ⟨Gv.bw⟩⟩
      ·replace c6 := Bool.eq_false_iff.mpr c6
       subst c6
       have H1 : (some false) = some r := by rw [if_neg (show ¬ (false = true) by decide)] at H; exact H
       clear H
       have H := H1
       clear H1
       obtain rfl := Option.some.inj H
       try go_wp2
       have n0_ := Gv.a0 (below_drew1 HB.out)
       clear HB
       have HB := n0_
       clear n0_
       have p258 : 0 ≤ (x3_1 : Int) := of_decide_eq_true (by first | (with_reducible assumption) | assumption)
       have q258 : x3_1 < (l0.length : Int) := of_decide_eq_true (by first | (with_reducible assumption) | assumption)
       obtain ⟨ad258, e258, hx258_0, hx258_1, hx258_2, hx258_3, hx258_4, hx258_5, hx258_6, hx258_7, hx258_8, hx258_9, hx258_10, hx258_11, hx258_12, hx258_13, hx258_14, hx258_15, hx258_16, hx258_17, hx258_18, hx258_19, hx258_20⟩ := at_T55 HR0.out x3_1 p258 q258
       have hw258_20 := hx258_20
       have hw258_19 := hx258_19
       have hw258_18 := hx258_18
       have hw258_17 := hx258_17
       have hw258_16 := hx258_16
       have hw258_15 := hx258_15
       have hw258_14 := hx258_14
       have hw258_13 := hx258_13
       have hw258_12 := hx258_12
       have hw258_11 := hx258_11
       have hw258_10 := hx258_10
       have hw258_9 := hx258_9
       have hw258_8 := hx258_8
       have hw258_7 := hx258_7
       have hw258_6 := hx258_6
       have hw258_5 := hx258_5
       have hw258_4 := hx258_4
       have hw258_3 := hx258_3
       have hw258_2 := hx258_2
       have hw258_1 := hx258_1
       have hw258_0 := hx258_0
       cases e258
       replace hx258_0 := Gv.bx HB.out hx258_0
       replace hx258_1 := Gv.bx HB.out hx258_1
       replace hx258_2 := Gv.bx HB.out hx258_2
       replace hx258_3 := Gv.bx HB.out hx258_3
       replace hx258_4 := Gv.bx HB.out hx258_4
       replace hx258_5 := Gv.bx HB.out hx258_5
       replace hx258_6 := Gv.bx HB.out hx258_6
       replace hx258_7 := Gv.bx HB.out hx258_7
       replace hx258_8 := Gv.bx HB.out hx258_8
       replace hx258_9 := Gv.bx HB.out hx258_9
       replace hx258_10 := Gv.bx HB.out hx258_10
       replace hx258_11 := Gv.bx HB.out hx258_11
       replace hx258_12 := Gv.bx HB.out hx258_12
       replace hx258_13 := Gv.bx HB.out hx258_13
       replace hx258_14 := Gv.bx HB.out hx258_14
       replace hx258_15 := Gv.bx HB.out hx258_15
       replace hx258_16 := Gv.bx HB.out hx258_16
       replace hx258_17 := Gv.bx HB.out hx258_17
       replace hx258_18 := Gv.bx HB.out hx258_18
       replace hx258_19 := Gv.bx HB.out hx258_19
       replace hx258_20 := Gv.bx HB.out hx258_20
       replace p258 := eq_true p258
       replace q258 := eq_true q258
       refine start_ (n := 24) (S := fun w' => w'.cell? (ad258.add ((x3_1).toNat * 21)) = some (.int .i64 ((rd_T55 l0 x3_1).f0)) ∧ w'.cell? ⟨(ad258.add ((x3_1).toNat * 21)).block, (ad258.add ((x3_1).toNat * 21)).off + 1, none⟩ = some (.int .i64 ((rd_T55 l0 x3_1).f1.f0.f0)) ∧ w'.cell? ⟨(ad258.add ((x3_1).toNat * 21)).block, (ad258.add ((x3_1).toNat * 21)).off + 2, none⟩ = some (.int .i64 ((rd_T55 l0 x3_1).f1.f0.f1)) ∧ w'.cell? ⟨(ad258.add ((x3_1).toNat * 21)).block, (ad258.add ((x3_1).toNat * 21)).off + 3, none⟩ = some (.int .i64 ((rd_T55 l0 x3_1).f1.f0.f2)) ∧ w'.cell? ⟨(ad258.add ((x3_1).toNat * 21)).block, (ad258.add ((x3_1).toNat * 21)).off + 4, none⟩ = some (.int .i64 ((rd_T55 l0 x3_1).f1.f0.f3)) ∧ w'.cell? ⟨(ad258.add ((x3_1).toNat * 21)).block, (ad258.add ((x3_1).toNat * 21)).off + 5, none⟩ = some (.int .i64 ((rd_T55 l0 x3_1).f1.f0.f4)) ∧ w'.cell? ⟨(ad258.add ((x3_1).toNat * 21)).block, (ad258.add ((x3_1).toNat * 21)).off + 6, none⟩ = some (.int .i64 ((rd_T55 l0 x3_1).f1.f1)) ∧ w'.cell? ⟨(ad258.add ((x3_1).toNat * 21)).block, (ad258.add ((x3_1).toNat * 21)).off + 7, none⟩ = some (.int .i64 ((rd_T55 l0 x3_1).f2.f0.f0)) ∧ w'.cell? ⟨(ad258.add ((x3_1).toNat * 21)).block, (ad258.add ((x3_1).toNat * 21)).off + 8, none⟩ = some (.int .i64 ((rd_T55 l0 x3_1).f2.f0.f1)) ∧ w'.cell? ⟨(ad258.add ((x3_1).toNat * 21)).block, (ad258.add ((x3_1).toNat * 21)).off + 9, none⟩ = some (.int .i64 ((rd_T55 l0 x3_1).f2.f0.f2)) ∧ w'.cell? ⟨(ad258.add ((x3_1).toNat * 21)).block, (ad258.add ((x3_1).toNat * 21)).off + 10, none⟩ = some (.int .i64 ((rd_T55 l0 x3_1).f2.f0.f3)) ∧ w'.cell? ⟨(ad258.add ((x3_1).toNat * 21)).block, (ad258.add ((x3_1).toNat * 21)).off + 11, none⟩ = some (.int .i64 ((rd_T55 l0 x3_1).f2.f0.f4)) ∧ w'.cell? ⟨(ad258.add ((x3_1).toNat * 21)).block, (ad258.add ((x3_1).toNat * 21)).off + 12, none⟩ = some (.int .i64 ((rd_T55 l0 x3_1).f2.f1)) ∧ w'.cell? ⟨(ad258.add ((x3_1).toNat * 21)).block, (ad258.add ((x3_1).toNat * 21)).off + 13, none⟩ = some (.int .i64 ((rd_T55 l0 x3_1).f3)) ∧ w'.cell? ⟨(ad258.add ((x3_1).toNat * 21)).block, (ad258.add ((x3_1).toNat * 21)).off + 14, none⟩ = some (.int .i64 ((rd_T55 l0 x3_1).f4)) ∧ w'.cell? ⟨(ad258.add ((x3_1).toNat * 21)).block, (ad258.add ((x3_1).toNat * 21)).off + 15, none⟩ = some (.int .i64 ((rd_T55 l0 x3_1).f5)) ∧ w'.cell? ⟨(ad258.add ((x3_1).toNat * 21)).block, (ad258.add ((x3_1).toNat * 21)).off + 16, none⟩ = some (.int .i64 ((rd_T55 l0 x3_1).f6)) ∧ w'.cell? ⟨(ad258.add ((x3_1).toNat * 21)).block, (ad258.add ((x3_1).toNat * 21)).off + 17, none⟩ = some (.int .i64 ((rd_T55 l0 x3_1).f7)) ∧ w'.cell? ⟨(ad258.add ((x3_1).toNat * 21)).block, (ad258.add ((x3_1).toNat * 21)).off + 18, none⟩ = some (.int .i64 ((rd_T55 l0 x3_1).f8)) ∧ w'.cell? ⟨(ad258.add ((x3_1).toNat * 21)).block, (ad258.add ((x3_1).toNat * 21)).off + 19, none⟩ = some (.int .i64 ((rd_T55 l0 x3_1).f9)) ∧ w'.cell? ⟨(ad258.add ((x3_1).toNat * 21)).block, (ad258.add ((x3_1).toNat * 21)).off + 20, none⟩ = some (.int .i64 ((rd_T55 l0 x3_1).f10))) (ds := []) #[false, false, false, false, false, false, false, false, false, false, false, false, false, false, false, false, false, false, false, false, false, false, false, false] (by kernel_rfl) rfl rfl ⟨(Gv.bx HB.out hw258_0), (Gv.bx HB.out hw258_1), (Gv.bx HB.out hw258_2), (Gv.bx HB.out hw258_3), (Gv.bx HB.out hw258_4), (Gv.bx HB.out hw258_5), (Gv.bx HB.out hw258_6), (Gv.bx HB.out hw258_7), (Gv.bx HB.out hw258_8), (Gv.bx HB.out hw258_9), (Gv.bx HB.out hw258_10), (Gv.bx HB.out hw258_11), (Gv.bx HB.out hw258_12), (Gv.bx HB.out hw258_13), (Gv.bx HB.out hw258_14), (Gv.bx HB.out hw258_15), (Gv.bx HB.out hw258_16), (Gv.bx HB.out hw258_17), (Gv.bx HB.out hw258_18), (Gv.bx HB.out hw258_19), (Gv.bx HB.out hw258_20)⟩ (fun hHeld => ?_); refine with_tabW spec_RulesOk.tab6 spec_RulesOk.bits6 (fun HT_ HW_ => ?_)
       generalize wr.drew = w18 at HB hx258_0 hx258_1 hx258_10 hx258_11 hx258_12 hx258_13 hx258_14 hx258_15 hx258_16 hx258_17 hx258_18 hx258_19 hx258_2 hx258_20 hx258_3 hx258_4 hx258_5 hx258_6 hx258_7 hx258_8 hx258_9 hHeld ⊢
       refine Gv.pu 0 (some 13) HT_ ?_
       refine Gv.pu 1 (some 14) HT_ ?_
       refine Gv.pu 2 (some 15) HT_ ?_
       refine take_ (i := 3) (N := some 16) (v := ?_) (a' := ?_) #[true, true, true, true, false, false, false, false, false, false, false, false, false, false, false, false, false, false, false, false, false, false, false, false] rfl rfl (take_ofW HT_.out HW_.out (by kernel_rfl)) (fun _ _ _ h => h) (Or.inl ⟨by rfl, ?_⟩) hHeld ?_ ?_
       rotate_left
       ·rintro w' ⟨s0, s1, s2, s3, s4, s5, s6, s7, s8, s9, s10, s11, s12, s13, s14, s15, s16, s17, s18, s19, s20⟩
        first | ((refine Gv.load_run (t := 55) (A := ad258.add ((x3_1).toNat * 21)) (cs := [_, _, _, _, _, _, _, _, _, _, _, _, _, _, _, _, _, _, _, _, _]) (x := ?xx21_) ?ho21_ ?hx21_ ⟨s0, s1, s2, s3, s4, s5, s6, s7, s8, s9, s10, s11, s12, s13, s14, s15, s16, s17, s18, s19, s20, trivial⟩ Try.underlying55 rfl (by kernel_rfl)); (case ho21_ => rfl); (case hx21_ => rfl)) | (go_simp; with_reducible rfl)
       rotate_left
       ·simp only [Act.put, List.setIfInBounds_toArray, List.set_cons_zero, List.set_cons_succ, i64_w, i32_w]
        rfl
       refine one_ (i := 4) (N := some 17) #[true, true, true, true, true, false, false, false, false, false, false, false, false, false, false, false, false, false, false, false, false, false, false, false] rfl rfl (one_of HT_.out (by kernel_rfl)) (by decide) (fun K hK => ?_)
       refine goes_ Try.func28 (by kernel_rfl) rfl #[.agg #[.int .i64 ((rd_T55 l0 x3_1).f0), .int .i64 ((rd_T55 l0 x3_1).f1.f0.f0), .int .i64 ((rd_T55 l0 x3_1).f1.f0.f1), .int .i64 ((rd_T55 l0 x3_1).f1.f0.f2), .int .i64 ((rd_T55 l0 x3_1).f1.f0.f3), .int .i64 ((rd_T55 l0 x3_1).f1.f0.f4), .int .i64 ((rd_T55 l0 x3_1).f1.f1), .int .i64 ((rd_T55 l0 x3_1).f2.f0.f0), .int .i64 ((rd_T55 l0 x3_1).f2.f0.f1), .int .i64 ((rd_T55 l0 x3_1).f2.f0.f2), .int .i64 ((rd_T55 l0 x3_1).f2.f0.f3), .int .i64 ((rd_T55 l0 x3_1).f2.f0.f4), .int .i64 ((rd_T55 l0 x3_1).f2.f1), .int .i64 ((rd_T55 l0 x3_1).f3), .int .i64 ((rd_T55 l0 x3_1).f4), .int .i64 ((rd_T55 l0 x3_1).f5), .int .i64 ((rd_T55 l0 x3_1).f6), .int .i64 ((rd_T55 l0 x3_1).f7), .int .i64 ((rd_T55 l0 x3_1).f8), .int .i64 ((rd_T55 l0 x3_1).f9), .int .i64 ((rd_T55 l0 x3_1).f10)]] (by rfl) rfl rfl Gv.lm ?_
       with_reducible refine (spec_RuleOk.calls k1 ((rd_T55 l0 x3_1).f0) ((rd_T55 l0 x3_1).f1.f0.f0) ((rd_T55 l0 x3_1).f1.f0.f1) ((rd_T55 l0 x3_1).f1.f0.f2) ((rd_T55 l0 x3_1).f1.f0.f3) ((rd_T55 l0 x3_1).f1.f0.f4) ((rd_T55 l0 x3_1).f1.f1) ((rd_T55 l0 x3_1).f2.f0.f0) ((rd_T55 l0 x3_1).f2.f0.f1) ((rd_T55 l0 x3_1).f2.f0.f2) ((rd_T55 l0 x3_1).f2.f0.f3) ((rd_T55 l0 x3_1).f2.f0.f4) ((rd_T55 l0 x3_1).f2.f1) ((rd_T55 l0 x3_1).f3) ((rd_T55 l0 x3_1).f4) ((rd_T55 l0 x3_1).f5) ((rd_T55 l0 x3_1).f6) ((rd_T55 l0 x3_1).f7) ((rd_T55 l0 x3_1).f8) ((rd_T55 l0 x3_1).f9) ((rd_T55 l0 x3_1).f10) false _ A5.out).mono ?_
       rintro e w19 ⟨rfl, hb⟩
       refine ⟨_, rfl, ?_⟩
       have n0_ := Gv.a0 (below_step Gv.bw hb)
       clear HB
       have HB := n0_
       clear n0_
       (try clear hb)
       (try clear hb2)
       (try clear hk)
       (try clear hi)
       refine hK.out _ _ ⟨(Gv.bx HB.out hw258_0), (Gv.bx HB.out hw258_1), (Gv.bx HB.out hw258_2), (Gv.bx HB.out hw258_3), (Gv.bx HB.out hw258_4), (Gv.bx HB.out hw258_5), (Gv.bx HB.out hw258_6), (Gv.bx HB.out hw258_7), (Gv.bx HB.out hw258_8), (Gv.bx HB.out hw258_9), (Gv.bx HB.out hw258_10), (Gv.bx HB.out hw258_11), (Gv.bx HB.out hw258_12), (Gv.bx HB.out hw258_13), (Gv.bx HB.out hw258_14), (Gv.bx HB.out hw258_15), (Gv.bx HB.out hw258_16), (Gv.bx HB.out hw258_17), (Gv.bx HB.out hw258_18), (Gv.bx HB.out hw258_19), (Gv.bx HB.out hw258_20)⟩ (fun hHeld => ?_)
       clear hK K
       refine norm_ (a' := ?_) ?_ ?_
       rotate_left
       ·show Act.put _ (some 17) _ = _
        simp only [Act.put, List.setIfInBounds_toArray, List.set_cons_zero, List.set_cons_succ, i64_w, i32_w]
        rfl
       refine Gv.pu 5 (some 18) HT_ ?_
       refine Gv.pu 6 (some 19) HT_ ?_
       refine Gv.pn 7 (some 20) HT_ ?_
       refine Gv.pn 8 (some 21) HT_ ?_
       refine Gv.pn 9 (some 22) HT_ ?_
       refine Gv.pn 10 (some 23) HT_ ?_
       refine Gv.pn 11 (some 24) HT_ ?_
       refine Gv.pn 12 (some 25) HT_ ?_
       refine Gv.pn 13 (some 26) HT_ ?_
       refine Gv.pn 14 (some 27) HT_ ?_
       refine Gv.pn 15 (some 28) HT_ ?_
       refine Gv.pn 16 (some 29) HT_ ?_
       refine Gv.pn 17 (some 30) HT_ ?_
       refine Gv.pn 18 (some 31) HT_ ?_
       refine Gv.pn 19 (some 32) HT_ ?_
       refine Gv.pn 20 (some 33) HT_ ?_
       refine Gv.pn 21 (some 34) HT_ ?_
       refine Gv.pn 22 (some 35) HT_ ?_
       refine Gv.pu 23 (some 36) HT_ ?_
       refine done_ (done_of HT_.out (by kernel_rfl)) ?_
       try go_wp2
       go_ret
       exact ⟨Gv.rt, Gv.bw⟩
     ·rw [if_neg c4] at H
      exact absurd H (by simp)
    ·rw [if_neg c3] at H
     have c3b0 : decide (x3_1 < (l0.length : Int)) = false := decide_eq_false c3
     clear c3
     obtain rfl := Option.some.inj H
     go_wp2
     go_ret
     exact ⟨Gv.rt, Gv.bw⟩

/-! ### spec_RuleAdd: function 25 -/
mutual
def spec_RuleAdd.j0 : Nat → List (S55) → Bool → Int → Int → Int → Int → Int → Int → Int → Int → Int → Int → Int → Int → Int → Int → Int → Int → Int → Int → Int → Int → Int → Option ((List (S55)) × Int)
 | 0, _, _, _, _, _, _, _, _, _, _, _, _, _, _, _, _, _, _, _, _, _, _, _ => none
 | k + 1, x0, x16, x263000, x263001, x263002, x263003, x263004, x263005, x263006, x263007, x263008, x263009, x263010, x263011, x263012, x263013, x263014, x263015, x263016, x263017, x263018, x263019, x263020 => if x16 = true then (some (([] : List (S55)), 1)) else (spec_RuleAdd.l0 k x0 (([] : List (S55))) 0 x263000 x263001 x263002 x263003 x263004 x263005 x263006 x263007 x263008 x263009 x263010 x263011 x263012 x263013 x263014 x263015 x263016 x263017 x263018 x263019 x263020)
def spec_RuleAdd.l0 : Nat → List (S55) → List (S55) → Int → Int → Int → Int → Int → Int → Int → Int → Int → Int → Int → Int → Int → Int → Int → Int → Int → Int → Int → Int → Int → Int → Option ((List (S55)) × Int)
 | 0, _, _, _, _, _, _, _, _, _, _, _, _, _, _, _, _, _, _, _, _, _, _, _, _ => none
 | k + 1, x0, x6, x7, x263000, x263001, x263002, x263003, x263004, x263005, x263006, x263007, x263008, x263009, x263010, x263011, x263012, x263013, x263014, x263015, x263016, x263017, x263018, x263019, x263020 => if x7 < (x0.length : Int) then (if 0 ≤ x7 then (if ((rd_T55 x0 x7).f0) = x263000 then (some (([] : List (S55)), 2)) else (if ((rd_T55 x0 x7).f0) < x263000 then (if x6.length < 837723144972 then (spec_RuleAdd.l0 k x0 (x6 ++ [(⟨(rd_T55 x0 x7).f0, (⟨(⟨(rd_T55 x0 x7).f1.f0.f0, (rd_T55 x0 x7).f1.f0.f1, (rd_T55 x0 x7).f1.f0.f2, (rd_T55 x0 x7).f1.f0.f3, (rd_T55 x0 x7).f1.f0.f4⟩ : S34), (rd_T55 x0 x7).f1.f1⟩ : S53), (⟨(⟨(rd_T55 x0 x7).f2.f0.f0, (rd_T55 x0 x7).f2.f0.f1, (rd_T55 x0 x7).f2.f0.f2, (rd_T55 x0 x7).f2.f0.f3, (rd_T55 x0 x7).f2.f0.f4⟩ : S34), (rd_T55 x0 x7).f2.f1⟩ : S53), (rd_T55 x0 x7).f3, (rd_T55 x0 x7).f4, (rd_T55 x0 x7).f5, (rd_T55 x0 x7).f6, (rd_T55 x0 x7).f7, (rd_T55 x0 x7).f8, (rd_T55 x0 x7).f9, (rd_T55 x0 x7).f10⟩ : S55)]) (wrap64 (x7 + 1)) x263000 x263001 x263002 x263003 x263004 x263005 x263006 x263007 x263008 x263009 x263010 x263011 x263012 x263013 x263014 x263015 x263016 x263017 x263018 x263019 x263020) else (none)) else (spec_RuleAdd.l0 k x0 x6 (wrap64 (x7 + 1)) x263000 x263001 x263002 x263003 x263004 x263005 x263006 x263007 x263008 x263009 x263010 x263011 x263012 x263013 x263014 x263015 x263016 x263017 x263018 x263019 x263020))) else (none)) else (if (x0.length : Int) = 32 then (some (([] : List (S55)), 3)) else (if x6.length < 837723144972 then (spec_RuleAdd.l1 k x0 (x6 ++ [(⟨x263000, (⟨(⟨x263001, x263002, x263003, x263004, x263005⟩ : S34), x263006⟩ : S53), (⟨(⟨x263007, x263008, x263009, x263010, x263011⟩ : S34), x263012⟩ : S53), x263013, x263014, x263015, x263016, x263017, x263018, x263019, x263020⟩ : S55)]) 0 x263000 x263001 x263002 x263003 x263004 x263005 x263006 x263007 x263008 x263009 x263010 x263011 x263012 x263013 x263014 x263015 x263016 x263017 x263018 x263019 x263020) else (none)))
def spec_RuleAdd.l1 : Nat → List (S55) → List (S55) → Int → Int → Int → Int → Int → Int → Int → Int → Int → Int → Int → Int → Int → Int → Int → Int → Int → Int → Int → Int → Int → Int → Option ((List (S55)) × Int)
 | 0, _, _, _, _, _, _, _, _, _, _, _, _, _, _, _, _, _, _, _, _, _, _, _, _ => none
 | k + 1, x0, x6, x8, x263000, x263001, x263002, x263003, x263004, x263005, x263006, x263007, x263008, x263009, x263010, x263011, x263012, x263013, x263014, x263015, x263016, x263017, x263018, x263019, x263020 => if x8 < (x0.length : Int) then (if 0 ≤ x8 then (if ((rd_T55 x0 x8).f0) > x263000 then (if x6.length < 837723144972 then (spec_RuleAdd.l1 k x0 (x6 ++ [(⟨(rd_T55 x0 x8).f0, (⟨(⟨(rd_T55 x0 x8).f1.f0.f0, (rd_T55 x0 x8).f1.f0.f1, (rd_T55 x0 x8).f1.f0.f2, (rd_T55 x0 x8).f1.f0.f3, (rd_T55 x0 x8).f1.f0.f4⟩ : S34), (rd_T55 x0 x8).f1.f1⟩ : S53), (⟨(⟨(rd_T55 x0 x8).f2.f0.f0, (rd_T55 x0 x8).f2.f0.f1, (rd_T55 x0 x8).f2.f0.f2, (rd_T55 x0 x8).f2.f0.f3, (rd_T55 x0 x8).f2.f0.f4⟩ : S34), (rd_T55 x0 x8).f2.f1⟩ : S53), (rd_T55 x0 x8).f3, (rd_T55 x0 x8).f4, (rd_T55 x0 x8).f5, (rd_T55 x0 x8).f6, (rd_T55 x0 x8).f7, (rd_T55 x0 x8).f8, (rd_T55 x0 x8).f9, (rd_T55 x0 x8).f10⟩ : S55)]) (wrap64 (x8 + 1)) x263000 x263001 x263002 x263003 x263004 x263005 x263006 x263007 x263008 x263009 x263010 x263011 x263012 x263013 x263014 x263015 x263016 x263017 x263018 x263019 x263020) else (none)) else (spec_RuleAdd.l1 k x0 x6 (wrap64 (x8 + 1)) x263000 x263001 x263002 x263003 x263004 x263005 x263006 x263007 x263008 x263009 x263010 x263011 x263012 x263013 x263014 x263015 x263016 x263017 x263018 x263019 x263020)) else (none)) else (some (x6, 0))
end
def spec_RuleAdd.f (k : Nat) (l0 : List (S55)) (a1_0 : Int) (a1_1 : Int) (a1_2 : Int) (a1_3 : Int) (a1_4 : Int) (a1_5 : Int) (a1_6 : Int) (a1_7 : Int) (a1_8 : Int) (a1_9 : Int) (a1_10 : Int) (a1_11 : Int) (a1_12 : Int) (a1_13 : Int) (a1_14 : Int) (a1_15 : Int) (a1_16 : Int) (a1_17 : Int) (a1_18 : Int) (a1_19 : Int) (a1_20 : Int) : Option ((List (S55)) × Int) := (spec_RulesOk.f k l0).bind fun t263 => (if t263 = true then ((spec_RuleOk.f k a1_0 a1_1 a1_2 a1_3 a1_4 a1_5 a1_6 a1_7 a1_8 a1_9 a1_10 a1_11 a1_12 a1_13 a1_14 a1_15 a1_16 a1_17 a1_18 a1_19 a1_20).bind fun t264 => (spec_RuleAdd.j0 k l0 (!t264) a1_0 a1_1 a1_2 a1_3 a1_4 a1_5 a1_6 a1_7 a1_8 a1_9 a1_10 a1_11 a1_12 a1_13 a1_14 a1_15 a1_16 a1_17 a1_18 a1_19 a1_20)) else (spec_RuleAdd.j0 k l0 true a1_0 a1_1 a1_2 a1_3 a1_4 a1_5 a1_6 a1_7 a1_8 a1_9 a1_10 a1_11 a1_12 a1_13 a1_14 a1_15 a1_16 a1_17 a1_18 a1_19 a1_20))
theorem spec_RuleAdd.mono_l : ∀ k, (∀ y0 y1 y2 y3 y4 y5 y6 y7 y8 y9 y10 y11 y12 y13 y14 y15 y16 y17 y18 y19 y20 y21 y22, LeO (spec_RuleAdd.j0 k y0 y1 y2 y3 y4 y5 y6 y7 y8 y9 y10 y11 y12 y13 y14 y15 y16 y17 y18 y19 y20 y21 y22) (spec_RuleAdd.j0 (k + 1) y0 y1 y2 y3 y4 y5 y6 y7 y8 y9 y10 y11 y12 y13 y14 y15 y16 y17 y18 y19 y20 y21 y22)) ∧ (∀ y0 y1 y2 y3 y4 y5 y6 y7 y8 y9 y10 y11 y12 y13 y14 y15 y16 y17 y18 y19 y20 y21 y22 y23, LeO (spec_RuleAdd.l0 k y0 y1 y2 y3 y4 y5 y6 y7 y8 y9 y10 y11 y12 y13 y14 y15 y16 y17 y18 y19 y20 y21 y22 y23) (spec_RuleAdd.l0 (k + 1) y0 y1 y2 y3 y4 y5 y6 y7 y8 y9 y10 y11 y12 y13 y14 y15 y16 y17 y18 y19 y20 y21 y22 y23)) ∧ (∀ y0 y1 y2 y3 y4 y5 y6 y7 y8 y9 y10 y11 y12 y13 y14 y15 y16 y17 y18 y19 y20 y21 y22 y23, LeO (spec_RuleAdd.l1 k y0 y1 y2 y3 y4 y5 y6 y7 y8 y9 y10 y11 y12 y13 y14 y15 y16 y17 y18 y19 y20 y21 y22 y23) (spec_RuleAdd.l1 (k + 1) y0 y1 y2 y3 y4 y5 y6 y7 y8 y9 y10 y11 y12 y13 y14 y15 y16 y17 y18 y19 y20 y21 y22 y23))
 | 0 => ⟨fun _ _ _ _ _ _ _ _ _ _ _ _ _ _ _ _ _ _ _ _ _ _ _ r h => by simp [spec_RuleAdd.j0] at h, fun _ _ _ _ _ _ _ _ _ _ _ _ _ _ _ _ _ _ _ _ _ _ _ _ r h => by simp [spec_RuleAdd.l0] at h, fun _ _ _ _ _ _ _ _ _ _ _ _ _ _ _ _ _ _ _ _ _ _ _ _ r h => by simp [spec_RuleAdd.l1] at h⟩
 | k + 1 => by
  obtain ⟨ih0, ih1, ih2⟩ := spec_RuleAdd.mono_l k
  refine ⟨?_, ?_, ?_⟩
  ·intro y0 y1 y2 y3 y4 y5 y6 y7 y8 y9 y10 y11 y12 y13 y14 y15 y16 y17 y18 y19 y20 y21 y22
   unfold spec_RuleAdd.j0
   repeat' first
   | (with_reducible exact ih0 _ _ _ _ _ _ _ _ _ _ _ _ _ _ _ _ _ _ _ _ _ _ _)
   | (with_reducible exact ih1 _ _ _ _ _ _ _ _ _ _ _ _ _ _ _ _ _ _ _ _ _ _ _ _)
   | (with_reducible exact ih2 _ _ _ _ _ _ _ _ _ _ _ _ _ _ _ _ _ _ _ _ _ _ _ _)
   | (with_reducible exact spec_RuleOk.mono _ _ _ _ _ _ _ _ _ _ _ _ _ _ _ _ _ _ _ _ _ _)
   | (with_reducible exact spec_RulesOk.mono _ _)
   | (with_reducible exact LeO.refl _)
   | (with_reducible exact LeO.none _)
   | (with_reducible refine LeO.ite ?_ ?_)
   | (with_reducible refine LeO.bind ?_ (fun _ => ?_))
   | exact ih0 _ _ _ _ _ _ _ _ _ _ _ _ _ _ _ _ _ _ _ _ _ _ _
   | exact ih1 _ _ _ _ _ _ _ _ _ _ _ _ _ _ _ _ _ _ _ _ _ _ _ _
   | exact ih2 _ _ _ _ _ _ _ _ _ _ _ _ _ _ _ _ _ _ _ _ _ _ _ _
   | exact spec_RuleOk.mono _ _ _ _ _ _ _ _ _ _ _ _ _ _ _ _ _ _ _ _ _ _
   | exact spec_RulesOk.mono _ _
   | exact LeO.none _
   | refine LeO.ite ?_ ?_
   | refine LeO.bind ?_ (fun _ => ?_)
  ·intro y0 y1 y2 y3 y4 y5 y6 y7 y8 y9 y10 y11 y12 y13 y14 y15 y16 y17 y18 y19 y20 y21 y22 y23
   unfold spec_RuleAdd.l0
   repeat' first
   | (with_reducible exact ih0 _ _ _ _ _ _ _ _ _ _ _ _ _ _ _ _ _ _ _ _ _ _ _)
   | (with_reducible exact ih1 _ _ _ _ _ _ _ _ _ _ _ _ _ _ _ _ _ _ _ _ _ _ _ _)
   | (with_reducible exact ih2 _ _ _ _ _ _ _ _ _ _ _ _ _ _ _ _ _ _ _ _ _ _ _ _)
   | (with_reducible exact spec_RuleOk.mono _ _ _ _ _ _ _ _ _ _ _ _ _ _ _ _ _ _ _ _ _ _)
   | (with_reducible exact spec_RulesOk.mono _ _)
   | (with_reducible exact LeO.refl _)
   | (with_reducible exact LeO.none _)
   | (with_reducible refine LeO.ite ?_ ?_)
   | (with_reducible refine LeO.bind ?_ (fun _ => ?_))
   | exact ih0 _ _ _ _ _ _ _ _ _ _ _ _ _ _ _ _ _ _ _ _ _ _ _
   | exact ih1 _ _ _ _ _ _ _ _ _ _ _ _ _ _ _ _ _ _ _ _ _ _ _ _
   | exact ih2 _ _ _ _ _ _ _ _ _ _ _ _ _ _ _ _ _ _ _ _ _ _ _ _
   | exact spec_RuleOk.mono _ _ _ _ _ _ _ _ _ _ _ _ _ _ _ _ _ _ _ _ _ _
   | exact spec_RulesOk.mono _ _
   | exact LeO.none _
   | refine LeO.ite ?_ ?_
   | refine LeO.bind ?_ (fun _ => ?_)
  ·intro y0 y1 y2 y3 y4 y5 y6 y7 y8 y9 y10 y11 y12 y13 y14 y15 y16 y17 y18 y19 y20 y21 y22 y23
   unfold spec_RuleAdd.l1
   repeat' first
   | (with_reducible exact ih0 _ _ _ _ _ _ _ _ _ _ _ _ _ _ _ _ _ _ _ _ _ _ _)
   | (with_reducible exact ih1 _ _ _ _ _ _ _ _ _ _ _ _ _ _ _ _ _ _ _ _ _ _ _ _)
   | (with_reducible exact ih2 _ _ _ _ _ _ _ _ _ _ _ _ _ _ _ _ _ _ _ _ _ _ _ _)
   | (with_reducible exact spec_RuleOk.mono _ _ _ _ _ _ _ _ _ _ _ _ _ _ _ _ _ _ _ _ _ _)
   | (with_reducible exact spec_RulesOk.mono _ _)
   | (with_reducible exact LeO.refl _)
   | (with_reducible exact LeO.none _)
   | (with_reducible refine LeO.ite ?_ ?_)
   | (with_reducible refine LeO.bind ?_ (fun _ => ?_))
   | exact ih0 _ _ _ _ _ _ _ _ _ _ _ _ _ _ _ _ _ _ _ _ _ _ _
   | exact ih1 _ _ _ _ _ _ _ _ _ _ _ _ _ _ _ _ _ _ _ _ _ _ _ _
   | exact ih2 _ _ _ _ _ _ _ _ _ _ _ _ _ _ _ _ _ _ _ _ _ _ _ _
   | exact spec_RuleOk.mono _ _ _ _ _ _ _ _ _ _ _ _ _ _ _ _ _ _ _ _ _ _
   | exact spec_RulesOk.mono _ _
   | exact LeO.none _
   | refine LeO.ite ?_ ?_
   | refine LeO.bind ?_ (fun _ => ?_)
theorem spec_RuleAdd.mono : ∀ a0 a1 a2 a3 a4 a5 a6 a7 a8 a9 a10 a11 a12 a13 a14 a15 a16 a17 a18 a19 a20 a21 k, LeO (spec_RuleAdd.f k a0 a1 a2 a3 a4 a5 a6 a7 a8 a9 a10 a11 a12 a13 a14 a15 a16 a17 a18 a19 a20 a21) (spec_RuleAdd.f (k + 1) a0 a1 a2 a3 a4 a5 a6 a7 a8 a9 a10 a11 a12 a13 a14 a15 a16 a17 a18 a19 a20 a21) := by
 intro a0 a1 a2 a3 a4 a5 a6 a7 a8 a9 a10 a11 a12 a13 a14 a15 a16 a17 a18 a19 a20 a21 k
 obtain ⟨ih0, ih1, ih2⟩ := spec_RuleAdd.mono_l k
 unfold spec_RuleAdd.f
 repeat' first
   | (with_reducible exact ih0 _ _ _ _ _ _ _ _ _ _ _ _ _ _ _ _ _ _ _ _ _ _ _)
   | (with_reducible exact ih1 _ _ _ _ _ _ _ _ _ _ _ _ _ _ _ _ _ _ _ _ _ _ _ _)
   | (with_reducible exact ih2 _ _ _ _ _ _ _ _ _ _ _ _ _ _ _ _ _ _ _ _ _ _ _ _)
   | (with_reducible exact spec_RuleOk.mono _ _ _ _ _ _ _ _ _ _ _ _ _ _ _ _ _ _ _ _ _ _)
   | (with_reducible exact spec_RulesOk.mono _ _)
   | (with_reducible exact LeO.refl _)
   | (with_reducible exact LeO.none _)
   | (with_reducible refine LeO.ite ?_ ?_)
   | (with_reducible refine LeO.bind ?_ (fun _ => ?_))
   | exact ih0 _ _ _ _ _ _ _ _ _ _ _ _ _ _ _ _ _ _ _ _ _ _ _
   | exact ih1 _ _ _ _ _ _ _ _ _ _ _ _ _ _ _ _ _ _ _ _ _ _ _ _
   | exact ih2 _ _ _ _ _ _ _ _ _ _ _ _ _ _ _ _ _ _ _ _ _ _ _ _
   | exact spec_RuleOk.mono _ _ _ _ _ _ _ _ _ _ _ _ _ _ _ _ _ _ _ _ _ _
   | exact spec_RulesOk.mono _ _
   | exact LeO.none _
   | refine LeO.ite ?_ ?_
   | refine LeO.bind ?_ (fun _ => ?_)
set_option maxHeartbeats 8000000 in
set_option maxRecDepth 100000 in
theorem spec_RuleAdd.calls (k : Nat) (A0 : Option Addr) (c0 : Nat) (l0 : List (S55)) (a1_0 : Int) (a1_1 : Int) (a1_2 : Int) (a1_3 : Int) (a1_4 : Int) (a1_5 : Int) (a1_6 : Int) (a1_7 : Int) (a1_8 : Int) (a1_9 : Int) (a1_10 : Int) (a1_11 : Int) (a1_12 : Int) (a1_13 : Int) (a1_14 : Int) (a1_15 : Int) (a1_16 : Int) (a1_17 : Int) (a1_18 : Int) (a1_19 : Int) (a1_20 : Int) (r1 : List (S55)) (r2 : Int) (w : World) (hr0 : Kd.C k55 w A0 l0.length l0) (hc0 : l0.length ≤ c0) (h : spec_RuleAdd.f k l0 a1_0 a1_1 a1_2 a1_3 a1_4 a1_5 a1_6 a1_7 a1_8 a1_9 a1_10 a1_11 a1_12 a1_13 a1_14 a1_15 a1_16 a1_17 a1_18 a1_19 a1_20 = some (r1, r2)) :
  Calls Try.prog 25 #[.slice A0 l0.length c0, .agg #[.int .i64 a1_0, .int .i64 a1_1, .int .i64 a1_2, .int .i64 a1_3, .int .i64 a1_4, .int .i64 a1_5, .int .i64 a1_6, .int .i64 a1_7, .int .i64 a1_8, .int .i64 a1_9, .int .i64 a1_10, .int .i64 a1_11, .int .i64 a1_12, .int .i64 a1_13, .int .i64 a1_14, .int .i64 a1_15, .int .i64 a1_16, .int .i64 a1_17, .int .i64 a1_18, .int .i64 a1_19, .int .i64 a1_20]] w fun e w' => ∃ v0_ : Value, e = .returned (.tuple #[v0_, .int .i64 r2]) ∧ Kd.R k55 55 w' w.heap.size (fun _ => True) v0_ r1 ∧ Below w.heap.size w w' := by
 have hu55 := Try.underlying55
 have HR0 := Gv.a0 hr0
 have HC0 := Gv.a0 hc0
 clear hr0 hc0
 have HB := Gv.a0 (Below.refl w.heap.size w)
 have H : ((spec_RulesOk.f k l0).bind fun t263 => (if t263 = true then ((spec_RuleOk.f k a1_0 a1_1 a1_2 a1_3 a1_4 a1_5 a1_6 a1_7 a1_8 a1_9 a1_10 a1_11 a1_12 a1_13 a1_14 a1_15 a1_16 a1_17 a1_18 a1_19 a1_20).bind fun t264 => (spec_RuleAdd.j0 k l0 (!t264) a1_0 a1_1 a1_2 a1_3 a1_4 a1_5 a1_6 a1_7 a1_8 a1_9 a1_10 a1_11 a1_12 a1_13 a1_14 a1_15 a1_16 a1_17 a1_18 a1_19 a1_20)) else (spec_RuleAdd.j0 k l0 true a1_0 a1_1 a1_2 a1_3 a1_4 a1_5 a1_6 a1_7 a1_8 a1_9 a1_10 a1_11 a1_12 a1_13 a1_14 a1_15 a1_16 a1_17 a1_18 a1_19 a1_20))) = some (r1, r2) := h
 clear h
 have HC3 := Gv.a0 H
 clear H
 go_enter Try.func25, Try.ntmps25
 go_upto_region 1 with (first | ((with_reducible refine gate_dst (N := 3) rfl ?_); refine box_event ?hg (N := 3) ?hd (cs := #[.int .i64 a1_0, .int .i64 a1_1, .int .i64 a1_2, .int .i64 a1_3, .int .i64 a1_4, .int .i64 a1_5, .int .i64 a1_6, .int .i64 a1_7, .int .i64 a1_8, .int .i64 a1_9, .int .i64 a1_10, .int .i64 a1_11, .int .i64 a1_12, .int .i64 a1_13, .int .i64 a1_14, .int .i64 a1_15, .int .i64 a1_16, .int .i64 a1_17, .int .i64 a1_18, .int .i64 a1_19, .int .i64 a1_20]) (t := 55) ?hr ?_; (case hd => rfl); (case hg => rfl); (case hr => first | (go_simp; done) | (go_simp; rfl)); intro gb262 hg w4 hbox hb; have n0_ := Gv.a0 (below_step Gv.bw hb); have n1_ := Gv.a0 (hbox); have n2_ := Gv.a0 ((Gv.ble hg Gv.bw : w.heap.size ≤ gb262)); have n3_ := Gv.a0 ((Gv.ble hg Gv.bw : w.heap.size ≤ gb262)); clear HB; have HB := n0_; have BK262 := n1_; have GW262 := n2_; have GE262 := n3_; clear n0_ n1_ n2_ n3_; clear hb hbox hg) | ((with_reducible refine gate_store (t := 55) (p := 3) rfl ?_); refine Gv.store_event rfl rfl rfl rfl rfl (Gv.kb BK262.out) (by kernel_rfl) rfl (by simp; and_intros <;> rfl) ?_; intro w4s hbox hoth hbel; have n0_ := Gv.a0 (hbox); have n1_ := Gv.a0 (hbel w Gv.bw GE262.out); clear BK262 HB; have BK262 := n0_; have HB := n1_; clear n0_ n1_ hbox hoth hbel) | ((with_reducible refine Gv.gate_load (t := 55) rfl ?_); (try (refine gate_guard (by rfl) ?_; dsimp only)); refine wpList_load_row rfl 55 _ rfl gb262 rfl 55 _ _ _ (by first | exact Gv.kb0 BK262.out | exact Gv.kb1 (Gv.kb0 BK262.out)) Try.underlying55 rfl (by kernel_rfl) ?_))
 repeat (go_quiet (first | ((with_reducible refine gate_dst (N := 3) rfl ?_); refine box_event ?hg (N := 3) ?hd (cs := #[.int .i64 a1_0, .int .i64 a1_1, .int .i64 a1_2, .int .i64 a1_3, .int .i64 a1_4, .int .i64 a1_5, .int .i64 a1_6, .int .i64 a1_7, .int .i64 a1_8, .int .i64 a1_9, .int .i64 a1_10, .int .i64 a1_11, .int .i64 a1_12, .int .i64 a1_13, .int .i64 a1_14, .int .i64 a1_15, .int .i64 a1_16, .int .i64 a1_17, .int .i64 a1_18, .int .i64 a1_19, .int .i64 a1_20]) (t := 55) ?hr ?_; (case hd => rfl); (case hg => rfl); (case hr => first | (go_simp; done) | (go_simp; rfl)); intro gb262 hg w4 hbox hb; have n0_ := Gv.a0 (below_step Gv.bw hb); have n1_ := Gv.a0 (hbox); have n2_ := Gv.a0 ((Gv.ble hg Gv.bw : w.heap.size ≤ gb262)); have n3_ := Gv.a0 ((Gv.ble hg Gv.bw : w.heap.size ≤ gb262)); clear HB; have HB := n0_; have BK262 := n1_; have GW262 := n2_; have GE262 := n3_; clear n0_ n1_ n2_ n3_; clear hb hbox hg) | ((with_reducible refine gate_store (t := 55) (p := 3) rfl ?_); refine Gv.store_event rfl rfl rfl rfl rfl (Gv.kb BK262.out) (by kernel_rfl) rfl (by simp; and_intros <;> rfl) ?_; intro w4s hbox hoth hbel; have n0_ := Gv.a0 (hbox); have n1_ := Gv.a0 (hbel w Gv.bw GE262.out); clear BK262 HB; have BK262 := n0_; have HB := n1_; clear n0_ n1_ hbox hoth hbel) | ((with_reducible refine Gv.gate_load (t := 55) rfl ?_); (try (refine gate_guard (by rfl) ?_; dsimp only)); refine wpList_load_row rfl 55 _ rfl gb262 rfl 55 _ _ _ (by first | exact Gv.kb0 BK262.out | exact Gv.kb1 (Gv.kb0 BK262.out)) Try.underlying55 rfl (by kernel_rfl) ?_)); go_upto_region 1 with (first | ((with_reducible refine gate_dst (N := 3) rfl ?_); refine box_event ?hg (N := 3) ?hd (cs := #[.int .i64 a1_0, .int .i64 a1_1, .int .i64 a1_2, .int .i64 a1_3, .int .i64 a1_4, .int .i64 a1_5, .int .i64 a1_6, .int .i64 a1_7, .int .i64 a1_8, .int .i64 a1_9, .int .i64 a1_10, .int .i64 a1_11, .int .i64 a1_12, .int .i64 a1_13, .int .i64 a1_14, .int .i64 a1_15, .int .i64 a1_16, .int .i64 a1_17, .int .i64 a1_18, .int .i64 a1_19, .int .i64 a1_20]) (t := 55) ?hr ?_; (case hd => rfl); (case hg => rfl); (case hr => first | (go_simp; done) | (go_simp; rfl)); intro gb262 hg w4 hbox hb; have n0_ := Gv.a0 (below_step Gv.bw hb); have n1_ := Gv.a0 (hbox); have n2_ := Gv.a0 ((Gv.ble hg Gv.bw : w.heap.size ≤ gb262)); have n3_ := Gv.a0 ((Gv.ble hg Gv.bw : w.heap.size ≤ gb262)); clear HB; have HB := n0_; have BK262 := n1_; have GW262 := n2_; have GE262 := n3_; clear n0_ n1_ n2_ n3_; clear hb hbox hg) | ((with_reducible refine gate_store (t := 55) (p := 3) rfl ?_); refine Gv.store_event rfl rfl rfl rfl rfl (Gv.kb BK262.out) (by kernel_rfl) rfl (by simp; and_intros <;> rfl) ?_; intro w4s hbox hoth hbel; have n0_ := Gv.a0 (hbox); have n1_ := Gv.a0 (hbel w Gv.bw GE262.out); clear BK262 HB; have BK262 := n0_; have HB := n1_; clear n0_ n1_ hbox hoth hbel) | ((with_reducible refine Gv.gate_load (t := 55) rfl ?_); (try (refine gate_guard (by rfl) ?_; dsimp only)); refine wpList_load_row rfl 55 _ rfl gb262 rfl 55 _ _ _ (by first | exact Gv.kb0 BK262.out | exact Gv.kb1 (Gv.kb0 BK262.out)) Try.underlying55 rfl (by kernel_rfl) ?_)))
 (try simp only [Act.put, List.setIfInBounds_toArray, List.set_cons_zero, List.set_cons_succ])
 go_cut [16] (fun v16 wc => ∃ (kq : Nat) (x16_2 : Bool), v16 = .bool x16_2 ∧ Aside0 (spec_RuleAdd.j0 kq l0 x16_2 a1_0 a1_1 a1_2 a1_3 a1_4 a1_5 a1_6 a1_7 a1_8 a1_9 a1_10 a1_11 a1_12 a1_13 a1_14 a1_15 a1_16 a1_17 a1_18 a1_19 a1_20 = some (r1, r2)) ∧ Aside0 (kq ≤ k) ∧ Aside0 (wc.heap[gb262]? = some (.cells #[.int .i64 a1_0, .int .i64 a1_1, .int .i64 a1_2, .int .i64 a1_3, .int .i64 a1_4, .int .i64 a1_5, .int .i64 a1_6, .int .i64 a1_7, .int .i64 a1_8, .int .i64 a1_9, .int .i64 a1_10, .int .i64 a1_11, .int .i64 a1_12, .int .i64 a1_13, .int .i64 a1_14, .int .i64 a1_15, .int .i64 a1_16, .int .i64 a1_17, .int .i64 a1_18, .int .i64 a1_19, .int .i64 a1_20] 55 (0, 0))) ∧ Aside0 (Below w.heap.size w wc))
 case first =>
  have H := HC3.out
  clear HC3
  replace H := Option.bind_eq_some_iff.mp H
  obtain ⟨t263, A50, H⟩ := H
  replace H : (if t263 = true then ((spec_RuleOk.f k a1_0 a1_1 a1_2 a1_3 a1_4 a1_5 a1_6 a1_7 a1_8 a1_9 a1_10 a1_11 a1_12 a1_13 a1_14 a1_15 a1_16 a1_17 a1_18 a1_19 a1_20).bind fun t264 => (spec_RuleAdd.j0 k l0 (!t264) a1_0 a1_1 a1_2 a1_3 a1_4 a1_5 a1_6 a1_7 a1_8 a1_9 a1_10 a1_11 a1_12 a1_13 a1_14 a1_15 a1_16 a1_17 a1_18 a1_19 a1_20)) else (spec_RuleAdd.j0 k l0 true a1_0 a1_1 a1_2 a1_3 a1_4 a1_5 a1_6 a1_7 a1_8 a1_9 a1_10 a1_11 a1_12 a1_13 a1_14 a1_15 a1_16 a1_17 a1_18 a1_19 a1_20)) = some (r1, r2) := H
  have A5 := Gv.a0 A50
  clear A50
  by_cases c6 : t263 = true
  ·subst c6
   have H1 : ((spec_RuleOk.f k a1_0 a1_1 a1_2 a1_3 a1_4 a1_5 a1_6 a1_7 a1_8 a1_9 a1_10 a1_11 a1_12 a1_13 a1_14 a1_15 a1_16 a1_17 a1_18 a1_19 a1_20).bind fun t264 => (spec_RuleAdd.j0 k l0 (!t264) a1_0 a1_1 a1_2 a1_3 a1_4 a1_5 a1_6 a1_7 a1_8 a1_9 a1_10 a1_11 a1_12 a1_13 a1_14 a1_15 a1_16 a1_17 a1_18 a1_19 a1_20)) = some (r1, r2) := by rw [if_pos rfl] at H; exact H
   clear H
   have H := H1
   clear H1
   replace H := Option.bind_eq_some_iff.mp H
   obtain ⟨t264, A70, H⟩ := H
   replace H : (spec_RuleAdd.j0 k l0 (!t264) a1_0 a1_1 a1_2 a1_3 a1_4 a1_5 a1_6 a1_7 a1_8 a1_9 a1_10 a1_11 a1_12 a1_13 a1_14 a1_15 a1_16 a1_17 a1_18 a1_19 a1_20) = some (r1, r2) := H
   have A7 := Gv.a0 A70
   clear A70
   have H' := Gv.a0 H
   clear H
   go_wp2_with (first | (go_at_call 9; (with_reducible refine (spec_RulesOk.calls k _ _ l0 true _ ?side1 ?side2 A5.out).mono ?_); (case side1 => repeat (first | exact (Kd.C_below HR0.out HB.out) | (with_reducible refine Kd.C_alloc ?_ _) | (with_reducible refine Kd.C_drewN ?_ _) | (with_reducible refine Kd.C_drew ?_))); (case side2 => exact HC0.out); rintro e w8 ⟨rfl, hb⟩; have n0_ := Gv.a0 (Gv.bb BK262.out hb); have n1_ := Gv.a0 (below_step Gv.bw hb); clear BK262; clear HB; have BK262 := n0_; have HB := n1_; clear n0_ n1_; (try clear hb); (try clear hb2); (try clear hk); (try clear hi); obtain ⟨hcz9_0, hcz9_1, hcz9_2, hcz9_3, hcz9_4, hcz9_5, hcz9_6, hcz9_7, hcz9_8, hcz9_9, hcz9_10, hcz9_11, hcz9_12, hcz9_13, hcz9_14, hcz9_15, hcz9_16, hcz9_17, hcz9_18, hcz9_19, hcz9_20⟩ := Gv.c21 BK262.out) | (go_at_call 28; (with_reducible refine (spec_RuleOk.calls k a1_0 a1_1 a1_2 a1_3 a1_4 a1_5 a1_6 a1_7 a1_8 a1_9 a1_10 a1_11 a1_12 a1_13 a1_14 a1_15 a1_16 a1_17 a1_18 a1_19 a1_20 t264 _ A7.out).mono ?_); rintro e w10 ⟨rfl, hb⟩; have n0_ := Gv.a0 (Gv.bb BK262.out hb); have n1_ := Gv.a0 (below_step Gv.bw hb); clear BK262; clear HB; have BK262 := n0_; have HB := n1_; clear n0_ n1_; (try clear hb); (try clear hb2); (try clear hk); (try clear hi)) | ((with_reducible refine Gv.gate_load (t := 55) rfl ?_); (try (refine gate_guard (by rfl) ?_; dsimp only)); refine wpList_load_row rfl 55 _ rfl gb262 rfl 55 _ _ _ (by first | exact Gv.kb0 BK262.out | exact Gv.kb1 (Gv.kb0 BK262.out)) Try.underlying55 rfl (by kernel_rfl) ?_))
   repeat (go_quiet (first | (go_at_call 9; (with_reducible refine (spec_RulesOk.calls k _ _ l0 true _ ?side1 ?side2 A5.out).mono ?_); (case side1 => repeat (first | exact (Kd.C_below HR0.out HB.out) | (with_reducible refine Kd.C_alloc ?_ _) | (with_reducible refine Kd.C_drewN ?_ _) | (with_reducible refine Kd.C_drew ?_))); (case side2 => exact HC0.out); rintro e w8 ⟨rfl, hb⟩; have n0_ := Gv.a0 (Gv.bb BK262.out hb); have n1_ := Gv.a0 (below_step Gv.bw hb); clear BK262; clear HB; have BK262 := n0_; have HB := n1_; clear n0_ n1_; (try clear hb); (try clear hb2); (try clear hk); (try clear hi); obtain ⟨hcz9_0, hcz9_1, hcz9_2, hcz9_3, hcz9_4, hcz9_5, hcz9_6, hcz9_7, hcz9_8, hcz9_9, hcz9_10, hcz9_11, hcz9_12, hcz9_13, hcz9_14, hcz9_15, hcz9_16, hcz9_17, hcz9_18, hcz9_19, hcz9_20⟩ := Gv.c21 BK262.out) | (go_at_call 28; (with_reducible refine (spec_RuleOk.calls k a1_0 a1_1 a1_2 a1_3 a1_4 a1_5 a1_6 a1_7 a1_8 a1_9 a1_10 a1_11 a1_12 a1_13 a1_14 a1_15 a1_16 a1_17 a1_18 a1_19 a1_20 t264 _ A7.out).mono ?_); rintro e w10 ⟨rfl, hb⟩; have n0_ := Gv.a0 (Gv.bb BK262.out hb); have n1_ := Gv.a0 (below_step Gv.bw hb); clear BK262; clear HB; have BK262 := n0_; have HB := n1_; clear n0_ n1_; (try clear hb); (try clear hb2); (try clear hk); (try clear hi)) | ((with_reducible refine Gv.gate_load (t := 55) rfl ?_); (try (refine gate_guard (by rfl) ?_; dsimp only)); refine wpList_load_row rfl 55 _ rfl gb262 rfl 55 _ _ _ (by first | exact Gv.kb0 BK262.out | exact Gv.kb1 (Gv.kb0 BK262.out)) Try.underlying55 rfl (by kernel_rfl) ?_)); try go_wp2_with (first | (go_at_call 9; (with_reducible refine (spec_RulesOk.calls k _ _ l0 true _ ?side1 ?side2 A5.out).mono ?_); (case side1 => repeat (first | exact (Kd.C_below HR0.out HB.out) | (with_reducible refine Kd.C_alloc ?_ _) | (with_reducible refine Kd.C_drewN ?_ _) | (with_reducible refine Kd.C_drew ?_))); (case side2 => exact HC0.out); rintro e w8 ⟨rfl, hb⟩; have n0_ := Gv.a0 (Gv.bb BK262.out hb); have n1_ := Gv.a0 (below_step Gv.bw hb); clear BK262; clear HB; have BK262 := n0_; have HB := n1_; clear n0_ n1_; (try clear hb); (try clear hb2); (try clear hk); (try clear hi); obtain ⟨hcz9_0, hcz9_1, hcz9_2, hcz9_3, hcz9_4, hcz9_5, hcz9_6, hcz9_7, hcz9_8, hcz9_9, hcz9_10, hcz9_11, hcz9_12, hcz9_13, hcz9_14, hcz9_15, hcz9_16, hcz9_17, hcz9_18, hcz9_19, hcz9_20⟩ := Gv.c21 BK262.out) | (go_at_call 28; (with_reducible refine (spec_RuleOk.calls k a1_0 a1_1 a1_2 a1_3 a1_4 a1_5 a1_6 a1_7 a1_8 a1_9 a1_10 a1_11 a1_12 a1_13 a1_14 a1_15 a1_16 a1_17 a1_18 a1_19 a1_20 t264 _ A7.out).mono ?_); rintro e w10 ⟨rfl, hb⟩; have n0_ := Gv.a0 (Gv.bb BK262.out hb); have n1_ := Gv.a0 (below_step Gv.bw hb); clear BK262; clear HB; have BK262 := n0_; have HB := n1_; clear n0_ n1_; (try clear hb); (try clear hb2); (try clear hk); (try clear hi)) | ((with_reducible refine Gv.gate_load (t := 55) rfl ?_); (try (refine gate_guard (by rfl) ?_; dsimp only)); refine wpList_load_row rfl 55 _ rfl gb262 rfl 55 _ _ _ (by first | exact Gv.kb0 BK262.out | exact Gv.kb1 (Gv.kb0 BK262.out)) Try.underlying55 rfl (by kernel_rfl) ?_)))
   go_meet
   case rel => exact ⟨_, (!t264), Gv.rq, H', ⟨by first | omega | exact Nat.le_refl _⟩, ⟨by (with_reducible repeat (first | refine blk_drewN ?_ _ | refine blk_drew ?_ | refine blk_alloc ?_ _)); exact BK262.out⟩, ⟨Gv.bw⟩⟩
  ·replace c6 := Bool.eq_false_iff.mpr c6
   subst c6
   have H1 : (spec_RuleAdd.j0 k l0 true a1_0 a1_1 a1_2 a1_3 a1_4 a1_5 a1_6 a1_7 a1_8 a1_9 a1_10 a1_11 a1_12 a1_13 a1_14 a1_15 a1_16 a1_17 a1_18 a1_19 a1_20) = some (r1, r2) := by rw [if_neg (show ¬ (false = true) by decide)] at H; exact H
   clear H
   have H := H1
   clear H1
   have H' := Gv.a0 H
   clear H
   go_wp2_with (first | (go_at_call 9; (with_reducible refine (spec_RulesOk.calls k _ _ l0 false _ ?side1 ?side2 A5.out).mono ?_); (case side1 => repeat (first | exact (Kd.C_below HR0.out HB.out) | (with_reducible refine Kd.C_alloc ?_ _) | (with_reducible refine Kd.C_drewN ?_ _) | (with_reducible refine Kd.C_drew ?_))); (case side2 => exact HC0.out); rintro e w11 ⟨rfl, hb⟩; have n0_ := Gv.a0 (Gv.bb BK262.out hb); have n1_ := Gv.a0 (below_step Gv.bw hb); clear BK262; clear HB; have BK262 := n0_; have HB := n1_; clear n0_ n1_; (try clear hb); (try clear hb2); (try clear hk); (try clear hi)) | ((with_reducible refine Gv.gate_load (t := 55) rfl ?_); (try (refine gate_guard (by rfl) ?_; dsimp only)); refine wpList_load_row rfl 55 _ rfl gb262 rfl 55 _ _ _ (by first | exact Gv.kb0 BK262.out | exact Gv.kb1 (Gv.kb0 BK262.out)) Try.underlying55 rfl (by kernel_rfl) ?_))
   repeat (go_quiet (first | (go_at_call 9; (with_reducible refine (spec_RulesOk.calls k _ _ l0 false _ ?side1 ?side2 A5.out).mono ?_); (case side1 => repeat (first | exact (Kd.C_below HR0.out HB.out) | (with_reducible refine Kd.C_alloc ?_ _) | (with_reducible refine Kd.C_drewN ?_ _) | (with_reducible refine Kd.C_drew ?_))); (case side2 => exact HC0.out); rintro e w11 ⟨rfl, hb⟩; have n0_ := Gv.a0 (Gv.bb BK262.out hb); have n1_ := Gv.a0 (below_step Gv.bw hb); clear BK262; clear HB; have BK262 := n0_; have HB := n1_; clear n0_ n1_; (try clear hb); (try clear hb2); (try clear hk); (try clear hi)) | ((with_reducible refine Gv.gate_load (t := 55) rfl ?_); (try (refine gate_guard (by rfl) ?_; dsimp only)); refine wpList_load_row rfl 55 _ rfl gb262 rfl 55 _ _ _ (by first | exact Gv.kb0 BK262.out | exact Gv.kb1 (Gv.kb0 BK262.out)) Try.underlying55 rfl (by kernel_rfl) ?_)); try go_wp2_with (first | (go_at_call 9; (with_reducible refine (spec_RulesOk.calls k _ _ l0 false _ ?side1 ?side2 A5.out).mono ?_); (case side1 => repeat (first | exact (Kd.C_below HR0.out HB.out) | (with_reducible refine Kd.C_alloc ?_ _) | (with_reducible refine Kd.C_drewN ?_ _) | (with_reducible refine Kd.C_drew ?_))); (case side2 => exact HC0.out); rintro e w11 ⟨rfl, hb⟩; have n0_ := Gv.a0 (Gv.bb BK262.out hb); have n1_ := Gv.a0 (below_step Gv.bw hb); clear BK262; clear HB; have BK262 := n0_; have HB := n1_; clear n0_ n1_; (try clear hb); (try clear hb2); (try clear hk); (try clear hi)) | ((with_reducible refine Gv.gate_load (t := 55) rfl ?_); (try (refine gate_guard (by rfl) ?_; dsimp only)); refine wpList_load_row rfl 55 _ rfl gb262 rfl 55 _ _ _ (by first | exact Gv.kb0 BK262.out | exact Gv.kb1 (Gv.kb0 BK262.out)) Try.underlying55 rfl (by kernel_rfl) ?_)))
   go_meet
   case rel => exact ⟨_, (true), Gv.rq, H', ⟨by first | omega | exact Nat.le_refl _⟩, ⟨by (with_reducible repeat (first | refine blk_drewN ?_ _ | refine blk_drew ?_ | refine blk_alloc ?_ _)); exact BK262.out⟩, ⟨Gv.bw⟩⟩
 case rest =>
  clear HC3
  try clear c2
  try clear p2
  try clear c6
  try clear hcz9_0 hcz9_1
  try clear hcz9_10 hcz9_11 hcz9_12 hcz9_13 hcz9_14 hcz9_15 hcz9_16 hcz9_17 hcz9_18 hcz9_19
  try clear hcz9_2
  try clear hcz9_20
  try clear hcz9_3 hcz9_4 hcz9_5 hcz9_6 hcz9_7 hcz9_8 hcz9_9
  obtain ⟨kq, x16_2, rfl, HA, HJ2, BK262, HB⟩ := hcut
  cases kq with
  | zero => exact absurd HA.out (by simp [spec_RuleAdd.j0])
  | succ kj2 =>
   have H := HA.out
   clear HA
   simp only [spec_RuleAdd.j0] at H
   by_cases c12 : x16_2 = true
   ·subst c12
    have H1 : (some (([] : List (S55)), 1)) = some (r1, r2) := by rw [if_pos rfl] at H; exact H
    clear H
    have H := H1
    clear H1
    simp only [Option.some.injEq, Prod.mk.injEq] at H
    obtain ⟨rfl, rfl⟩ := H
    go_wp2_with (first | ((with_reducible refine Gv.gate_load (t := 55) rfl ?_); (try (refine gate_guard (by rfl) ?_; dsimp only)); refine wpList_load_row rfl 55 _ rfl gb262 rfl 55 _ _ _ (by first | exact Gv.kb0 BK262.out | exact Gv.kb1 (Gv.kb0 BK262.out)) Try.underlying55 rfl (by kernel_rfl) ?_))
    repeat (go_quiet (fail); try go_wp2)
    go_ret2
    exact ⟨_, Gv.rt, by first | exact Kd.R_nil _ _ _ _ _ | exact Kd.N_nil _ _ _ _ _ | exact Kd.V_nil _ _ _ _ _ | exact Kd.Q_nil _ _ _ _ _ | exact Kd.S_nil _ _ _ _ _, Gv.bw⟩
   ·replace c12 := Bool.eq_false_iff.mpr c12
    subst c12
    have H1 : (spec_RuleAdd.l0 kj2 l0 (([] : List (S55))) 0 a1_0 a1_1 a1_2 a1_3 a1_4 a1_5 a1_6 a1_7 a1_8 a1_9 a1_10 a1_11 a1_12 a1_13 a1_14 a1_15 a1_16 a1_17 a1_18 a1_19 a1_20) = some (r1, r2) := by rw [if_neg (show ¬ (false = true) by decide)] at H; exact H
    clear H
    have H := H1
    clear H1
    obtain ⟨y265, hy265⟩ : ∃ y_ : List (S55), y_ = (([] : List (S55))) := ⟨_, rfl⟩
    replace H : (spec_RuleAdd.l0 kj2 l0 y265 0 a1_0 a1_1 a1_2 a1_3 a1_4 a1_5 a1_6 a1_7 a1_8 a1_9 a1_10 a1_11 a1_12 a1_13 a1_14 a1_15 a1_16 a1_17 a1_18 a1_19 a1_20) = some (r1, r2) := by first | (rw [hy265]; with_reducible exact H) | (have H2_ := (Option.bind_some _ _).symm.trans H; rw [hy265]; with_reducible exact H2_) | (have H2_ := (Option.bind_some _ _).symm.trans H; with_reducible exact H2_) | with_reducible exact H | (rw [hy265]; exact H) | exact H
    have Ny265 := Gv.a0 hy265
    clear hy265
    have H' := Gv.a0 H
    clear H
    go_wp2_with (first | ((with_reducible refine gate_dst (N := 17) rfl ?_); refine Kd.R_lit k55 _ 55 ?hg (N := 17) ?hd (xs := ([] : List (S55))) (inner := []) (ok := fun _ => True) (okp := fun _ => True) ?hr ?hp (fun _ hk => hk) trivial (Below.refl _ _) (Nat.le_refl _) (by simp) ?_; (case hd => rfl); (case hg => rfl); (case hr => first | (go_simp; done) | (go_simp; rfl)); (case hp => exact (Reps.none _ _)); intro v266 w13 ho14 hb hg_ hnew_; clear hg_ hnew_; (first | rw [← Ny265.out] at ho14 | (simp only [Int.reduceToNat] at ho14; rw [← Ny265.out] at ho14)); have n0_ := Gv.a0 (Kd.R_lower (Kd.R_newB ho14 (g := gb262) (o := .cells #[.int .i64 a1_0, .int .i64 a1_1, .int .i64 a1_2, .int .i64 a1_3, .int .i64 a1_4, .int .i64 a1_5, .int .i64 a1_6, .int .i64 a1_7, .int .i64 a1_8, .int .i64 a1_9, .int .i64 a1_10, .int .i64 a1_11, .int .i64 a1_12, .int .i64 a1_13, .int .i64 a1_14, .int .i64 a1_15, .int .i64 a1_16, .int .i64 a1_17, .int .i64 a1_18, .int .i64 a1_19, .int .i64 a1_20] 55 (0, 0)) Gv.bk) (below_size Gv.bw)); have n1_ := Gv.a0 (Gv.bb BK262.out hb); have n2_ := Gv.a0 (below_step Gv.bw hb); clear BK262; clear HB; have HO267 := n0_; have BK262 := n1_; have HB := n2_; clear n0_ n1_ n2_; clear hb ho14) | ((with_reducible refine Gv.gate_load (t := 55) rfl ?_); (try (refine gate_guard (by rfl) ?_; dsimp only)); refine wpList_load_row rfl 55 _ rfl gb262 rfl 55 _ _ _ (by first | exact Gv.kb0 BK262.out | exact Gv.kb1 (Gv.kb0 BK262.out)) Try.underlying55 rfl (by kernel_rfl) ?_))
    repeat (go_quiet (first | ((with_reducible refine gate_dst (N := 17) rfl ?_); refine Kd.R_lit k55 _ 55 ?hg (N := 17) ?hd (xs := ([] : List (S55))) (inner := []) (ok := fun _ => True) (okp := fun _ => True) ?hr ?hp (fun _ hk => hk) trivial (Below.refl _ _) (Nat.le_refl _) (by simp) ?_; (case hd => rfl); (case hg => rfl); (case hr => first | (go_simp; done) | (go_simp; rfl)); (case hp => exact (Reps.none _ _)); intro v266 w13 ho14 hb hg_ hnew_; clear hg_ hnew_; (first | rw [← Ny265.out] at ho14 | (simp only [Int.reduceToNat] at ho14; rw [← Ny265.out] at ho14)); have n0_ := Gv.a0 (Kd.R_lower (Kd.R_newB ho14 (g := gb262) (o := .cells #[.int .i64 a1_0, .int .i64 a1_1, .int .i64 a1_2, .int .i64 a1_3, .int .i64 a1_4, .int .i64 a1_5, .int .i64 a1_6, .int .i64 a1_7, .int .i64 a1_8, .int .i64 a1_9, .int .i64 a1_10, .int .i64 a1_11, .int .i64 a1_12, .int .i64 a1_13, .int .i64 a1_14, .int .i64 a1_15, .int .i64 a1_16, .int .i64 a1_17, .int .i64 a1_18, .int .i64 a1_19, .int .i64 a1_20] 55 (0, 0)) Gv.bk) (below_size Gv.bw)); have n1_ := Gv.a0 (Gv.bb BK262.out hb); have n2_ := Gv.a0 (below_step Gv.bw hb); clear BK262; clear HB; have HO267 := n0_; have BK262 := n1_; have HB := n2_; clear n0_ n1_ n2_; clear hb ho14) | ((with_reducible refine Gv.gate_load (t := 55) rfl ?_); (try (refine gate_guard (by rfl) ?_; dsimp only)); refine wpList_load_row rfl 55 _ rfl gb262 rfl 55 _ _ _ (by first | exact Gv.kb0 BK262.out | exact Gv.kb1 (Gv.kb0 BK262.out)) Try.underlying55 rfl (by kernel_rfl) ?_)); try go_wp2_with (first | ((with_reducible refine gate_dst (N := 17) rfl ?_); refine Kd.R_lit k55 _ 55 ?hg (N := 17) ?hd (xs := ([] : List (S55))) (inner := []) (ok := fun _ => True) (okp := fun _ => True) ?hr ?hp (fun _ hk => hk) trivial (Below.refl _ _) (Nat.le_refl _) (by simp) ?_; (case hd => rfl); (case hg => rfl); (case hr => first | (go_simp; done) | (go_simp; rfl)); (case hp => exact (Reps.none _ _)); intro v266 w13 ho14 hb hg_ hnew_; clear hg_ hnew_; (first | rw [← Ny265.out] at ho14 | (simp only [Int.reduceToNat] at ho14; rw [← Ny265.out] at ho14)); have n0_ := Gv.a0 (Kd.R_lower (Kd.R_newB ho14 (g := gb262) (o := .cells #[.int .i64 a1_0, .int .i64 a1_1, .int .i64 a1_2, .int .i64 a1_3, .int .i64 a1_4, .int .i64 a1_5, .int .i64 a1_6, .int .i64 a1_7, .int .i64 a1_8, .int .i64 a1_9, .int .i64 a1_10, .int .i64 a1_11, .int .i64 a1_12, .int .i64 a1_13, .int .i64 a1_14, .int .i64 a1_15, .int .i64 a1_16, .int .i64 a1_17, .int .i64 a1_18, .int .i64 a1_19, .int .i64 a1_20] 55 (0, 0)) Gv.bk) (below_size Gv.bw)); have n1_ := Gv.a0 (Gv.bb BK262.out hb); have n2_ := Gv.a0 (below_step Gv.bw hb); clear BK262; clear HB; have HO267 := n0_; have BK262 := n1_; have HB := n2_; clear n0_ n1_ n2_; clear hb ho14) | ((with_reducible refine Gv.gate_load (t := 55) rfl ?_); (try (refine gate_guard (by rfl) ?_; dsimp only)); refine wpList_load_row rfl 55 _ rfl gb262 rfl 55 _ _ _ (by first | exact Gv.kb0 BK262.out | exact Gv.kb1 (Gv.kb0 BK262.out)) Try.underlying55 rfl (by kernel_rfl) ?_)))
    go_loopg [6, 7] kj2 (fun kq v6 v7 w' => ∃ (x6_2 : List (S55)) (x7_2 : Int), v7 = .int .i64 x7_2 ∧ Aside0 (spec_RuleAdd.l0 kq l0 x6_2 x7_2 a1_0 a1_1 a1_2 a1_3 a1_4 a1_5 a1_6 a1_7 a1_8 a1_9 a1_10 a1_11 a1_12 a1_13 a1_14 a1_15 a1_16 a1_17 a1_18 a1_19 a1_20 = some (r1, r2)) ∧ Aside0 (kq ≤ kj2) ∧ Aside0 (Kd.R k55 55 w' w.heap.size (fun k_ => k_ ≠ gb262) v6 x6_2) ∧ Aside0 (w'.heap[gb262]? = some (.cells #[.int .i64 a1_0, .int .i64 a1_1, .int .i64 a1_2, .int .i64 a1_3, .int .i64 a1_4, .int .i64 a1_5, .int .i64 a1_6, .int .i64 a1_7, .int .i64 a1_8, .int .i64 a1_9, .int .i64 a1_10, .int .i64 a1_11, .int .i64 a1_12, .int .i64 a1_13, .int .i64 a1_14, .int .i64 a1_15, .int .i64 a1_16, .int .i64 a1_17, .int .i64 a1_18, .int .i64 a1_19, .int .i64 a1_20] 55 (0, 0))) ∧ Aside0 (Below w.heap.size w w'))
    case atStart => exact ⟨(y265), (0), Gv.rq, H', ⟨Nat.le_refl _⟩, ⟨by (with_reducible repeat (first | apply Kd.R_alloc | apply Kd.R_drewN | apply Kd.R_drew)); exact Kd.R_mono HO267.out (fun _ hk => hk.2)⟩, ⟨by (with_reducible repeat (first | refine blk_drewN ?_ _ | refine blk_drew ?_ | refine blk_alloc ?_ _)); exact BK262.out⟩, ⟨Gv.bw⟩⟩
    case round =>
     clear H'
     try clear c1
     try clear c2
     try clear p2
     try clear c6
     try clear c12
     try clear hcz9_0 hcz9_1
     try clear hcz9_10 hcz9_11 hcz9_12 hcz9_13 hcz9_14 hcz9_15 hcz9_16 hcz9_17 hcz9_18 hcz9_19
     try clear hcz9_2
     try clear hcz9_20
     try clear hcz9_3 hcz9_4 hcz9_5 hcz9_6 hcz9_7 hcz9_8 hcz9_9
     try clear p2
     obtain ⟨x6_2, x7_2, rfl, HA, HK2, HO_6, BK262, HB⟩ := hrel
     cases gk with
     | zero => exact absurd HA.out (by simp [spec_RuleAdd.l0])
     | succ k2 =>
      have H := HA.out
      clear HA
      simp only [spec_RuleAdd.l0] at H
      by_cases c15 : x7_2 < (l0.length : Int)
      ·rw [if_pos c15] at H
       have c15b0 : decide (x7_2 < (l0.length : Int)) = true := decide_eq_true c15
       clear c15
       by_cases c16 : 0 ≤ x7_2
       ·rw [if_pos c16] at H
        have c16b0 : decide (0 ≤ x7_2) = true := decide_eq_true c16
        clear c16
        by_cases c17 : ((rd_T55 l0 x7_2).f0) = a1_0
        ·rw [if_pos c17] at H
         have c17b0 : (((rd_T55 l0 x7_2).f0) == a1_0) = true := beq_iff_eq.mpr c17
         have c17b1 : (((rd_T55 l0 x7_2).f0) != a1_0) = false := bne_eq_false_iff_eq.mpr c17
         clear c17
         simp only [Option.some.injEq, Prod.mk.injEq] at H
         obtain ⟨rfl, rfl⟩ := H
         have p268 : 0 ≤ (x7_2 : Int) := of_decide_eq_true (by first | (with_reducible assumption) | assumption)
         have q268 : x7_2 < (l0.length : Int) := of_decide_eq_true (by first | (with_reducible assumption) | assumption)
         obtain ⟨ad268, e268, hx268_0, hx268_1, hx268_2, hx268_3, hx268_4, hx268_5, hx268_6, hx268_7, hx268_8, hx268_9, hx268_10, hx268_11, hx268_12, hx268_13, hx268_14, hx268_15, hx268_16, hx268_17, hx268_18, hx268_19, hx268_20⟩ := at_T55 HR0.out x7_2 p268 q268
         cases e268
         replace hx268_0 := Gv.bx HB.out hx268_0
         replace hx268_1 := Gv.bx HB.out hx268_1
         replace hx268_2 := Gv.bx HB.out hx268_2
         replace hx268_3 := Gv.bx HB.out hx268_3
         replace hx268_4 := Gv.bx HB.out hx268_4
         replace hx268_5 := Gv.bx HB.out hx268_5
         replace hx268_6 := Gv.bx HB.out hx268_6
         replace hx268_7 := Gv.bx HB.out hx268_7
         replace hx268_8 := Gv.bx HB.out hx268_8
         replace hx268_9 := Gv.bx HB.out hx268_9
         replace hx268_10 := Gv.bx HB.out hx268_10
         replace hx268_11 := Gv.bx HB.out hx268_11
         replace hx268_12 := Gv.bx HB.out hx268_12
         replace hx268_13 := Gv.bx HB.out hx268_13
         replace hx268_14 := Gv.bx HB.out hx268_14
         replace hx268_15 := Gv.bx HB.out hx268_15
         replace hx268_16 := Gv.bx HB.out hx268_16
         replace hx268_17 := Gv.bx HB.out hx268_17
         replace hx268_18 := Gv.bx HB.out hx268_18
         replace hx268_19 := Gv.bx HB.out hx268_19
         replace hx268_20 := Gv.bx HB.out hx268_20
         replace p268 := eq_true p268
         replace q268 := eq_true q268
         obtain ⟨hcz18_0, hcz18_1, hcz18_2, hcz18_3, hcz18_4, hcz18_5, hcz18_6, hcz18_7, hcz18_8, hcz18_9, hcz18_10, hcz18_11, hcz18_12, hcz18_13, hcz18_14, hcz18_15, hcz18_16, hcz18_17, hcz18_18, hcz18_19, hcz18_20⟩ := Gv.c21 BK262.out
         go_wp2_with (first | ((with_reducible refine Gv.gate_load (t := 55) rfl ?_); (try (refine gate_guard (by rfl) ?_; dsimp only)); refine wpList_load_row rfl 55 _ rfl gb262 rfl 55 _ _ _ (by first | exact Gv.kb0 BK262.out | exact Gv.kb1 (Gv.kb0 BK262.out)) Try.underlying55 rfl (by kernel_rfl) ?_))
         repeat (go_quiet (fail); try go_wp2)
         go_ret2
         exact ⟨_, Gv.rt, by first | exact Kd.R_nil _ _ _ _ _ | exact Kd.N_nil _ _ _ _ _ | exact Kd.V_nil _ _ _ _ _ | exact Kd.Q_nil _ _ _ _ _ | exact Kd.S_nil _ _ _ _ _, Gv.bw⟩
        ·rw [if_neg c17] at H
         have c17b0 : (((rd_T55 l0 x7_2).f0) == a1_0) = false := beq_eq_false_iff_ne.mpr c17
         have c17b1 : (((rd_T55 l0 x7_2).f0) != a1_0) = true := bne_iff_ne.mpr c17
         by_cases c19 : ((rd_T55 l0 x7_2).f0) < a1_0
         ·rw [if_pos c19] at H
          have c19b0 : decide (((rd_T55 l0 x7_2).f0) < a1_0) = true := decide_eq_true c19
          clear c19
          by_cases c20 : x6_2.length < 837723144972
          ·rw [if_pos c20] at H
           have LMc20 := Gv.a0 c20
           clear c20
           obtain ⟨y271, hy271⟩ : ∃ y_ : List (S55), y_ = (x6_2 ++ [(⟨(rd_T55 l0 x7_2).f0, (⟨(⟨(rd_T55 l0 x7_2).f1.f0.f0, (rd_T55 l0 x7_2).f1.f0.f1, (rd_T55 l0 x7_2).f1.f0.f2, (rd_T55 l0 x7_2).f1.f0.f3, (rd_T55 l0 x7_2).f1.f0.f4⟩ : S34), (rd_T55 l0 x7_2).f1.f1⟩ : S53), (⟨(⟨(rd_T55 l0 x7_2).f2.f0.f0, (rd_T55 l0 x7_2).f2.f0.f1, (rd_T55 l0 x7_2).f2.f0.f2, (rd_T55 l0 x7_2).f2.f0.f3, (rd_T55 l0 x7_2).f2.f0.f4⟩ : S34), (rd_T55 l0 x7_2).f2.f1⟩ : S53), (rd_T55 l0 x7_2).f3, (rd_T55 l0 x7_2).f4, (rd_T55 l0 x7_2).f5, (rd_T55 l0 x7_2).f6, (rd_T55 l0 x7_2).f7, (rd_T55 l0 x7_2).f8, (rd_T55 l0 x7_2).f9, (rd_T55 l0 x7_2).f10⟩ : S55)]) := ⟨_, rfl⟩
           replace H : (spec_RuleAdd.l0 k2 l0 y271 (wrap64 (x7_2 + 1)) a1_0 a1_1 a1_2 a1_3 a1_4 a1_5 a1_6 a1_7 a1_8 a1_9 a1_10 a1_11 a1_12 a1_13 a1_14 a1_15 a1_16 a1_17 a1_18 a1_19 a1_20) = some (r1, r2) := by first | (rw [hy271]; with_reducible exact H) | (have H2_ := (Option.bind_some _ _).symm.trans H; rw [hy271]; with_reducible exact H2_) | (have H2_ := (Option.bind_some _ _).symm.trans H; with_reducible exact H2_) | with_reducible exact H | (rw [hy271]; exact H) | exact H
           have Ny271 := Gv.a0 hy271
           clear hy271
           have H' := Gv.a0 H
           clear H
           have p268 : 0 ≤ (x7_2 : Int) := of_decide_eq_true (by first | (with_reducible assumption) | assumption)
           have q268 : x7_2 < (l0.length : Int) := of_decide_eq_true (by first | (with_reducible assumption) | assumption)
           obtain ⟨ad268, e268, hx268_0, hx268_1, hx268_2, hx268_3, hx268_4, hx268_5, hx268_6, hx268_7, hx268_8, hx268_9, hx268_10, hx268_11, hx268_12, hx268_13, hx268_14, hx268_15, hx268_16, hx268_17, hx268_18, hx268_19, hx268_20⟩ := at_T55 HR0.out x7_2 p268 q268
           cases e268
           replace hx268_0 := Gv.bx HB.out hx268_0
           replace hx268_1 := Gv.bx HB.out hx268_1
           replace hx268_2 := Gv.bx HB.out hx268_2
           replace hx268_3 := Gv.bx HB.out hx268_3
           replace hx268_4 := Gv.bx HB.out hx268_4
           replace hx268_5 := Gv.bx HB.out hx268_5
           replace hx268_6 := Gv.bx HB.out hx268_6
           replace hx268_7 := Gv.bx HB.out hx268_7
           replace hx268_8 := Gv.bx HB.out hx268_8
           replace hx268_9 := Gv.bx HB.out hx268_9
           replace hx268_10 := Gv.bx HB.out hx268_10
           replace hx268_11 := Gv.bx HB.out hx268_11
           replace hx268_12 := Gv.bx HB.out hx268_12
           replace hx268_13 := Gv.bx HB.out hx268_13
           replace hx268_14 := Gv.bx HB.out hx268_14
           replace hx268_15 := Gv.bx HB.out hx268_15
           replace hx268_16 := Gv.bx HB.out hx268_16
           replace hx268_17 := Gv.bx HB.out hx268_17
           replace hx268_18 := Gv.bx HB.out hx268_18
           replace hx268_19 := Gv.bx HB.out hx268_19
           replace hx268_20 := Gv.bx HB.out hx268_20
           replace p268 := eq_true p268
           replace q268 := eq_true q268
           obtain ⟨hcz21_0, hcz21_1, hcz21_2, hcz21_3, hcz21_4, hcz21_5, hcz21_6, hcz21_7, hcz21_8, hcz21_9, hcz21_10, hcz21_11, hcz21_12, hcz21_13, hcz21_14, hcz21_15, hcz21_16, hcz21_17, hcz21_18, hcz21_19, hcz21_20⟩ := Gv.c21 BK262.out
           have p269 : 0 ≤ (x7_2 : Int) := of_decide_eq_true (by first | (with_reducible assumption) | assumption)
           have q269 : x7_2 < (l0.length : Int) := of_decide_eq_true (by first | (with_reducible assumption) | assumption)
           obtain ⟨ad269, e269, hx269_0, hx269_1, hx269_2, hx269_3, hx269_4, hx269_5, hx269_6, hx269_7, hx269_8, hx269_9, hx269_10, hx269_11, hx269_12, hx269_13, hx269_14, hx269_15, hx269_16, hx269_17, hx269_18, hx269_19, hx269_20⟩ := at_T55 HR0.out x7_2 p269 q269
           obtain rfl : ad268 = ad269 := (by injection e269)
           replace hx269_0 := Gv.bx HB.out hx269_0
           replace hx269_1 := Gv.bx HB.out hx269_1
           replace hx269_2 := Gv.bx HB.out hx269_2
           replace hx269_3 := Gv.bx HB.out hx269_3
           replace hx269_4 := Gv.bx HB.out hx269_4
           replace hx269_5 := Gv.bx HB.out hx269_5
           replace hx269_6 := Gv.bx HB.out hx269_6
           replace hx269_7 := Gv.bx HB.out hx269_7
           replace hx269_8 := Gv.bx HB.out hx269_8
           replace hx269_9 := Gv.bx HB.out hx269_9
           replace hx269_10 := Gv.bx HB.out hx269_10
           replace hx269_11 := Gv.bx HB.out hx269_11
           replace hx269_12 := Gv.bx HB.out hx269_12
           replace hx269_13 := Gv.bx HB.out hx269_13
           replace hx269_14 := Gv.bx HB.out hx269_14
           replace hx269_15 := Gv.bx HB.out hx269_15
           replace hx269_16 := Gv.bx HB.out hx269_16
           replace hx269_17 := Gv.bx HB.out hx269_17
           replace hx269_18 := Gv.bx HB.out hx269_18
           replace hx269_19 := Gv.bx HB.out hx269_19
           replace hx269_20 := Gv.bx HB.out hx269_20
           replace p269 := eq_true p269
           replace q269 := eq_true q269
           have p270 : 0 ≤ (x7_2 : Int) := of_decide_eq_true (by first | (with_reducible assumption) | assumption)
           have q270 : x7_2 < (l0.length : Int) := of_decide_eq_true (by first | (with_reducible assumption) | assumption)
           obtain ⟨ad270, e270, hx270_0, hx270_1, hx270_2, hx270_3, hx270_4, hx270_5, hx270_6, hx270_7, hx270_8, hx270_9, hx270_10, hx270_11, hx270_12, hx270_13, hx270_14, hx270_15, hx270_16, hx270_17, hx270_18, hx270_19, hx270_20⟩ := at_T55 HR0.out x7_2 p270 q270
           obtain rfl : ad268 = ad270 := (by injection e270)
           replace hx270_0 := Gv.bx HB.out hx270_0
           replace hx270_1 := Gv.bx HB.out hx270_1
           replace hx270_2 := Gv.bx HB.out hx270_2
           replace hx270_3 := Gv.bx HB.out hx270_3
           replace hx270_4 := Gv.bx HB.out hx270_4
           replace hx270_5 := Gv.bx HB.out hx270_5
           replace hx270_6 := Gv.bx HB.out hx270_6
           replace hx270_7 := Gv.bx HB.out hx270_7
           replace hx270_8 := Gv.bx HB.out hx270_8
           replace hx270_9 := Gv.bx HB.out hx270_9
           replace hx270_10 := Gv.bx HB.out hx270_10
           replace hx270_11 := Gv.bx HB.out hx270_11
           replace hx270_12 := Gv.bx HB.out hx270_12
           replace hx270_13 := Gv.bx HB.out hx270_13
           replace hx270_14 := Gv.bx HB.out hx270_14
           replace hx270_15 := Gv.bx HB.out hx270_15
           replace hx270_16 := Gv.bx HB.out hx270_16
           replace hx270_17 := Gv.bx HB.out hx270_17
           replace hx270_18 := Gv.bx HB.out hx270_18
           replace hx270_19 := Gv.bx HB.out hx270_19
           replace hx270_20 := Gv.bx HB.out hx270_20
           replace p270 := eq_true p270
           replace q270 := eq_true q270
           go_wp2_with (first | ((with_reducible refine gate_builtin (b := .append) (xs := #[.tmp 40, .tmp 45]) rfl ?_); at_builtin; refine Kd.R_append k55 (w0 := w) w.heap.size rfl (.tmp 40) (.tmp 45) 25 55 (.agg #[(.int .i64 0), (.int .i64 0), (.int .i64 0), (.int .i64 0), (.int .i64 0), (.int .i64 0), (.int .i64 0), (.int .i64 0), (.int .i64 0), (.int .i64 0), (.int .i64 0), (.int .i64 0), (.int .i64 0), (.int .i64 0), (.int .i64 0), (.int .i64 0), (.int .i64 0), (.int .i64 0), (.int .i64 0), (.int .i64 0), (.int .i64 0)]) 168 rfl Try.underlying25 info55 rfl (by decide) (by omega) u6 x6_2 (⟨(rd_T55 l0 x7_2).f0, (⟨(⟨(rd_T55 l0 x7_2).f1.f0.f0, (rd_T55 l0 x7_2).f1.f0.f1, (rd_T55 l0 x7_2).f1.f0.f2, (rd_T55 l0 x7_2).f1.f0.f3, (rd_T55 l0 x7_2).f1.f0.f4⟩ : S34), (rd_T55 l0 x7_2).f1.f1⟩ : S53), (⟨(⟨(rd_T55 l0 x7_2).f2.f0.f0, (rd_T55 l0 x7_2).f2.f0.f1, (rd_T55 l0 x7_2).f2.f0.f2, (rd_T55 l0 x7_2).f2.f0.f3, (rd_T55 l0 x7_2).f2.f0.f4⟩ : S34), (rd_T55 l0 x7_2).f2.f1⟩ : S53), (rd_T55 l0 x7_2).f3, (rd_T55 l0 x7_2).f4, (rd_T55 l0 x7_2).f5, (rd_T55 l0 x7_2).f6, (rd_T55 l0 x7_2).f7, (rd_T55 l0 x7_2).f8, (rd_T55 l0 x7_2).f9, (rd_T55 l0 x7_2).f10⟩ : S55) [.int .i64 ((rd_T55 l0 x7_2).f0), .int .i64 ((rd_T55 l0 x7_2).f1.f0.f0), .int .i64 ((rd_T55 l0 x7_2).f1.f0.f1), .int .i64 ((rd_T55 l0 x7_2).f1.f0.f2), .int .i64 ((rd_T55 l0 x7_2).f1.f0.f3), .int .i64 ((rd_T55 l0 x7_2).f1.f0.f4), .int .i64 ((rd_T55 l0 x7_2).f1.f1), .int .i64 ((rd_T55 l0 x7_2).f2.f0.f0), .int .i64 ((rd_T55 l0 x7_2).f2.f0.f1), .int .i64 ((rd_T55 l0 x7_2).f2.f0.f2), .int .i64 ((rd_T55 l0 x7_2).f2.f0.f3), .int .i64 ((rd_T55 l0 x7_2).f2.f0.f4), .int .i64 ((rd_T55 l0 x7_2).f2.f1), .int .i64 ((rd_T55 l0 x7_2).f3), .int .i64 ((rd_T55 l0 x7_2).f4), .int .i64 ((rd_T55 l0 x7_2).f5), .int .i64 ((rd_T55 l0 x7_2).f6), .int .i64 ((rd_T55 l0 x7_2).f7), .int .i64 ((rd_T55 l0 x7_2).f8), .int .i64 ((rd_T55 l0 x7_2).f9), .int .i64 ((rd_T55 l0 x7_2).f10)] (fun k_ => k_ ≠ gb262) (fun _ => False) rfl rfl ?aP (fun _ hk => hk.elim) ?aF ?aO ?aB ?aS ?aL ?_; (case aP => exact k55_mkM _ _ _ (⟨(rd_T55 l0 x7_2).f0, (⟨(⟨(rd_T55 l0 x7_2).f1.f0.f0, (rd_T55 l0 x7_2).f1.f0.f1, (rd_T55 l0 x7_2).f1.f0.f2, (rd_T55 l0 x7_2).f1.f0.f3, (rd_T55 l0 x7_2).f1.f0.f4⟩ : S34), (rd_T55 l0 x7_2).f1.f1⟩ : S53), (⟨(⟨(rd_T55 l0 x7_2).f2.f0.f0, (rd_T55 l0 x7_2).f2.f0.f1, (rd_T55 l0 x7_2).f2.f0.f2, (rd_T55 l0 x7_2).f2.f0.f3, (rd_T55 l0 x7_2).f2.f0.f4⟩ : S34), (rd_T55 l0 x7_2).f2.f1⟩ : S53), (rd_T55 l0 x7_2).f3, (rd_T55 l0 x7_2).f4, (rd_T55 l0 x7_2).f5, (rd_T55 l0 x7_2).f6, (rd_T55 l0 x7_2).f7, (rd_T55 l0 x7_2).f8, (rd_T55 l0 x7_2).f9, (rd_T55 l0 x7_2).f10⟩ : S55)); (case aB => exact Gv.bw); (case aF => exact (fun k_ hk => Kd.freshB (g := gb262) (o := .cells #[.int .i64 a1_0, .int .i64 a1_1, .int .i64 a1_2, .int .i64 a1_3, .int .i64 a1_4, .int .i64 a1_5, .int .i64 a1_6, .int .i64 a1_7, .int .i64 a1_8, .int .i64 a1_9, .int .i64 a1_10, .int .i64 a1_11, .int .i64 a1_12, .int .i64 a1_13, .int .i64 a1_14, .int .i64 a1_15, .int .i64 a1_16, .int .i64 a1_17, .int .i64 a1_18, .int .i64 a1_19, .int .i64 a1_20] 55 (0, 0)) Gv.bk k_ hk)); (case aO => exact (Gv.kr HO_6.out)); (case aS => exact (below_size Gv.bw)); (case aL => have := LMc20.out; omega); intro v272 w22 ho hb hg hat; rw [← Ny271.out] at ho; have n0_ := Gv.a0 (blk_grown (g := gb262) (o := .cells #[.int .i64 a1_0, .int .i64 a1_1, .int .i64 a1_2, .int .i64 a1_3, .int .i64 a1_4, .int .i64 a1_5, .int .i64 a1_6, .int .i64 a1_7, .int .i64 a1_8, .int .i64 a1_9, .int .i64 a1_10, .int .i64 a1_11, .int .i64 a1_12, .int .i64 a1_13, .int .i64 a1_14, .int .i64 a1_15, .int .i64 a1_16, .int .i64 a1_17, .int .i64 a1_18, .int .i64 a1_19, .int .i64 a1_20] 55 (0, 0)) Gv.bk hg (Kd.R_away HO_6.out (fun _ hk => hk))); have n1_ := Gv.a0 (hb); have n2_ := Gv.a0 (ho); clear BK262; clear HB; clear HO_6; have BK262 := n0_; have HB := n1_; have HO273 := n2_; clear n0_ n1_ n2_; clear ho hb hg hat) | ((with_reducible refine Gv.gate_load (t := 55) rfl ?_); (try (refine gate_guard (by rfl) ?_; dsimp only)); refine wpList_load_row rfl 55 _ rfl gb262 rfl 55 _ _ _ (by first | exact Gv.kb0 BK262.out | exact Gv.kb1 (Gv.kb0 BK262.out)) Try.underlying55 rfl (by kernel_rfl) ?_) | ((with_reducible refine Gv.gate_load (t := 55) rfl ?_); refine Gv.load_event (cs := [_, _, _, _, _, _, _, _, _, _, _, _, _, _, _, _, _, _, _, _, _]) rfl rfl rfl ⟨hx270_0, hx270_1, hx270_2, hx270_3, hx270_4, hx270_5, hx270_6, hx270_7, hx270_8, hx270_9, hx270_10, hx270_11, hx270_12, hx270_13, hx270_14, hx270_15, hx270_16, hx270_17, hx270_18, hx270_19, hx270_20, trivial⟩ Try.underlying55 rfl (by kernel_rfl) ?_))
           repeat (go_quiet (first | ((with_reducible refine gate_builtin (b := .append) (xs := #[.tmp 40, .tmp 45]) rfl ?_); at_builtin; refine Kd.R_append k55 (w0 := w) w.heap.size rfl (.tmp 40) (.tmp 45) 25 55 (.agg #[(.int .i64 0), (.int .i64 0), (.int .i64 0), (.int .i64 0), (.int .i64 0), (.int .i64 0), (.int .i64 0), (.int .i64 0), (.int .i64 0), (.int .i64 0), (.int .i64 0), (.int .i64 0), (.int .i64 0), (.int .i64 0), (.int .i64 0), (.int .i64 0), (.int .i64 0), (.int .i64 0), (.int .i64 0), (.int .i64 0), (.int .i64 0)]) 168 rfl Try.underlying25 info55 rfl (by decide) (by omega) u6 x6_2 (⟨(rd_T55 l0 x7_2).f0, (⟨(⟨(rd_T55 l0 x7_2).f1.f0.f0, (rd_T55 l0 x7_2).f1.f0.f1, (rd_T55 l0 x7_2).f1.f0.f2, (rd_T55 l0 x7_2).f1.f0.f3, (rd_T55 l0 x7_2).f1.f0.f4⟩ : S34), (rd_T55 l0 x7_2).f1.f1⟩ : S53), (⟨(⟨(rd_T55 l0 x7_2).f2.f0.f0, (rd_T55 l0 x7_2).f2.f0.f1, (rd_T55 l0 x7_2).f2.f0.f2, (rd_T55 l0 x7_2).f2.f0.f3, (rd_T55 l0 x7_2).f2.f0.f4⟩ : S34), (rd_T55 l0 x7_2).f2.f1⟩ : S53), (rd_T55 l0 x7_2).f3, (rd_T55 l0 x7_2).f4, (rd_T55 l0 x7_2).f5, (rd_T55 l0 x7_2).f6, (rd_T55 l0 x7_2).f7, (rd_T55 l0 x7_2).f8, (rd_T55 l0 x7_2).f9, (rd_T55 l0 x7_2).f10⟩ : S55) [.int .i64 ((rd_T55 l0 x7_2).f0), .int .i64 ((rd_T55 l0 x7_2).f1.f0.f0), .int .i64 ((rd_T55 l0 x7_2).f1.f0.f1), .int .i64 ((rd_T55 l0 x7_2).f1.f0.f2), .int .i64 ((rd_T55 l0 x7_2).f1.f0.f3), .int .i64 ((rd_T55 l0 x7_2).f1.f0.f4), .int .i64 ((rd_T55 l0 x7_2).f1.f1), .int .i64 ((rd_T55 l0 x7_2).f2.f0.f0), .int .i64 ((rd_T55 l0 x7_2).f2.f0.f1), .int .i64 ((rd_T55 l0 x7_2).f2.f0.f2), .int .i64 ((rd_T55 l0 x7_2).f2.f0.f3), .int .i64 ((rd_T55 l0 x7_2).f2.f0.f4), .int .i64 ((rd_T55 l0 x7_2).f2.f1), .int .i64 ((rd_T55 l0 x7_2).f3), .int .i64 ((rd_T55 l0 x7_2).f4), .int .i64 ((rd_T55 l0 x7_2).f5), .int .i64 ((rd_T55 l0 x7_2).f6), .int .i64 ((rd_T55 l0 x7_2).f7), .int .i64 ((rd_T55 l0 x7_2).f8), .int .i64 ((rd_T55 l0 x7_2).f9), .int .i64 ((rd_T55 l0 x7_2).f10)] (fun k_ => k_ ≠ gb262) (fun _ => False) rfl rfl ?aP (fun _ hk => hk.elim) ?aF ?aO ?aB ?aS ?aL ?_; (case aP => exact k55_mkM _ _ _ (⟨(rd_T55 l0 x7_2).f0, (⟨(⟨(rd_T55 l0 x7_2).f1.f0.f0, (rd_T55 l0 x7_2).f1.f0.f1, (rd_T55 l0 x7_2).f1.f0.f2, (rd_T55 l0 x7_2).f1.f0.f3, (rd_T55 l0 x7_2).f1.f0.f4⟩ : S34), (rd_T55 l0 x7_2).f1.f1⟩ : S53), (⟨(⟨(rd_T55 l0 x7_2).f2.f0.f0, (rd_T55 l0 x7_2).f2.f0.f1, (rd_T55 l0 x7_2).f2.f0.f2, (rd_T55 l0 x7_2).f2.f0.f3, (rd_T55 l0 x7_2).f2.f0.f4⟩ : S34), (rd_T55 l0 x7_2).f2.f1⟩ : S53), (rd_T55 l0 x7_2).f3, (rd_T55 l0 x7_2).f4, (rd_T55 l0 x7_2).f5, (rd_T55 l0 x7_2).f6, (rd_T55 l0 x7_2).f7, (rd_T55 l0 x7_2).f8, (rd_T55 l0 x7_2).f9, (rd_T55 l0 x7_2).f10⟩ : S55)); (case aB => exact Gv.bw); (case aF => exact (fun k_ hk => Kd.freshB (g := gb262) (o := .cells #[.int .i64 a1_0, .int .i64 a1_1, .int .i64 a1_2, .int .i64 a1_3, .int .i64 a1_4, .int .i64 a1_5, .int .i64 a1_6, .int .i64 a1_7, .int .i64 a1_8, .int .i64 a1_9, .int .i64 a1_10, .int .i64 a1_11, .int .i64 a1_12, .int .i64 a1_13, .int .i64 a1_14, .int .i64 a1_15, .int .i64 a1_16, .int .i64 a1_17, .int .i64 a1_18, .int .i64 a1_19, .int .i64 a1_20] 55 (0, 0)) Gv.bk k_ hk)); (case aO => exact (Gv.kr HO_6.out)); (case aS => exact (below_size Gv.bw)); (case aL => have := LMc20.out; omega); intro v272 w22 ho hb hg hat; rw [← Ny271.out] at ho; have n0_ := Gv.a0 (blk_grown (g := gb262) (o := .cells #[.int .i64 a1_0, .int .i64 a1_1, .int .i64 a1_2, .int .i64 a1_3, .int .i64 a1_4, .int .i64 a1_5, .int .i64 a1_6, .int .i64 a1_7, .int .i64 a1_8, .int .i64 a1_9, .int .i64 a1_10, .int .i64 a1_11, .int .i64 a1_12, .int .i64 a1_13, .int .i64 a1_14, .int .i64 a1_15, .int .i64 a1_16, .int .i64 a1_17, .int .i64 a1_18, .int .i64 a1_19, .int .i64 a1_20] 55 (0, 0)) Gv.bk hg (Kd.R_away HO_6.out (fun _ hk => hk))); have n1_ := Gv.a0 (hb); have n2_ := Gv.a0 (ho); clear BK262; clear HB; clear HO_6; have BK262 := n0_; have HB := n1_; have HO273 := n2_; clear n0_ n1_ n2_; clear ho hb hg hat) | ((with_reducible refine Gv.gate_load (t := 55) rfl ?_); (try (refine gate_guard (by rfl) ?_; dsimp only)); refine wpList_load_row rfl 55 _ rfl gb262 rfl 55 _ _ _ (by first | exact Gv.kb0 BK262.out | exact Gv.kb1 (Gv.kb0 BK262.out)) Try.underlying55 rfl (by kernel_rfl) ?_) | ((with_reducible refine Gv.gate_load (t := 55) rfl ?_); refine Gv.load_event (cs := [_, _, _, _, _, _, _, _, _, _, _, _, _, _, _, _, _, _, _, _, _]) rfl rfl rfl ⟨hx270_0, hx270_1, hx270_2, hx270_3, hx270_4, hx270_5, hx270_6, hx270_7, hx270_8, hx270_9, hx270_10, hx270_11, hx270_12, hx270_13, hx270_14, hx270_15, hx270_16, hx270_17, hx270_18, hx270_19, hx270_20, trivial⟩ Try.underlying55 rfl (by kernel_rfl) ?_)); try go_wp2_with (first | ((with_reducible refine gate_builtin (b := .append) (xs := #[.tmp 40, .tmp 45]) rfl ?_); at_builtin; refine Kd.R_append k55 (w0 := w) w.heap.size rfl (.tmp 40) (.tmp 45) 25 55 (.agg #[(.int .i64 0), (.int .i64 0), (.int .i64 0), (.int .i64 0), (.int .i64 0), (.int .i64 0), (.int .i64 0), (.int .i64 0), (.int .i64 0), (.int .i64 0), (.int .i64 0), (.int .i64 0), (.int .i64 0), (.int .i64 0), (.int .i64 0), (.int .i64 0), (.int .i64 0), (.int .i64 0), (.int .i64 0), (.int .i64 0), (.int .i64 0)]) 168 rfl Try.underlying25 info55 rfl (by decide) (by omega) u6 x6_2 (⟨(rd_T55 l0 x7_2).f0, (⟨(⟨(rd_T55 l0 x7_2).f1.f0.f0, (rd_T55 l0 x7_2).f1.f0.f1, (rd_T55 l0 x7_2).f1.f0.f2, (rd_T55 l0 x7_2).f1.f0.f3, (rd_T55 l0 x7_2).f1.f0.f4⟩ : S34), (rd_T55 l0 x7_2).f1.f1⟩ : S53), (⟨(⟨(rd_T55 l0 x7_2).f2.f0.f0, (rd_T55 l0 x7_2).f2.f0.f1, (rd_T55 l0 x7_2).f2.f0.f2, (rd_T55 l0 x7_2).f2.f0.f3, (rd_T55 l0 x7_2).f2.f0.f4⟩ : S34), (rd_T55 l0 x7_2).f2.f1⟩ : S53), (rd_T55 l0 x7_2).f3, (rd_T55 l0 x7_2).f4, (rd_T55 l0 x7_2).f5, (rd_T55 l0 x7_2).f6, (rd_T55 l0 x7_2).f7, (rd_T55 l0 x7_2).f8, (rd_T55 l0 x7_2).f9, (rd_T55 l0 x7_2).f10⟩ : S55) [.int .i64 ((rd_T55 l0 x7_2).f0), .int .i64 ((rd_T55 l0 x7_2).f1.f0.f0), .int .i64 ((rd_T55 l0 x7_2).f1.f0.f1), .int .i64 ((rd_T55 l0 x7_2).f1.f0.f2), .int .i64 ((rd_T55 l0 x7_2).f1.f0.f3), .int .i64 ((rd_T55 l0 x7_2).f1.f0.f4), .int .i64 ((rd_T55 l0 x7_2).f1.f1), .int .i64 ((rd_T55 l0 x7_2).f2.f0.f0), .int .i64 ((rd_T55 l0 x7_2).f2.f0.f1), .int .i64 ((rd_T55 l0 x7_2).f2.f0.f2), .int .i64 ((rd_T55 l0 x7_2).f2.f0.f3), .int .i64 ((rd_T55 l0 x7_2).f2.f0.f4), .int .i64 ((rd_T55 l0 x7_2).f2.f1), .int .i64 ((rd_T55 l0 x7_2).f3), .int .i64 ((rd_T55 l0 x7_2).f4), .int .i64 ((rd_T55 l0 x7_2).f5), .int .i64 ((rd_T55 l0 x7_2).f6), .int .i64 ((rd_T55 l0 x7_2).f7), .int .i64 ((rd_T55 l0 x7_2).f8), .int .i64 ((rd_T55 l0 x7_2).f9), .int .i64 ((rd_T55 l0 x7_2).f10)] (fun k_ => k_ ≠ gb262) (fun _ => False) rfl rfl ?aP (fun _ hk => hk.elim) ?aF ?aO ?aB ?aS ?aL ?_; (case aP => exact k55_mkM _ _ _ (⟨(rd_T55 l0 x7_2).f0, (⟨(⟨(rd_T55 l0 x7_2).f1.f0.f0, (rd_T55 l0 x7_2).f1.f0.f1, (rd_T55 l0 x7_2).f1.f0.f2, (rd_T55 l0 x7_2).f1.f0.f3, (rd_T55 l0 x7_2).f1.f0.f4⟩ : S34), (rd_T55 l0 x7_2).f1.f1⟩ : S53), (⟨(⟨(rd_T55 l0 x7_2).f2.f0.f0, (rd_T55 l0 x7_2).f2.f0.f1, (rd_T55 l0 x7_2).f2.f0.f2, (rd_T55 l0 x7_2).f2.f0.f3, (rd_T55 l0 x7_2).f2.f0.f4⟩ : S34), (rd_T55 l0 x7_2).f2.f1⟩ : S53), (rd_T55 l0 x7_2).f3, (rd_T55 l0 x7_2).f4, (rd_T55 l0 x7_2).f5, (rd_T55 l0 x7_2).f6, (rd_T55 l0 x7_2).f7, (rd_T55 l0 x7_2).f8, (rd_T55 l0 x7_2).f9, (rd_T55 l0 x7_2).f10⟩ : S55)); (case aB => exact Gv.bw); (case aF => exact (fun k_ hk => Kd.freshB (g := gb262) (o := .cells #[.int .i64 a1_0, .int .i64 a1_1, .int .i64 a1_2, .int .i64 a1_3, .int .i64 a1_4, .int .i64 a1_5, .int .i64 a1_6, .int .i64 a1_7, .int .i64 a1_8, .int .i64 a1_9, .int .i64 a1_10, .int .i64 a1_11, .int .i64 a1_12, .int .i64 a1_13, .int .i64 a1_14, .int .i64 a1_15, .int .i64 a1_16, .int .i64 a1_17, .int .i64 a1_18, .int .i64 a1_19, .int .i64 a1_20] 55 (0, 0)) Gv.bk k_ hk)); (case aO => exact (Gv.kr HO_6.out)); (case aS => exact (below_size Gv.bw)); (case aL => have := LMc20.out; omega); intro v272 w22 ho hb hg hat; rw [← Ny271.out] at ho; have n0_ := Gv.a0 (blk_grown (g := gb262) (o := .cells #[.int .i64 a1_0, .int .i64 a1_1, .int .i64 a1_2, .int .i64 a1_3, .int .i64 a1_4, .int .i64 a1_5, .int .i64 a1_6, .int .i64 a1_7, .int .i64 a1_8, .int .i64 a1_9, .int .i64 a1_10, .int .i64 a1_11, .int .i64 a1_12, .int .i64 a1_13, .int .i64 a1_14, .int .i64 a1_15, .int .i64 a1_16, .int .i64 a1_17, .int .i64 a1_18, .int .i64 a1_19, .int .i64 a1_20] 55 (0, 0)) Gv.bk hg (Kd.R_away HO_6.out (fun _ hk => hk))); have n1_ := Gv.a0 (hb); have n2_ := Gv.a0 (ho); clear BK262; clear HB; clear HO_6; have BK262 := n0_; have HB := n1_; have HO273 := n2_; clear n0_ n1_ n2_; clear ho hb hg hat) | ((with_reducible refine Gv.gate_load (t := 55) rfl ?_); (try (refine gate_guard (by rfl) ?_; dsimp only)); refine wpList_load_row rfl 55 _ rfl gb262 rfl 55 _ _ _ (by first | exact Gv.kb0 BK262.out | exact Gv.kb1 (Gv.kb0 BK262.out)) Try.underlying55 rfl (by kernel_rfl) ?_) | ((with_reducible refine Gv.gate_load (t := 55) rfl ?_); refine Gv.load_event (cs := [_, _, _, _, _, _, _, _, _, _, _, _, _, _, _, _, _, _, _, _, _]) rfl rfl rfl ⟨hx270_0, hx270_1, hx270_2, hx270_3, hx270_4, hx270_5, hx270_6, hx270_7, hx270_8, hx270_9, hx270_10, hx270_11, hx270_12, hx270_13, hx270_14, hx270_15, hx270_16, hx270_17, hx270_18, hx270_19, hx270_20, trivial⟩ Try.underlying55 rfl (by kernel_rfl) ?_)))
           go_roundg k2
           case measure => have := HJ2.out; have := HK2.out; omega
           case rel => exact ⟨(y271), (wrap64 (x7_2 + 1)), Gv.rq, H', ⟨by have := HJ2.out; have := HK2.out; omega⟩, ⟨Gv.kr HO273.out⟩, ⟨by (with_reducible repeat (first | refine blk_drewN ?_ _ | refine blk_drew ?_ | refine blk_alloc ?_ _)); exact BK262.out⟩, ⟨Gv.bw⟩⟩
          ·rw [if_neg c20] at H
           exact absurd H (by simp)
         ·rw [if_neg c19] at H
          have c19b0 : decide (((rd_T55 l0 x7_2).f0) < a1_0) = false := decide_eq_false c19
          clear c19
          have H' := Gv.a0 H
          clear H
          have p268 : 0 ≤ (x7_2 : Int) := of_decide_eq_true (by first | (with_reducible assumption) | assumption)
          have q268 : x7_2 < (l0.length : Int) := of_decide_eq_true (by first | (with_reducible assumption) | assumption)
          obtain ⟨ad268, e268, hx268_0, hx268_1, hx268_2, hx268_3, hx268_4, hx268_5, hx268_6, hx268_7, hx268_8, hx268_9, hx268_10, hx268_11, hx268_12, hx268_13, hx268_14, hx268_15, hx268_16, hx268_17, hx268_18, hx268_19, hx268_20⟩ := at_T55 HR0.out x7_2 p268 q268
          cases e268
          replace hx268_0 := Gv.bx HB.out hx268_0
          replace hx268_1 := Gv.bx HB.out hx268_1
          replace hx268_2 := Gv.bx HB.out hx268_2
          replace hx268_3 := Gv.bx HB.out hx268_3
          replace hx268_4 := Gv.bx HB.out hx268_4
          replace hx268_5 := Gv.bx HB.out hx268_5
          replace hx268_6 := Gv.bx HB.out hx268_6
          replace hx268_7 := Gv.bx HB.out hx268_7
          replace hx268_8 := Gv.bx HB.out hx268_8
          replace hx268_9 := Gv.bx HB.out hx268_9
          replace hx268_10 := Gv.bx HB.out hx268_10
          replace hx268_11 := Gv.bx HB.out hx268_11
          replace hx268_12 := Gv.bx HB.out hx268_12
          replace hx268_13 := Gv.bx HB.out hx268_13
          replace hx268_14 := Gv.bx HB.out hx268_14
          replace hx268_15 := Gv.bx HB.out hx268_15
          replace hx268_16 := Gv.bx HB.out hx268_16
          replace hx268_17 := Gv.bx HB.out hx268_17
          replace hx268_18 := Gv.bx HB.out hx268_18
          replace hx268_19 := Gv.bx HB.out hx268_19
          replace hx268_20 := Gv.bx HB.out hx268_20
          replace p268 := eq_true p268
          replace q268 := eq_true q268
          obtain ⟨hcz23_0, hcz23_1, hcz23_2, hcz23_3, hcz23_4, hcz23_5, hcz23_6, hcz23_7, hcz23_8, hcz23_9, hcz23_10, hcz23_11, hcz23_12, hcz23_13, hcz23_14, hcz23_15, hcz23_16, hcz23_17, hcz23_18, hcz23_19, hcz23_20⟩ := Gv.c21 BK262.out
          have p269 : 0 ≤ (x7_2 : Int) := of_decide_eq_true (by first | (with_reducible assumption) | assumption)
          have q269 : x7_2 < (l0.length : Int) := of_decide_eq_true (by first | (with_reducible assumption) | assumption)
          obtain ⟨ad269, e269, hx269_0, hx269_1, hx269_2, hx269_3, hx269_4, hx269_5, hx269_6, hx269_7, hx269_8, hx269_9, hx269_10, hx269_11, hx269_12, hx269_13, hx269_14, hx269_15, hx269_16, hx269_17, hx269_18, hx269_19, hx269_20⟩ := at_T55 HR0.out x7_2 p269 q269
          obtain rfl : ad268 = ad269 := (by injection e269)
          replace hx269_0 := Gv.bx HB.out hx269_0
          replace hx269_1 := Gv.bx HB.out hx269_1
          replace hx269_2 := Gv.bx HB.out hx269_2
          replace hx269_3 := Gv.bx HB.out hx269_3
          replace hx269_4 := Gv.bx HB.out hx269_4
          replace hx269_5 := Gv.bx HB.out hx269_5
          replace hx269_6 := Gv.bx HB.out hx269_6
          replace hx269_7 := Gv.bx HB.out hx269_7
          replace hx269_8 := Gv.bx HB.out hx269_8
          replace hx269_9 := Gv.bx HB.out hx269_9
          replace hx269_10 := Gv.bx HB.out hx269_10
          replace hx269_11 := Gv.bx HB.out hx269_11
          replace hx269_12 := Gv.bx HB.out hx269_12
          replace hx269_13 := Gv.bx HB.out hx269_13
          replace hx269_14 := Gv.bx HB.out hx269_14
          replace hx269_15 := Gv.bx HB.out hx269_15
          replace hx269_16 := Gv.bx HB.out hx269_16
          replace hx269_17 := Gv.bx HB.out hx269_17
          replace hx269_18 := Gv.bx HB.out hx269_18
          replace hx269_19 := Gv.bx HB.out hx269_19
          replace hx269_20 := Gv.bx HB.out hx269_20
          replace p269 := eq_true p269
          replace q269 := eq_true q269
          go_wp2_with (first | ((with_reducible refine Gv.gate_load (t := 55) rfl ?_); (try (refine gate_guard (by rfl) ?_; dsimp only)); refine wpList_load_row rfl 55 _ rfl gb262 rfl 55 _ _ _ (by first | exact Gv.kb0 BK262.out | exact Gv.kb1 (Gv.kb0 BK262.out)) Try.underlying55 rfl (by kernel_rfl) ?_))
          repeat (go_quiet (fail); try go_wp2)
          go_roundg k2
          case measure => have := HJ2.out; have := HK2.out; omega
          case rel => exact ⟨(x6_2), (wrap64 (x7_2 + 1)), Gv.rq, H', ⟨by have := HJ2.out; have := HK2.out; omega⟩, ⟨Gv.kr HO_6.out⟩, ⟨by (with_reducible repeat (first | refine blk_drewN ?_ _ | refine blk_drew ?_ | refine blk_alloc ?_ _)); exact BK262.out⟩, ⟨Gv.bw⟩⟩
       ·rw [if_neg c16] at H
        exact absurd H (by simp)
      ·rw [if_neg c15] at H
       have c15b0 : decide (x7_2 < (l0.length : Int)) = false := decide_eq_false c15
       clear c15
       by_cases c24 : (l0.length : Int) = 32
       ·rw [if_pos c24] at H
        have c24b0 : ((l0.length : Int) == 32) = true := beq_iff_eq.mpr c24
        have c24b1 : ((l0.length : Int) != 32) = false := bne_eq_false_iff_eq.mpr c24
        clear c24
        simp only [Option.some.injEq, Prod.mk.injEq] at H
        obtain ⟨rfl, rfl⟩ := H
        go_wp2_with (first | ((with_reducible refine Gv.gate_load (t := 55) rfl ?_); (try (refine gate_guard (by rfl) ?_; dsimp only)); refine wpList_load_row rfl 55 _ rfl gb262 rfl 55 _ _ _ (by first | exact Gv.kb0 BK262.out | exact Gv.kb1 (Gv.kb0 BK262.out)) Try.underlying55 rfl (by kernel_rfl) ?_))
        repeat (go_quiet (fail); try go_wp2)
        go_ret2
        exact ⟨_, Gv.rt, by first | exact Kd.R_nil _ _ _ _ _ | exact Kd.N_nil _ _ _ _ _ | exact Kd.V_nil _ _ _ _ _ | exact Kd.Q_nil _ _ _ _ _ | exact Kd.S_nil _ _ _ _ _, Gv.bw⟩
       ·rw [if_neg c24] at H
        have c24b0 : ((l0.length : Int) == 32) = false := beq_eq_false_iff_ne.mpr c24
        have c24b1 : ((l0.length : Int) != 32) = true := bne_iff_ne.mpr c24
        by_cases c25 : x6_2.length < 837723144972
        ·rw [if_pos c25] at H
         have LMc25 := Gv.a0 c25
         clear c25
         obtain ⟨y274, hy274⟩ : ∃ y_ : List (S55), y_ = (x6_2 ++ [(⟨a1_0, (⟨(⟨a1_1, a1_2, a1_3, a1_4, a1_5⟩ : S34), a1_6⟩ : S53), (⟨(⟨a1_7, a1_8, a1_9, a1_10, a1_11⟩ : S34), a1_12⟩ : S53), a1_13, a1_14, a1_15, a1_16, a1_17, a1_18, a1_19, a1_20⟩ : S55)]) := ⟨_, rfl⟩
         replace H : (spec_RuleAdd.l1 k2 l0 y274 0 a1_0 a1_1 a1_2 a1_3 a1_4 a1_5 a1_6 a1_7 a1_8 a1_9 a1_10 a1_11 a1_12 a1_13 a1_14 a1_15 a1_16 a1_17 a1_18 a1_19 a1_20) = some (r1, r2) := by first | (rw [hy274]; with_reducible exact H) | (have H2_ := (Option.bind_some _ _).symm.trans H; rw [hy274]; with_reducible exact H2_) | (have H2_ := (Option.bind_some _ _).symm.trans H; with_reducible exact H2_) | with_reducible exact H | (rw [hy274]; exact H) | exact H
         have Ny274 := Gv.a0 hy274
         clear hy274
         have H' := Gv.a0 H
         clear H
         obtain ⟨hcz26_0, hcz26_1, hcz26_2, hcz26_3, hcz26_4, hcz26_5, hcz26_6, hcz26_7, hcz26_8, hcz26_9, hcz26_10, hcz26_11, hcz26_12, hcz26_13, hcz26_14, hcz26_15, hcz26_16, hcz26_17, hcz26_18, hcz26_19, hcz26_20⟩ := Gv.c21 BK262.out
         go_wp2_with (first | ((with_reducible refine gate_builtin (b := .append) (xs := #[.tmp 50, .tmp 52]) rfl ?_); at_builtin; refine Kd.R_append k55 (w0 := w) w.heap.size rfl (.tmp 50) (.tmp 52) 25 55 (.agg #[(.int .i64 0), (.int .i64 0), (.int .i64 0), (.int .i64 0), (.int .i64 0), (.int .i64 0), (.int .i64 0), (.int .i64 0), (.int .i64 0), (.int .i64 0), (.int .i64 0), (.int .i64 0), (.int .i64 0), (.int .i64 0), (.int .i64 0), (.int .i64 0), (.int .i64 0), (.int .i64 0), (.int .i64 0), (.int .i64 0), (.int .i64 0)]) 168 rfl Try.underlying25 info55 rfl (by decide) (by omega) u6 x6_2 (⟨a1_0, (⟨(⟨a1_1, a1_2, a1_3, a1_4, a1_5⟩ : S34), a1_6⟩ : S53), (⟨(⟨a1_7, a1_8, a1_9, a1_10, a1_11⟩ : S34), a1_12⟩ : S53), a1_13, a1_14, a1_15, a1_16, a1_17, a1_18, a1_19, a1_20⟩ : S55) [.int .i64 a1_0, .int .i64 a1_1, .int .i64 a1_2, .int .i64 a1_3, .int .i64 a1_4, .int .i64 a1_5, .int .i64 a1_6, .int .i64 a1_7, .int .i64 a1_8, .int .i64 a1_9, .int .i64 a1_10, .int .i64 a1_11, .int .i64 a1_12, .int .i64 a1_13, .int .i64 a1_14, .int .i64 a1_15, .int .i64 a1_16, .int .i64 a1_17, .int .i64 a1_18, .int .i64 a1_19, .int .i64 a1_20] (fun k_ => k_ ≠ gb262) (fun _ => False) rfl rfl ?aP (fun _ hk => hk.elim) ?aF ?aO ?aB ?aS ?aL ?_; (case aP => exact k55_mkM _ _ _ (⟨a1_0, (⟨(⟨a1_1, a1_2, a1_3, a1_4, a1_5⟩ : S34), a1_6⟩ : S53), (⟨(⟨a1_7, a1_8, a1_9, a1_10, a1_11⟩ : S34), a1_12⟩ : S53), a1_13, a1_14, a1_15, a1_16, a1_17, a1_18, a1_19, a1_20⟩ : S55)); (case aB => exact Gv.bw); (case aF => exact (fun k_ hk => Kd.freshB (g := gb262) (o := .cells #[.int .i64 a1_0, .int .i64 a1_1, .int .i64 a1_2, .int .i64 a1_3, .int .i64 a1_4, .int .i64 a1_5, .int .i64 a1_6, .int .i64 a1_7, .int .i64 a1_8, .int .i64 a1_9, .int .i64 a1_10, .int .i64 a1_11, .int .i64 a1_12, .int .i64 a1_13, .int .i64 a1_14, .int .i64 a1_15, .int .i64 a1_16, .int .i64 a1_17, .int .i64 a1_18, .int .i64 a1_19, .int .i64 a1_20] 55 (0, 0)) Gv.bk k_ hk)); (case aO => exact (Gv.kr HO_6.out)); (case aS => exact (below_size Gv.bw)); (case aL => have := LMc25.out; omega); intro v275 w27 ho hb hg hat; rw [← Ny274.out] at ho; have n0_ := Gv.a0 (blk_grown (g := gb262) (o := .cells #[.int .i64 a1_0, .int .i64 a1_1, .int .i64 a1_2, .int .i64 a1_3, .int .i64 a1_4, .int .i64 a1_5, .int .i64 a1_6, .int .i64 a1_7, .int .i64 a1_8, .int .i64 a1_9, .int .i64 a1_10, .int .i64 a1_11, .int .i64 a1_12, .int .i64 a1_13, .int .i64 a1_14, .int .i64 a1_15, .int .i64 a1_16, .int .i64 a1_17, .int .i64 a1_18, .int .i64 a1_19, .int .i64 a1_20] 55 (0, 0)) Gv.bk hg (Kd.R_away HO_6.out (fun _ hk => hk))); have n1_ := Gv.a0 (hb); have n2_ := Gv.a0 (ho); clear BK262; clear HB; clear HO_6; have BK262 := n0_; have HB := n1_; have HO276 := n2_; clear n0_ n1_ n2_; clear ho hb hg hat) | ((with_reducible refine Gv.gate_load (t := 55) rfl ?_); (try (refine gate_guard (by rfl) ?_; dsimp only)); refine wpList_load_row rfl 55 _ rfl gb262 rfl 55 _ _ _ (by first | exact Gv.kb0 BK262.out | exact Gv.kb1 (Gv.kb0 BK262.out)) Try.underlying55 rfl (by kernel_rfl) ?_) | ((with_reducible refine Gv.gate_load (t := 55) rfl ?_); refine Gv.load_event (cs := [_, _, _, _, _, _, _, _, _, _, _, _, _, _, _, _, _, _, _, _, _]) rfl rfl rfl ⟨hx269_0, hx269_1, hx269_2, hx269_3, hx269_4, hx269_5, hx269_6, hx269_7, hx269_8, hx269_9, hx269_10, hx269_11, hx269_12, hx269_13, hx269_14, hx269_15, hx269_16, hx269_17, hx269_18, hx269_19, hx269_20, trivial⟩ Try.underlying55 rfl (by kernel_rfl) ?_))
         repeat (go_quiet (first | ((with_reducible refine gate_builtin (b := .append) (xs := #[.tmp 50, .tmp 52]) rfl ?_); at_builtin; refine Kd.R_append k55 (w0 := w) w.heap.size rfl (.tmp 50) (.tmp 52) 25 55 (.agg #[(.int .i64 0), (.int .i64 0), (.int .i64 0), (.int .i64 0), (.int .i64 0), (.int .i64 0), (.int .i64 0), (.int .i64 0), (.int .i64 0), (.int .i64 0), (.int .i64 0), (.int .i64 0), (.int .i64 0), (.int .i64 0), (.int .i64 0), (.int .i64 0), (.int .i64 0), (.int .i64 0), (.int .i64 0), (.int .i64 0), (.int .i64 0)]) 168 rfl Try.underlying25 info55 rfl (by decide) (by omega) u6 x6_2 (⟨a1_0, (⟨(⟨a1_1, a1_2, a1_3, a1_4, a1_5⟩ : S34), a1_6⟩ : S53), (⟨(⟨a1_7, a1_8, a1_9, a1_10, a1_11⟩ : S34), a1_12⟩ : S53), a1_13, a1_14, a1_15, a1_16, a1_17, a1_18, a1_19, a1_20⟩ : S55) [.int .i64 a1_0, .int .i64 a1_1, .int .i64 a1_2, .int .i64 a1_3, .int .i64 a1_4, .int .i64 a1_5, .int .i64 a1_6, .int .i64 a1_7, .int .i64 a1_8, .int .i64 a1_9, .int .i64 a1_10, .int .i64 a1_11, .int .i64 a1_12, .int .i64 a1_13, .int .i64 a1_14, .int .i64 a1_15, .int .i64 a1_16, .int .i64 a1_17, .int .i64 a1_18, .int .i64 a1_19, .int .i64 a1_20] (fun k_ => k_ ≠ gb262) (fun _ => False) rfl rfl ?aP (fun _ hk => hk.elim) ?aF ?aO ?aB ?aS ?aL ?_; (case aP => exact k55_mkM _ _ _ (⟨a1_0, (⟨(⟨a1_1, a1_2, a1_3, a1_4, a1_5⟩ : S34), a1_6⟩ : S53), (⟨(⟨a1_7, a1_8, a1_9, a1_10, a1_11⟩ : S34), a1_12⟩ : S53), a1_13, a1_14, a1_15, a1_16, a1_17, a1_18, a1_19, a1_20⟩ : S55)); (case aB => exact Gv.bw); (case aF => exact (fun k_ hk => Kd.freshB (g := gb262) (o := .cells #[.int .i64 a1_0, .int .i64 a1_1, .int .i64 a1_2, .int .i64 a1_3, .int .i64 a1_4, .int .i64 a1_5, .int .i64 a1_6, .int .i64 a1_7, .int .i64 a1_8, .int .i64 a1_9, .int .i64 a1_10, .int .i64 a1_11, .int .i64 a1_12, .int .i64 a1_13, .int .i64 a1_14, .int .i64 a1_15, .int .i64 a1_16, .int .i64 a1_17, .int .i64 a1_18, .int .i64 a1_19, .int .i64 a1_20] 55 (0, 0)) Gv.bk k_ hk)); (case aO => exact (Gv.kr HO_6.out)); (case aS => exact (below_size Gv.bw)); (case aL => have := LMc25.out; omega); intro v275 w27 ho hb hg hat; rw [← Ny274.out] at ho; have n0_ := Gv.a0 (blk_grown (g := gb262) (o := .cells #[.int .i64 a1_0, .int .i64 a1_1, .int .i64 a1_2, .int .i64 a1_3, .int .i64 a1_4, .int .i64 a1_5, .int .i64 a1_6, .int .i64 a1_7, .int .i64 a1_8, .int .i64 a1_9, .int .i64 a1_10, .int .i64 a1_11, .int .i64 a1_12, .int .i64 a1_13, .int .i64 a1_14, .int .i64 a1_15, .int .i64 a1_16, .int .i64 a1_17, .int .i64 a1_18, .int .i64 a1_19, .int .i64 a1_20] 55 (0, 0)) Gv.bk hg (Kd.R_away HO_6.out (fun _ hk => hk))); have n1_ := Gv.a0 (hb); have n2_ := Gv.a0 (ho); clear BK262; clear HB; clear HO_6; have BK262 := n0_; have HB := n1_; have HO276 := n2_; clear n0_ n1_ n2_; clear ho hb hg hat) | ((with_reducible refine Gv.gate_load (t := 55) rfl ?_); (try (refine gate_guard (by rfl) ?_; dsimp only)); refine wpList_load_row rfl 55 _ rfl gb262 rfl 55 _ _ _ (by first | exact Gv.kb0 BK262.out | exact Gv.kb1 (Gv.kb0 BK262.out)) Try.underlying55 rfl (by kernel_rfl) ?_) | ((with_reducible refine Gv.gate_load (t := 55) rfl ?_); refine Gv.load_event (cs := [_, _, _, _, _, _, _, _, _, _, _, _, _, _, _, _, _, _, _, _, _]) rfl rfl rfl ⟨hx269_0, hx269_1, hx269_2, hx269_3, hx269_4, hx269_5, hx269_6, hx269_7, hx269_8, hx269_9, hx269_10, hx269_11, hx269_12, hx269_13, hx269_14, hx269_15, hx269_16, hx269_17, hx269_18, hx269_19, hx269_20, trivial⟩ Try.underlying55 rfl (by kernel_rfl) ?_)); try go_wp2_with (first | ((with_reducible refine gate_builtin (b := .append) (xs := #[.tmp 50, .tmp 52]) rfl ?_); at_builtin; refine Kd.R_append k55 (w0 := w) w.heap.size rfl (.tmp 50) (.tmp 52) 25 55 (.agg #[(.int .i64 0), (.int .i64 0), (.int .i64 0), (.int .i64 0), (.int .i64 0), (.int .i64 0), (.int .i64 0), (.int .i64 0), (.int .i64 0), (.int .i64 0), (.int .i64 0), (.int .i64 0), (.int .i64 0), (.int .i64 0), (.int .i64 0), (.int .i64 0), (.int .i64 0), (.int .i64 0), (.int .i64 0), (.int .i64 0), (.int .i64 0)]) 168 rfl Try.underlying25 info55 rfl (by decide) (by omega) u6 x6_2 (⟨a1_0, (⟨(⟨a1_1, a1_2, a1_3, a1_4, a1_5⟩ : S34), a1_6⟩ : S53), (⟨(⟨a1_7, a1_8, a1_9, a1_10, a1_11⟩ : S34), a1_12⟩ : S53), a1_13, a1_14, a1_15, a1_16, a1_17, a1_18, a1_19, a1_20⟩ : S55) [.int .i64 a1_0, .int .i64 a1_1, .int .i64 a1_2, .int .i64 a1_3, .int .i64 a1_4, .int .i64 a1_5, .int .i64 a1_6, .int .i64 a1_7, .int .i64 a1_8, .int .i64 a1_9, .int .i64 a1_10, .int .i64 a1_11, .int .i64 a1_12, .int .i64 a1_13, .int .i64 a1_14, .int .i64 a1_15, .int .i64 a1_16, .int .i64 a1_17, .int .i64 a1_18, .int .i64 a1_19, .int .i64 a1_20] (fun k_ => k_ ≠ gb262) (fun _ => False) rfl rfl ?aP (fun _ hk => hk.elim) ?aF ?aO ?aB ?aS ?aL ?_; (case aP => exact k55_mkM _ _ _ (⟨a1_0, (⟨(⟨a1_1, a1_2, a1_3, a1_4, a1_5⟩ : S34), a1_6⟩ : S53), (⟨(⟨a1_7, a1_8, a1_9, a1_10, a1_11⟩ : S34), a1_12⟩ : S53), a1_13, a1_14, a1_15, a1_16, a1_17, a1_18, a1_19, a1_20⟩ : S55)); (case aB => exact Gv.bw); (case aF => exact (fun k_ hk => Kd.freshB (g := gb262) (o := .cells #[.int .i64 a1_0, .int .i64 a1_1, .int .i64 a1_2, .int .i64 a1_3, .int .i64 a1_4, .int .i64 a1_5, .int .i64 a1_6, .int .i64 a1_7, .int .i64 a1_8, .int .i64 a1_9, .int .i64 a1_10, .int .i64 a1_11, .int .i64 a1_12, .int .i64 a1_13, .int .i64 a1_14, .int .i64 a1_15, .int .i64 a1_16, .int .i64 a1_17, .int .i64 a1_18, .int .i64 a1_19, .int .i64 a1_20] 55 (0, 0)) Gv.bk k_ hk)); (case aO => exact (Gv.kr HO_6.out)); (case aS => exact (below_size Gv.bw)); (case aL => have := LMc25.out; omega); intro v275 w27 ho hb hg hat; rw [← Ny274.out] at ho; have n0_ := Gv.a0 (blk_grown (g := gb262) (o := .cells #[.int .i64 a1_0, .int .i64 a1_1, .int .i64 a1_2, .int .i64 a1_3, .int .i64 a1_4, .int .i64 a1_5, .int .i64 a1_6, .int .i64 a1_7, .int .i64 a1_8, .int .i64 a1_9, .int .i64 a1_10, .int .i64 a1_11, .int .i64 a1_12, .int .i64 a1_13, .int .i64 a1_14, .int .i64 a1_15, .int .i64 a1_16, .int .i64 a1_17, .int .i64 a1_18, .int .i64 a1_19, .int .i64 a1_20] 55 (0, 0)) Gv.bk hg (Kd.R_away HO_6.out (fun _ hk => hk))); have n1_ := Gv.a0 (hb); have n2_ := Gv.a0 (ho); clear BK262; clear HB; clear HO_6; have BK262 := n0_; have HB := n1_; have HO276 := n2_; clear n0_ n1_ n2_; clear ho hb hg hat) | ((with_reducible refine Gv.gate_load (t := 55) rfl ?_); (try (refine gate_guard (by rfl) ?_; dsimp only)); refine wpList_load_row rfl 55 _ rfl gb262 rfl 55 _ _ _ (by first | exact Gv.kb0 BK262.out | exact Gv.kb1 (Gv.kb0 BK262.out)) Try.underlying55 rfl (by kernel_rfl) ?_) | ((with_reducible refine Gv.gate_load (t := 55) rfl ?_); refine Gv.load_event (cs := [_, _, _, _, _, _, _, _, _, _, _, _, _, _, _, _, _, _, _, _, _]) rfl rfl rfl ⟨hx269_0, hx269_1, hx269_2, hx269_3, hx269_4, hx269_5, hx269_6, hx269_7, hx269_8, hx269_9, hx269_10, hx269_11, hx269_12, hx269_13, hx269_14, hx269_15, hx269_16, hx269_17, hx269_18, hx269_19, hx269_20, trivial⟩ Try.underlying55 rfl (by kernel_rfl) ?_)))
         go_loopg [6, 8] k2 (fun kq v6 v8 w' => ∃ (x6_3 : List (S55)) (x8_3 : Int), v8 = .int .i64 x8_3 ∧ Aside0 (spec_RuleAdd.l1 kq l0 x6_3 x8_3 a1_0 a1_1 a1_2 a1_3 a1_4 a1_5 a1_6 a1_7 a1_8 a1_9 a1_10 a1_11 a1_12 a1_13 a1_14 a1_15 a1_16 a1_17 a1_18 a1_19 a1_20 = some (r1, r2)) ∧ Aside0 (kq ≤ k2) ∧ Aside0 (Kd.R k55 55 w' w.heap.size (fun k_ => k_ ≠ gb262) v6 x6_3) ∧ Aside0 (w'.heap[gb262]? = some (.cells #[.int .i64 a1_0, .int .i64 a1_1, .int .i64 a1_2, .int .i64 a1_3, .int .i64 a1_4, .int .i64 a1_5, .int .i64 a1_6, .int .i64 a1_7, .int .i64 a1_8, .int .i64 a1_9, .int .i64 a1_10, .int .i64 a1_11, .int .i64 a1_12, .int .i64 a1_13, .int .i64 a1_14, .int .i64 a1_15, .int .i64 a1_16, .int .i64 a1_17, .int .i64 a1_18, .int .i64 a1_19, .int .i64 a1_20] 55 (0, 0))) ∧ Aside0 (Below w.heap.size w w'))
         case atStart => exact ⟨(y274), (0), Gv.rq, H', ⟨Nat.le_refl _⟩, ⟨Gv.kr HO276.out⟩, ⟨by (with_reducible repeat (first | refine blk_drewN ?_ _ | refine blk_drew ?_ | refine blk_alloc ?_ _)); exact BK262.out⟩, ⟨Gv.bw⟩⟩
         case round =>
          clear H'
          try clear c1
          try clear c2
          try clear p2
          try clear q2
          try clear hx2
          try clear c6
          try clear p6
          try clear c12
          try clear c15
          try clear c15b0
          try clear c16
          try clear c16b0
          try clear c17
          try clear c17b0
          try clear c17b1
          try clear c19
          try clear c19b0
          try clear c20
          try clear c24
          try clear c24b0
          try clear c24b1
          try clear c25
          try clear p26
          try clear q26
          try clear hx26
          try clear p27
          try clear q27
          try clear hx27
          try clear hcz18_0 hcz18_1
          try clear hcz18_10 hcz18_11 hcz18_12 hcz18_13 hcz18_14 hcz18_15 hcz18_16 hcz18_17 hcz18_18 hcz18_19
          try clear hcz18_2
          try clear hcz18_20
          try clear hcz18_3 hcz18_4 hcz18_5 hcz18_6 hcz18_7 hcz18_8 hcz18_9
          try clear hcz21_0 hcz21_1
          try clear hcz21_10 hcz21_11 hcz21_12 hcz21_13 hcz21_14 hcz21_15 hcz21_16 hcz21_17 hcz21_18 hcz21_19
          try clear hcz21_2
          try clear hcz21_20
          try clear hcz21_3 hcz21_4 hcz21_5 hcz21_6 hcz21_7 hcz21_8 hcz21_9
          try clear hcz23_0 hcz23_1
          try clear hcz23_10 hcz23_11 hcz23_12 hcz23_13 hcz23_14 hcz23_15 hcz23_16 hcz23_17 hcz23_18 hcz23_19
          try clear hcz23_2
          try clear hcz23_20
          try clear hcz23_3 hcz23_4 hcz23_5 hcz23_6 hcz23_7 hcz23_8 hcz23_9
          try clear hcz26_0 hcz26_1
          try clear hcz26_10 hcz26_11 hcz26_12 hcz26_13 hcz26_14 hcz26_15 hcz26_16 hcz26_17 hcz26_18 hcz26_19
          try clear hcz26_2
          try clear hcz26_20
          try clear hcz26_3 hcz26_4 hcz26_5 hcz26_6 hcz26_7 hcz26_8 hcz26_9
          try clear hcz9_0 hcz9_1
          try clear hcz9_10 hcz9_11 hcz9_12 hcz9_13 hcz9_14 hcz9_15 hcz9_16 hcz9_17 hcz9_18 hcz9_19
          try clear hcz9_2
          try clear hcz9_20
          try clear hcz9_3 hcz9_4 hcz9_5 hcz9_6 hcz9_7 hcz9_8 hcz9_9
          try clear hx268_0
          try clear hx268_1
          try clear hx268_10
          try clear hx268_11
          try clear hx268_12
          try clear hx268_13
          try clear hx268_14
          try clear hx268_15
          try clear hx268_16
          try clear hx268_17
          try clear hx268_18
          try clear hx268_19
          try clear hx268_2
          try clear hx268_20
          try clear hx268_3
          try clear hx268_4
          try clear hx268_5
          try clear hx268_6
          try clear hx268_7
          try clear hx268_8
          try clear hx268_9
          try clear hx269_0
          try clear hx269_1
          try clear hx269_10
          try clear hx269_11
          try clear hx269_12
          try clear hx269_13
          try clear hx269_14
          try clear hx269_15
          try clear hx269_16
          try clear hx269_17
          try clear hx269_18
          try clear hx269_19
          try clear hx269_2
          try clear hx269_20
          try clear hx269_3
          try clear hx269_4
          try clear hx269_5
          try clear hx269_6
          try clear hx269_7
          try clear hx269_8
          try clear hx269_9
          try clear hx270_0
          try clear hx270_1
          try clear hx270_10
          try clear hx270_11
          try clear hx270_12
          try clear hx270_13
          try clear hx270_14
          try clear hx270_15
          try clear hx270_16
          try clear hx270_17
          try clear hx270_18
          try clear hx270_19
          try clear hx270_2
          try clear hx270_20
          try clear hx270_3
          try clear hx270_4
          try clear hx270_5
          try clear hx270_6
          try clear hx270_7
          try clear hx270_8
          try clear hx270_9
          try clear p2
          try clear p268
          try clear p269
          try clear p270
          try clear q268
          try clear q269
          try clear q270
          obtain ⟨x6_3, x8_3, rfl, HA, HK3, HO_6, BK262, HB⟩ := hrel
          cases gk with
          | zero => exact absurd HA.out (by simp [spec_RuleAdd.l1])
          | succ k3 =>
           have H := HA.out
           clear HA
           simp only [spec_RuleAdd.l1] at H
           by_cases c28 : x8_3 < (l0.length : Int)
           ·rw [if_pos c28] at H
            have c28b0 : decide (x8_3 < (l0.length : Int)) = true := decide_eq_true c28
            clear c28
            by_cases c29 : 0 ≤ x8_3
            ·rw [if_pos c29] at H
             have c29b0 : decide (0 ≤ x8_3) = true := decide_eq_true c29
             clear c29
             by_cases c30 : ((rd_T55 l0 x8_3).f0) > a1_0
             ·rw [if_pos c30] at H
              have c30b0 : decide (a1_0 < ((rd_T55 l0 x8_3).f0)) = true := decide_eq_true c30
              clear c30
              by_cases c31 : x6_3.length < 837723144972
              ·rw [if_pos c31] at H
               have LMc31 := Gv.a0 c31
               clear c31
               obtain ⟨y279, hy279⟩ : ∃ y_ : List (S55), y_ = (x6_3 ++ [(⟨(rd_T55 l0 x8_3).f0, (⟨(⟨(rd_T55 l0 x8_3).f1.f0.f0, (rd_T55 l0 x8_3).f1.f0.f1, (rd_T55 l0 x8_3).f1.f0.f2, (rd_T55 l0 x8_3).f1.f0.f3, (rd_T55 l0 x8_3).f1.f0.f4⟩ : S34), (rd_T55 l0 x8_3).f1.f1⟩ : S53), (⟨(⟨(rd_T55 l0 x8_3).f2.f0.f0, (rd_T55 l0 x8_3).f2.f0.f1, (rd_T55 l0 x8_3).f2.f0.f2, (rd_T55 l0 x8_3).f2.f0.f3, (rd_T55 l0 x8_3).f2.f0.f4⟩ : S34), (rd_T55 l0 x8_3).f2.f1⟩ : S53), (rd_T55 l0 x8_3).f3, (rd_T55 l0 x8_3).f4, (rd_T55 l0 x8_3).f5, (rd_T55 l0 x8_3).f6, (rd_T55 l0 x8_3).f7, (rd_T55 l0 x8_3).f8, (rd_T55 l0 x8_3).f9, (rd_T55 l0 x8_3).f10⟩ : S55)]) := ⟨_, rfl⟩
               replace H : (spec_RuleAdd.l1 k3 l0 y279 (wrap64 (x8_3 + 1)) a1_0 a1_1 a1_2 a1_3 a1_4 a1_5 a1_6 a1_7 a1_8 a1_9 a1_10 a1_11 a1_12 a1_13 a1_14 a1_15 a1_16 a1_17 a1_18 a1_19 a1_20) = some (r1, r2) := by first | (rw [hy279]; with_reducible exact H) | (have H2_ := (Option.bind_some _ _).symm.trans H; rw [hy279]; with_reducible exact H2_) | (have H2_ := (Option.bind_some _ _).symm.trans H; with_reducible exact H2_) | with_reducible exact H | (rw [hy279]; exact H) | exact H
               have Ny279 := Gv.a0 hy279
               clear hy279
               have H' := Gv.a0 H
               clear H
               have p277 : 0 ≤ (x8_3 : Int) := of_decide_eq_true (by first | (with_reducible assumption) | assumption)
               have q277 : x8_3 < (l0.length : Int) := of_decide_eq_true (by first | (with_reducible assumption) | assumption)
               obtain ⟨ad277, e277, hx277_0, _, _, _, _, _, _, _, _, _, _, _, _, _, _, _, _, _, _, _, _⟩ := at_T55 HR0.out x8_3 p277 q277
               cases e277
               replace hx277_0 := Gv.bx HB.out hx277_0
               replace p277 := eq_true p277
               replace q277 := eq_true q277
               obtain ⟨hcz32_0, hcz32_1, hcz32_2, hcz32_3, hcz32_4, hcz32_5, hcz32_6, hcz32_7, hcz32_8, hcz32_9, hcz32_10, hcz32_11, hcz32_12, hcz32_13, hcz32_14, hcz32_15, hcz32_16, hcz32_17, hcz32_18, hcz32_19, hcz32_20⟩ := Gv.c21 BK262.out
               have p278 : 0 ≤ (x8_3 : Int) := of_decide_eq_true (by first | (with_reducible assumption) | assumption)
               have q278 : x8_3 < (l0.length : Int) := of_decide_eq_true (by first | (with_reducible assumption) | assumption)
               obtain ⟨ad278, e278, hx278_0, hx278_1, hx278_2, hx278_3, hx278_4, hx278_5, hx278_6, hx278_7, hx278_8, hx278_9, hx278_10, hx278_11, hx278_12, hx278_13, hx278_14, hx278_15, hx278_16, hx278_17, hx278_18, hx278_19, hx278_20⟩ := at_T55 HR0.out x8_3 p278 q278
               obtain rfl : ad277 = ad278 := (by injection e278)
               replace hx278_0 := Gv.bx HB.out hx278_0
               replace hx278_1 := Gv.bx HB.out hx278_1
               replace hx278_2 := Gv.bx HB.out hx278_2
               replace hx278_3 := Gv.bx HB.out hx278_3
               replace hx278_4 := Gv.bx HB.out hx278_4
               replace hx278_5 := Gv.bx HB.out hx278_5
               replace hx278_6 := Gv.bx HB.out hx278_6
               replace hx278_7 := Gv.bx HB.out hx278_7
               replace hx278_8 := Gv.bx HB.out hx278_8
               replace hx278_9 := Gv.bx HB.out hx278_9
               replace hx278_10 := Gv.bx HB.out hx278_10
               replace hx278_11 := Gv.bx HB.out hx278_11
               replace hx278_12 := Gv.bx HB.out hx278_12
               replace hx278_13 := Gv.bx HB.out hx278_13
               replace hx278_14 := Gv.bx HB.out hx278_14
               replace hx278_15 := Gv.bx HB.out hx278_15
               replace hx278_16 := Gv.bx HB.out hx278_16
               replace hx278_17 := Gv.bx HB.out hx278_17
               replace hx278_18 := Gv.bx HB.out hx278_18
               replace hx278_19 := Gv.bx HB.out hx278_19
               replace hx278_20 := Gv.bx HB.out hx278_20
               replace p278 := eq_true p278
               replace q278 := eq_true q278
               go_wp2_with (first | ((with_reducible refine gate_builtin (b := .append) (xs := #[.tmp 68, .tmp 73]) rfl ?_); at_builtin; refine Kd.R_append k55 (w0 := w) w.heap.size rfl (.tmp 68) (.tmp 73) 25 55 (.agg #[(.int .i64 0), (.int .i64 0), (.int .i64 0), (.int .i64 0), (.int .i64 0), (.int .i64 0), (.int .i64 0), (.int .i64 0), (.int .i64 0), (.int .i64 0), (.int .i64 0), (.int .i64 0), (.int .i64 0), (.int .i64 0), (.int .i64 0), (.int .i64 0), (.int .i64 0), (.int .i64 0), (.int .i64 0), (.int .i64 0), (.int .i64 0)]) 168 rfl Try.underlying25 info55 rfl (by decide) (by omega) u6 x6_3 (⟨(rd_T55 l0 x8_3).f0, (⟨(⟨(rd_T55 l0 x8_3).f1.f0.f0, (rd_T55 l0 x8_3).f1.f0.f1, (rd_T55 l0 x8_3).f1.f0.f2, (rd_T55 l0 x8_3).f1.f0.f3, (rd_T55 l0 x8_3).f1.f0.f4⟩ : S34), (rd_T55 l0 x8_3).f1.f1⟩ : S53), (⟨(⟨(rd_T55 l0 x8_3).f2.f0.f0, (rd_T55 l0 x8_3).f2.f0.f1, (rd_T55 l0 x8_3).f2.f0.f2, (rd_T55 l0 x8_3).f2.f0.f3, (rd_T55 l0 x8_3).f2.f0.f4⟩ : S34), (rd_T55 l0 x8_3).f2.f1⟩ : S53), (rd_T55 l0 x8_3).f3, (rd_T55 l0 x8_3).f4, (rd_T55 l0 x8_3).f5, (rd_T55 l0 x8_3).f6, (rd_T55 l0 x8_3).f7, (rd_T55 l0 x8_3).f8, (rd_T55 l0 x8_3).f9, (rd_T55 l0 x8_3).f10⟩ : S55) [.int .i64 ((rd_T55 l0 x8_3).f0), .int .i64 ((rd_T55 l0 x8_3).f1.f0.f0), .int .i64 ((rd_T55 l0 x8_3).f1.f0.f1), .int .i64 ((rd_T55 l0 x8_3).f1.f0.f2), .int .i64 ((rd_T55 l0 x8_3).f1.f0.f3), .int .i64 ((rd_T55 l0 x8_3).f1.f0.f4), .int .i64 ((rd_T55 l0 x8_3).f1.f1), .int .i64 ((rd_T55 l0 x8_3).f2.f0.f0), .int .i64 ((rd_T55 l0 x8_3).f2.f0.f1), .int .i64 ((rd_T55 l0 x8_3).f2.f0.f2), .int .i64 ((rd_T55 l0 x8_3).f2.f0.f3), .int .i64 ((rd_T55 l0 x8_3).f2.f0.f4), .int .i64 ((rd_T55 l0 x8_3).f2.f1), .int .i64 ((rd_T55 l0 x8_3).f3), .int .i64 ((rd_T55 l0 x8_3).f4), .int .i64 ((rd_T55 l0 x8_3).f5), .int .i64 ((rd_T55 l0 x8_3).f6), .int .i64 ((rd_T55 l0 x8_3).f7), .int .i64 ((rd_T55 l0 x8_3).f8), .int .i64 ((rd_T55 l0 x8_3).f9), .int .i64 ((rd_T55 l0 x8_3).f10)] (fun k_ => k_ ≠ gb262) (fun _ => False) rfl rfl ?aP (fun _ hk => hk.elim) ?aF ?aO ?aB ?aS ?aL ?_; (case aP => exact k55_mkM _ _ _ (⟨(rd_T55 l0 x8_3).f0, (⟨(⟨(rd_T55 l0 x8_3).f1.f0.f0, (rd_T55 l0 x8_3).f1.f0.f1, (rd_T55 l0 x8_3).f1.f0.f2, (rd_T55 l0 x8_3).f1.f0.f3, (rd_T55 l0 x8_3).f1.f0.f4⟩ : S34), (rd_T55 l0 x8_3).f1.f1⟩ : S53), (⟨(⟨(rd_T55 l0 x8_3).f2.f0.f0, (rd_T55 l0 x8_3).f2.f0.f1, (rd_T55 l0 x8_3).f2.f0.f2, (rd_T55 l0 x8_3).f2.f0.f3, (rd_T55 l0 x8_3).f2.f0.f4⟩ : S34), (rd_T55 l0 x8_3).f2.f1⟩ : S53), (rd_T55 l0 x8_3).f3, (rd_T55 l0 x8_3).f4, (rd_T55 l0 x8_3).f5, (rd_T55 l0 x8_3).f6, (rd_T55 l0 x8_3).f7, (rd_T55 l0 x8_3).f8, (rd_T55 l0 x8_3).f9, (rd_T55 l0 x8_3).f10⟩ : S55)); (case aB => exact Gv.bw); (case aF => exact (fun k_ hk => Kd.freshB (g := gb262) (o := .cells #[.int .i64 a1_0, .int .i64 a1_1, .int .i64 a1_2, .int .i64 a1_3, .int .i64 a1_4, .int .i64 a1_5, .int .i64 a1_6, .int .i64 a1_7, .int .i64 a1_8, .int .i64 a1_9, .int .i64 a1_10, .int .i64 a1_11, .int .i64 a1_12, .int .i64 a1_13, .int .i64 a1_14, .int .i64 a1_15, .int .i64 a1_16, .int .i64 a1_17, .int .i64 a1_18, .int .i64 a1_19, .int .i64 a1_20] 55 (0, 0)) Gv.bk k_ hk)); (case aO => exact (Gv.kr HO_6.out)); (case aS => exact (below_size Gv.bw)); (case aL => have := LMc31.out; omega); intro v280 w33 ho hb hg hat; rw [← Ny279.out] at ho; have n0_ := Gv.a0 (blk_grown (g := gb262) (o := .cells #[.int .i64 a1_0, .int .i64 a1_1, .int .i64 a1_2, .int .i64 a1_3, .int .i64 a1_4, .int .i64 a1_5, .int .i64 a1_6, .int .i64 a1_7, .int .i64 a1_8, .int .i64 a1_9, .int .i64 a1_10, .int .i64 a1_11, .int .i64 a1_12, .int .i64 a1_13, .int .i64 a1_14, .int .i64 a1_15, .int .i64 a1_16, .int .i64 a1_17, .int .i64 a1_18, .int .i64 a1_19, .int .i64 a1_20] 55 (0, 0)) Gv.bk hg (Kd.R_away HO_6.out (fun _ hk => hk))); have n1_ := Gv.a0 (hb); have n2_ := Gv.a0 (ho); clear BK262; clear HB; clear HO_6; have BK262 := n0_; have HB := n1_; have HO281 := n2_; clear n0_ n1_ n2_; clear ho hb hg hat) | ((with_reducible refine Gv.gate_load (t := 55) rfl ?_); (try (refine gate_guard (by rfl) ?_; dsimp only)); refine wpList_load_row rfl 55 _ rfl gb262 rfl 55 _ _ _ (by first | exact Gv.kb0 BK262.out | exact Gv.kb1 (Gv.kb0 BK262.out)) Try.underlying55 rfl (by kernel_rfl) ?_) | ((with_reducible refine Gv.gate_load (t := 55) rfl ?_); refine Gv.load_event (cs := [_, _, _, _, _, _, _, _, _, _, _, _, _, _, _, _, _, _, _, _, _]) rfl rfl rfl ⟨hx278_0, hx278_1, hx278_2, hx278_3, hx278_4, hx278_5, hx278_6, hx278_7, hx278_8, hx278_9, hx278_10, hx278_11, hx278_12, hx278_13, hx278_14, hx278_15, hx278_16, hx278_17, hx278_18, hx278_19, hx278_20, trivial⟩ Try.underlying55 rfl (by kernel_rfl) ?_))
               repeat (go_quiet (first | ((with_reducible refine gate_builtin (b := .append) (xs := #[.tmp 68, .tmp 73]) rfl ?_); at_builtin; refine Kd.R_append k55 (w0 := w) w.heap.size rfl (.tmp 68) (.tmp 73) 25 55 (.agg #[(.int .i64 0), (.int .i64 0), (.int .i64 0), (.int .i64 0), (.int .i64 0), (.int .i64 0), (.int .i64 0), (.int .i64 0), (.int .i64 0), (.int .i64 0), (.int .i64 0), (.int .i64 0), (.int .i64 0), (.int .i64 0), (.int .i64 0), (.int .i64 0), (.int .i64 0), (.int .i64 0), (.int .i64 0), (.int .i64 0), (.int .i64 0)]) 168 rfl Try.underlying25 info55 rfl (by decide) (by omega) u6 x6_3 (⟨(rd_T55 l0 x8_3).f0, (⟨(⟨(rd_T55 l0 x8_3).f1.f0.f0, (rd_T55 l0 x8_3).f1.f0.f1, (rd_T55 l0 x8_3).f1.f0.f2, (rd_T55 l0 x8_3).f1.f0.f3, (rd_T55 l0 x8_3).f1.f0.f4⟩ : S34), (rd_T55 l0 x8_3).f1.f1⟩ : S53), (⟨(⟨(rd_T55 l0 x8_3).f2.f0.f0, (rd_T55 l0 x8_3).f2.f0.f1, (rd_T55 l0 x8_3).f2.f0.f2, (rd_T55 l0 x8_3).f2.f0.f3, (rd_T55 l0 x8_3).f2.f0.f4⟩ : S34), (rd_T55 l0 x8_3).f2.f1⟩ : S53), (rd_T55 l0 x8_3).f3, (rd_T55 l0 x8_3).f4, (rd_T55 l0 x8_3).f5, (rd_T55 l0 x8_3).f6, (rd_T55 l0 x8_3).f7, (rd_T55 l0 x8_3).f8, (rd_T55 l0 x8_3).f9, (rd_T55 l0 x8_3).f10⟩ : S55) [.int .i64 ((rd_T55 l0 x8_3).f0), .int .i64 ((rd_T55 l0 x8_3).f1.f0.f0), .int .i64 ((rd_T55 l0 x8_3).f1.f0.f1), .int .i64 ((rd_T55 l0 x8_3).f1.f0.f2), .int .i64 ((rd_T55 l0 x8_3).f1.f0.f3), .int .i64 ((rd_T55 l0 x8_3).f1.f0.f4), .int .i64 ((rd_T55 l0 x8_3).f1.f1), .int .i64 ((rd_T55 l0 x8_3).f2.f0.f0), .int .i64 ((rd_T55 l0 x8_3).f2.f0.f1), .int .i64 ((rd_T55 l0 x8_3).f2.f0.f2), .int .i64 ((rd_T55 l0 x8_3).f2.f0.f3), .int .i64 ((rd_T55 l0 x8_3).f2.f0.f4), .int .i64 ((rd_T55 l0 x8_3).f2.f1), .int .i64 ((rd_T55 l0 x8_3).f3), .int .i64 ((rd_T55 l0 x8_3).f4), .int .i64 ((rd_T55 l0 x8_3).f5), .int .i64 ((rd_T55 l0 x8_3).f6), .int .i64 ((rd_T55 l0 x8_3).f7), .int .i64 ((rd_T55 l0 x8_3).f8), .int .i64 ((rd_T55 l0 x8_3).f9), .int .i64 ((rd_T55 l0 x8_3).f10)] (fun k_ => k_ ≠ gb262) (fun _ => False) rfl rfl ?aP (fun _ hk => hk.elim) ?aF ?aO ?aB ?aS ?aL ?_; (case aP => exact k55_mkM _ _ _ (⟨(rd_T55 l0 x8_3).f0, (⟨(⟨(rd_T55 l0 x8_3).f1.f0.f0, (rd_T55 l0 x8_3).f1.f0.f1, (rd_T55 l0 x8_3).f1.f0.f2, (rd_T55 l0 x8_3).f1.f0.f3, (rd_T55 l0 x8_3).f1.f0.f4⟩ : S34), (rd_T55 l0 x8_3).f1.f1⟩ : S53), (⟨(⟨(rd_T55 l0 x8_3).f2.f0.f0, (rd_T55 l0 x8_3).f2.f0.f1, (rd_T55 l0 x8_3).f2.f0.f2, (rd_T55 l0 x8_3).f2.f0.f3, (rd_T55 l0 x8_3).f2.f0.f4⟩ : S34), (rd_T55 l0 x8_3).f2.f1⟩ : S53), (rd_T55 l0 x8_3).f3, (rd_T55 l0 x8_3).f4, (rd_T55 l0 x8_3).f5, (rd_T55 l0 x8_3).f6, (rd_T55 l0 x8_3).f7, (rd_T55 l0 x8_3).f8, (rd_T55 l0 x8_3).f9, (rd_T55 l0 x8_3).f10⟩ : S55)); (case aB => exact Gv.bw); (case aF => exact (fun k_ hk => Kd.freshB (g := gb262) (o := .cells #[.int .i64 a1_0, .int .i64 a1_1, .int .i64 a1_2, .int .i64 a1_3, .int .i64 a1_4, .int .i64 a1_5, .int .i64 a1_6, .int .i64 a1_7, .int .i64 a1_8, .int .i64 a1_9, .int .i64 a1_10, .int .i64 a1_11, .int .i64 a1_12, .int .i64 a1_13, .int .i64 a1_14, .int .i64 a1_15, .int .i64 a1_16, .int .i64 a1_17, .int .i64 a1_18, .int .i64 a1_19, .int .i64 a1_20] 55 (0, 0)) Gv.bk k_ hk)); (case aO => exact (Gv.kr HO_6.out)); (case aS => exact (below_size Gv.bw)); (case aL => have := LMc31.out; omega); intro v280 w33 ho hb hg hat; rw [← Ny279.out] at ho; have n0_ := Gv.a0 (blk_grown (g := gb262) (o := .cells #[.int .i64 a1_0, .int .i64 a1_1, .int .i64 a1_2, .int .i64 a1_3, .int .i64 a1_4, .int .i64 a1_5, .int .i64 a1_6, .int .i64 a1_7, .int .i64 a1_8, .int .i64 a1_9, .int .i64 a1_10, .int .i64 a1_11, .int .i64 a1_12, .int .i64 a1_13, .int .i64 a1_14, .int .i64 a1_15, .int .i64 a1_16, .int .i64 a1_17, .int .i64 a1_18, .int .i64 a1_19, .int .i64 a1_20] 55 (0, 0)) Gv.bk hg (Kd.R_away HO_6.out (fun _ hk => hk))); have n1_ := Gv.a0 (hb); have n2_ := Gv.a0 (ho); clear BK262; clear HB; clear HO_6; have BK262 := n0_; have HB := n1_; have HO281 := n2_; clear n0_ n1_ n2_; clear ho hb hg hat) | ((with_reducible refine Gv.gate_load (t := 55) rfl ?_); (try (refine gate_guard (by rfl) ?_; dsimp only)); refine wpList_load_row rfl 55 _ rfl gb262 rfl 55 _ _ _ (by first | exact Gv.kb0 BK262.out | exact Gv.kb1 (Gv.kb0 BK262.out)) Try.underlying55 rfl (by kernel_rfl) ?_) | ((with_reducible refine Gv.gate_load (t := 55) rfl ?_); refine Gv.load_event (cs := [_, _, _, _, _, _, _, _, _, _, _, _, _, _, _, _, _, _, _, _, _]) rfl rfl rfl ⟨hx278_0, hx278_1, hx278_2, hx278_3, hx278_4, hx278_5, hx278_6, hx278_7, hx278_8, hx278_9, hx278_10, hx278_11, hx278_12, hx278_13, hx278_14, hx278_15, hx278_16, hx278_17, hx278_18, hx278_19, hx278_20, trivial⟩ Try.underlying55 rfl (by kernel_rfl) ?_)); try go_wp2_with (first | ((with_reducible refine gate_builtin (b := .append) (xs := #[.tmp 68, .tmp 73]) rfl ?_); at_builtin; refine Kd.R_append k55 (w0 := w) w.heap.size rfl (.tmp 68) (.tmp 73) 25 55 (.agg #[(.int .i64 0), (.int .i64 0), (.int .i64 0), (.int .i64 0), (.int .i64 0), (.int .i64 0), (.int .i64 0), (.int .i64 0), (.int .i64 0), (.int .i64 0), (.int .i64 0), (.int .i64 0), (.int .i64 0), (.int .i64 0), (.int .i64 0), (.int .i64 0), (.int .i64 0), (.int .i64 0), (.int .i64 0), (.int .i64 0), (.int .i64 0)]) 168 rfl Try.underlying25 info55 rfl (by decide) (by omega) u6 x6_3 (⟨(rd_T55 l0 x8_3).f0, (⟨(⟨(rd_T55 l0 x8_3).f1.f0.f0, (rd_T55 l0 x8_3).f1.f0.f1, (rd_T55 l0 x8_3).f1.f0.f2, (rd_T55 l0 x8_3).f1.f0.f3, (rd_T55 l0 x8_3).f1.f0.f4⟩ : S34), (rd_T55 l0 x8_3).f1.f1⟩ : S53), (⟨(⟨(rd_T55 l0 x8_3).f2.f0.f0, (rd_T55 l0 x8_3).f2.f0.f1, (rd_T55 l0 x8_3).f2.f0.f2, (rd_T55 l0 x8_3).f2.f0.f3, (rd_T55 l0 x8_3).f2.f0.f4⟩ : S34), (rd_T55 l0 x8_3).f2.f1⟩ : S53), (rd_T55 l0 x8_3).f3, (rd_T55 l0 x8_3).f4, (rd_T55 l0 x8_3).f5, (rd_T55 l0 x8_3).f6, (rd_T55 l0 x8_3).f7, (rd_T55 l0 x8_3).f8, (rd_T55 l0 x8_3).f9, (rd_T55 l0 x8_3).f10⟩ : S55) [.int .i64 ((rd_T55 l0 x8_3).f0), .int .i64 ((rd_T55 l0 x8_3).f1.f0.f0), .int .i64 ((rd_T55 l0 x8_3).f1.f0.f1), .int .i64 ((rd_T55 l0 x8_3).f1.f0.f2), .int .i64 ((rd_T55 l0 x8_3).f1.f0.f3), .int .i64 ((rd_T55 l0 x8_3).f1.f0.f4), .int .i64 ((rd_T55 l0 x8_3).f1.f1), .int .i64 ((rd_T55 l0 x8_3).f2.f0.f0), .int .i64 ((rd_T55 l0 x8_3).f2.f0.f1), .int .i64 ((rd_T55 l0 x8_3).f2.f0.f2), .int .i64 ((rd_T55 l0 x8_3).f2.f0.f3), .int .i64 ((rd_T55 l0 x8_3).f2.f0.f4), .int .i64 ((rd_T55 l0 x8_3).f2.f1), .int .i64 ((rd_T55 l0 x8_3).f3), .int .i64 ((rd_T55 l0 x8_3).f4), .int .i64 ((rd_T55 l0 x8_3).f5), .int .i64 ((rd_T55 l0 x8_3).f6), .int .i64 ((rd_T55 l0 x8_3).f7), .int .i64 ((rd_T55 l0 x8_3).f8), .int .i64 ((rd_T55 l0 x8_3).f9), .int .i64 ((rd_T55 l0 x8_3).f10)] (fun k_ => k_ ≠ gb262) (fun _ => False) rfl rfl ?aP (fun _ hk => hk.elim) ?aF ?aO ?aB ?aS ?aL ?_; (case aP => exact k55_mkM _ _ _ (⟨(rd_T55 l0 x8_3).f0, (⟨(⟨(rd_T55 l0 x8_3).f1.f0.f0, (rd_T55 l0 x8_3).f1.f0.f1, (rd_T55 l0 x8_3).f1.f0.f2, (rd_T55 l0 x8_3).f1.f0.f3, (rd_T55 l0 x8_3).f1.f0.f4⟩ : S34), (rd_T55 l0 x8_3).f1.f1⟩ : S53), (⟨(⟨(rd_T55 l0 x8_3).f2.f0.f0, (rd_T55 l0 x8_3).f2.f0.f1, (rd_T55 l0 x8_3).f2.f0.f2, (rd_T55 l0 x8_3).f2.f0.f3, (rd_T55 l0 x8_3).f2.f0.f4⟩ : S34), (rd_T55 l0 x8_3).f2.f1⟩ : S53), (rd_T55 l0 x8_3).f3, (rd_T55 l0 x8_3).f4, (rd_T55 l0 x8_3).f5, (rd_T55 l0 x8_3).f6, (rd_T55 l0 x8_3).f7, (rd_T55 l0 x8_3).f8, (rd_T55 l0 x8_3).f9, (rd_T55 l0 x8_3).f10⟩ : S55)); (case aB => exact Gv.bw); (case aF => exact (fun k_ hk => Kd.freshB (g := gb262) (o := .cells #[.int .i64 a1_0, .int .i64 a1_1, .int .i64 a1_2, .int .i64 a1_3, .int .i64 a1_4, .int .i64 a1_5, .int .i64 a1_6, .int .i64 a1_7, .int .i64 a1_8, .int .i64 a1_9, .int .i64 a1_10, .int .i64 a1_11, .int .i64 a1_12, .int .i64 a1_13, .int .i64 a1_14, .int .i64 a1_15, .int .i64 a1_16, .int .i64 a1_17, .int .i64 a1_18, .int .i64 a1_19, .int .i64 a1_20] 55 (0, 0)) Gv.bk k_ hk)); (case aO => exact (Gv.kr HO_6.out)); (case aS => exact (below_size Gv.bw)); (case aL => have := LMc31.out; omega); intro v280 w33 ho hb hg hat; rw [← Ny279.out] at ho; have n0_ := Gv.a0 (blk_grown (g := gb262) (o := .cells #[.int .i64 a1_0, .int .i64 a1_1, .int .i64 a1_2, .int .i64 a1_3, .int .i64 a1_4, .int .i64 a1_5, .int .i64 a1_6, .int .i64 a1_7, .int .i64 a1_8, .int .i64 a1_9, .int .i64 a1_10, .int .i64 a1_11, .int .i64 a1_12, .int .i64 a1_13, .int .i64 a1_14, .int .i64 a1_15, .int .i64 a1_16, .int .i64 a1_17, .int .i64 a1_18, .int .i64 a1_19, .int .i64 a1_20] 55 (0, 0)) Gv.bk hg (Kd.R_away HO_6.out (fun _ hk => hk))); have n1_ := Gv.a0 (hb); have n2_ := Gv.a0 (ho); clear BK262; clear HB; clear HO_6; have BK262 := n0_; have HB := n1_; have HO281 := n2_; clear n0_ n1_ n2_; clear ho hb hg hat) | ((with_reducible refine Gv.gate_load (t := 55) rfl ?_); (try (refine gate_guard (by rfl) ?_; dsimp only)); refine wpList_load_row rfl 55 _ rfl gb262 rfl 55 _ _ _ (by first | exact Gv.kb0 BK262.out | exact Gv.kb1 (Gv.kb0 BK262.out)) Try.underlying55 rfl (by kernel_rfl) ?_) | ((with_reducible refine Gv.gate_load (t := 55) rfl ?_); refine Gv.load_event (cs := [_, _, _, _, _, _, _, _, _, _, _, _, _, _, _, _, _, _, _, _, _]) rfl rfl rfl ⟨hx278_0, hx278_1, hx278_2, hx278_3, hx278_4, hx278_5, hx278_6, hx278_7, hx278_8, hx278_9, hx278_10, hx278_11, hx278_12, hx278_13, hx278_14, hx278_15, hx278_16, hx278_17, hx278_18, hx278_19, hx278_20, trivial⟩ Try.underlying55 rfl (by kernel_rfl) ?_)))
               go_roundg k3
               case measure => have := HJ2.out; have := HK2.out; have := HK3.out; omega
               case rel => exact ⟨(y279), (wrap64 (x8_3 + 1)), Gv.rq, H', ⟨by have := HJ2.out; have := HK2.out; have := HK3.out; omega⟩, ⟨Gv.kr HO281.out⟩, ⟨by (with_reducible repeat (first | refine blk_drewN ?_ _ | refine blk_drew ?_ | refine blk_alloc ?_ _)); exact BK262.out⟩, ⟨Gv.bw⟩⟩
              ·rw [if_neg c31] at H
               exact absurd H (by simp)
             ·rw [if_neg c30] at H
              have c30b0 : decide (a1_0 < ((rd_T55 l0 x8_3).f0)) = false := decide_eq_false c30
              clear c30
              have H' := Gv.a0 H
              clear H
              have p277 : 0 ≤ (x8_3 : Int) := of_decide_eq_true (by first | (with_reducible assumption) | assumption)
              have q277 : x8_3 < (l0.length : Int) := of_decide_eq_true (by first | (with_reducible assumption) | assumption)
              obtain ⟨ad277, e277, hx277_0, _, _, _, _, _, _, _, _, _, _, _, _, _, _, _, _, _, _, _, _⟩ := at_T55 HR0.out x8_3 p277 q277
              cases e277
              replace hx277_0 := Gv.bx HB.out hx277_0
              replace p277 := eq_true p277
              replace q277 := eq_true q277
              obtain ⟨hcz34_0, hcz34_1, hcz34_2, hcz34_3, hcz34_4, hcz34_5, hcz34_6, hcz34_7, hcz34_8, hcz34_9, hcz34_10, hcz34_11, hcz34_12, hcz34_13, hcz34_14, hcz34_15, hcz34_16, hcz34_17, hcz34_18, hcz34_19, hcz34_20⟩ := Gv.c21 BK262.out
              go_wp2_with (first | ((with_reducible refine Gv.gate_load (t := 55) rfl ?_); (try (refine gate_guard (by rfl) ?_; dsimp only)); refine wpList_load_row rfl 55 _ rfl gb262 rfl 55 _ _ _ (by first | exact Gv.kb0 BK262.out | exact Gv.kb1 (Gv.kb0 BK262.out)) Try.underlying55 rfl (by kernel_rfl) ?_))
              repeat (go_quiet (fail); try go_wp2)
              go_roundg k3
              case measure => have := HJ2.out; have := HK2.out; have := HK3.out; omega
              case rel => exact ⟨(x6_3), (wrap64 (x8_3 + 1)), Gv.rq, H', ⟨by have := HJ2.out; have := HK2.out; have := HK3.out; omega⟩, ⟨Gv.kr HO_6.out⟩, ⟨by (with_reducible repeat (first | refine blk_drewN ?_ _ | refine blk_drew ?_ | refine blk_alloc ?_ _)); exact BK262.out⟩, ⟨Gv.bw⟩⟩
            ·rw [if_neg c29] at H
             exact absurd H (by simp)
           ·rw [if_neg c28] at H
            have c28b0 : decide (x8_3 < (l0.length : Int)) = false := decide_eq_false c28
            clear c28
            simp only [Option.some.injEq, Prod.mk.injEq] at H
            obtain ⟨rfl, rfl⟩ := H
            go_wp2_with (first | ((with_reducible refine Gv.gate_load (t := 55) rfl ?_); (try (refine gate_guard (by rfl) ?_; dsimp only)); refine wpList_load_row rfl 55 _ rfl gb262 rfl 55 _ _ _ (by first | exact Gv.kb0 BK262.out | exact Gv.kb1 (Gv.kb0 BK262.out)) Try.underlying55 rfl (by kernel_rfl) ?_))
            repeat (go_quiet (fail); try go_wp2)
            go_ret2
            exact ⟨_, Gv.rt, by (with_reducible repeat (first | apply Kd.R_alloc | apply Kd.R_drewN | apply Kd.R_drew)); exact Kd.R_mono HO_6.out (fun _ hk => trivial), Gv.bw⟩
        ·rw [if_neg c25] at H
         exact absurd H (by simp)

/-! ### impl_within: function 46 -/
def impl_within.f (a0 : Int) (a1 : Int) (a2 : Int) : Option (Bool) := if a0 ≥ a1 then (some (decide (a0 ≤ a2))) else (some false)
set_option maxHeartbeats 8000000 in
set_option maxRecDepth 100000 in
theorem impl_within.calls (a0 : Int) (a1 : Int) (a2 : Int) (r : Bool) (w : World) (h : impl_within.f a0 a1 a2 = some r) :
  Calls Try.prog 46 #[.int .i64 a0, .int .i64 a1, .int .i64 a2] w fun e w' => e = .returned (.bool r) ∧ Drawn0 w w' := by
 have H : (if a0 ≥ a1 then (some (decide (a0 ≤ a2))) else (some false)) = some r := h
 clear h
 by_cases c4 : a0 ≥ a1
 ·rw [if_pos c4] at H
  have c4b0 : decide (a1 ≤ a0) = true := decide_eq_true c4
  clear c4
  obtain rfl := Option.some.inj H
  go_enter Try.func46, Try.ntmps46
  go_wp2
  go_ret
  exact ⟨by first | rfl | (simp; done) | (simp [Int.tdiv_eq_ediv_of_nonneg]; done) | (simp [*]; done), by repeat (first | exact Drawn0.refl _ | apply Drawn0.step)⟩
 ·rw [if_neg c4] at H
  have c4b0 : decide (a1 ≤ a0) = false := decide_eq_false c4
  clear c4
  obtain rfl := Option.some.inj H
  go_enter Try.func46, Try.ntmps46
  go_wp2
  go_ret
  exact ⟨by first | rfl | (simp; done) | (simp [Int.tdiv_eq_ediv_of_nonneg]; done) | (simp [*]; done), by repeat (first | exact Drawn0.refl _ | apply Drawn0.step)⟩

/-! ### impl_isAny: function 64 -/
def impl_isAny.f (a0_0 : Int) (a0_1 : Int) (a0_2 : Int) (a0_3 : Int) (a0_4 : Int) (a0_5 : Int) : Option (Bool) := some ((a0_0 == 0 && (a0_1 == 0 && (a0_2 == 0 && (a0_3 == 0 && (a0_4 == 0))))) && (a0_5 == 0))
set_option maxHeartbeats 8000000 in
set_option maxRecDepth 100000 in
theorem impl_isAny.calls (a0_0 : Int) (a0_1 : Int) (a0_2 : Int) (a0_3 : Int) (a0_4 : Int) (a0_5 : Int) (r : Bool) (w : World) (h : impl_isAny.f a0_0 a0_1 a0_2 a0_3 a0_4 a0_5 = some r) :
  Calls Try.prog 64 #[.agg #[.int .i64 a0_0, .int .i64 a0_1, .int .i64 a0_2, .int .i64 a0_3, .int .i64 a0_4, .int .i64 a0_5]] w fun e w' => e = .returned (.bool r) ∧ Below w.heap.size w w' := by
 have hu53 := Try.underlying53
 have HB := Gv.a0 (Below.refl w.heap.size w)
 have H : (some ((a0_0 == 0 && (a0_1 == 0 && (a0_2 == 0 && (a0_3 == 0 && (a0_4 == 0))))) && (a0_5 == 0))) = some r := h
 clear h
 obtain rfl := Option.some.inj H
 go_enter Try.func64, Try.ntmps64
 go_wp2_with (first | ((with_reducible refine gate_dst (N := 1) rfl ?_); refine box_event ?hg (N := 1) ?hd (cs := #[.int .i64 a0_0, .int .i64 a0_1, .int .i64 a0_2, .int .i64 a0_3, .int .i64 a0_4, .int .i64 a0_5]) (t := 53) ?hr ?_; (case hd => rfl); (case hg => rfl); (case hr => first | (go_simp; done) | (go_simp; rfl)); intro gb282 hg w2 hbox hb; have n0_ := Gv.a0 (below_step Gv.bw hb); have n1_ := Gv.a0 (hbox); have n2_ := Gv.a0 ((Gv.ble hg Gv.bw : w.heap.size ≤ gb282)); have n3_ := Gv.a0 ((Gv.ble hg Gv.bw : w.heap.size ≤ gb282)); clear HB; have HB := n0_; have BK282 := n1_; have GW282 := n2_; have GE282 := n3_; clear n0_ n1_ n2_ n3_; clear hb hbox hg; obtain ⟨hcz3_0, hcz3_1, hcz3_2, hcz3_3, hcz3_4, hcz3_5⟩ := Gv.c6 BK282.out; obtain ⟨hfz3_0, hfz3_1, hfz3_2, hfz3_3, hfz3_4, hfz3_5⟩ := Gv.f6 BK282.out))
 go_ret
 exact ⟨Gv.rt, Gv.bw⟩

/-! ### impl_isLong: function 75 -/
def impl_isLong.f (a0 : Int) : Option (Bool) := (impl_within.f a0 0 4294967295).bind fun t283 => (some t283)
set_option maxHeartbeats 8000000 in
set_option maxRecDepth 100000 in
theorem impl_isLong.calls (a0 : Int) (r : Bool) (w : World) (h : impl_isLong.f a0 = some r) :
  Calls Try.prog 75 #[.int .i64 a0] w fun e w' => e = .returned (.bool r) ∧ Drawn0 w w' := by
 have H : ((impl_within.f a0 0 4294967295).bind fun t283 => (some t283)) = some r := h
 clear h
 replace H := Option.bind_eq_some_iff.mp H
 obtain ⟨t283, A20, H⟩ := H
 replace H : (some t283) = some r := H
 have A2 := Gv.a0 A20
 clear A20
 obtain rfl := Option.some.inj H
 go_enter Try.func75, Try.ntmps75
 go_wp2_with (first | ((with_reducible refine gate_callee (f := 46) rfl ?_); refine goesL_ (some 4) rfl rfl Try.func46 (by kernel_rfl) rfl #[.int .i64 a0, .int .i64 0, .int .i64 4294967295] rfl Gv.lm ?_; (with_reducible refine (impl_within.calls a0 0 4294967295 t283 _ A2.out).mono ?_); rintro e w' ⟨rfl, ⟨nd, rfl⟩⟩; refine ⟨_, rfl, ?_⟩))
 go_ret
 exact ⟨by first | rfl | (simp; done) | (simp [Int.tdiv_eq_ediv_of_nonneg]; done) | (simp [*]; done), by repeat (first | exact Drawn0.refl _ | apply Drawn0.step)⟩

/-! ### impl_AddrOk: function 65 -/
def impl_AddrOk.f (a0_0 : Int) (a0_1 : Int) (a0_2 : Int) (a0_3 : Int) (a0_4 : Int) : Option (Bool) := if a0_0 = 4 then (if a0_1 = 0 then (if a0_2 = 0 then (if a0_3 = 0 then ((impl_isLong.f a0_4).bind fun t285 => (some t285)) else (some false)) else (some false)) else (some false)) else (if a0_0 = 6 then ((impl_isLong.f a0_1).bind fun t286 => (if t286 = true then ((impl_isLong.f a0_2).bind fun t287 => (if t287 = true then ((impl_isLong.f a0_3).bind fun t288 => (if t288 = true then ((impl_isLong.f a0_4).bind fun t289 => (some t289)) else (some false))) else (some false))) else (some false))) else (some false))
set_option maxHeartbeats 8000000 in
set_option maxRecDepth 100000 in
theorem impl_AddrOk.calls (a0_0 : Int) (a0_1 : Int) (a0_2 : Int) (a0_3 : Int) (a0_4 : Int) (r : Bool) (w : World) (h : impl_AddrOk.f a0_0 a0_1 a0_2 a0_3 a0_4 = some r) :
  Calls Try.prog 65 #[.agg #[.int .i64 a0_0, .int .i64 a0_1, .int .i64 a0_2, .int .i64 a0_3, .int .i64 a0_4]] w fun e w' => e = .returned (.bool r) ∧ Below w.heap.size w w' := by
 have hu34 := Try.underlying34
 have HB := Gv.a0 (Below.refl w.heap.size w)
 have H : (if a0_0 = 4 then (if a0_1 = 0 then (if a0_2 = 0 then (if a0_3 = 0 then ((impl_isLong.f a0_4).bind fun t285 => (some t285)) else (some false)) else (some false)) else (some false)) else (if a0_0 = 6 then ((impl_isLong.f a0_1).bind fun t286 => (if t286 = true then ((impl_isLong.f a0_2).bind fun t287 => (if t287 = true then ((impl_isLong.f a0_3).bind fun t288 => (if t288 = true then ((impl_isLong.f a0_4).bind fun t289 => (some t289)) else (some false))) else (some false))) else (some false))) else (some false))) = some r := h
 clear h
 by_cases c2 : a0_0 = 4
 ·rw [if_pos c2] at H
  have c2b0 : (a0_0 == 4) = true := beq_iff_eq.mpr c2
  have c2b1 : (a0_0 != 4) = false := bne_eq_false_iff_eq.mpr c2
  clear c2
  by_cases c3 : a0_1 = 0
  ·rw [if_pos c3] at H
   have c3b0 : (a0_1 == 0) = true := beq_iff_eq.mpr c3
   have c3b1 : (a0_1 != 0) = false := bne_eq_false_iff_eq.mpr c3
   clear c3
   by_cases c4 : a0_2 = 0
   ·rw [if_pos c4] at H
    have c4b0 : (a0_2 == 0) = true := beq_iff_eq.mpr c4
    have c4b1 : (a0_2 != 0) = false := bne_eq_false_iff_eq.mpr c4
    clear c4
    by_cases c5 : a0_3 = 0
    ·rw [if_pos c5] at H
     have c5b0 : (a0_3 == 0) = true := beq_iff_eq.mpr c5
     have c5b1 : (a0_3 != 0) = false := bne_eq_false_iff_eq.mpr c5
     clear c5
     replace H := Option.bind_eq_some_iff.mp H
     obtain ⟨t285, A60, H⟩ := H
     replace H : (some t285) = some r := H
     have A6 := Gv.a0 A60
     clear A60
     obtain rfl := Option.some.inj H
     go_enter Try.func65, Try.ntmps65
     go_wp2_with (first | ((with_reducible refine gate_dst (N := 1) rfl ?_); refine box_event ?hg (N := 1) ?hd (cs := #[.int .i64 a0_0, .int .i64 a0_1, .int .i64 a0_2, .int .i64 a0_3, .int .i64 a0_4]) (t := 34) ?hr ?_; (case hd => rfl); (case hg => rfl); (case hr => first | (go_simp; done) | (go_simp; rfl)); intro gb284 hg w7 hbox hb; have n0_ := Gv.a0 (below_step Gv.bw hb); have n1_ := Gv.a0 (hbox); have n2_ := Gv.a0 ((Gv.ble hg Gv.bw : w.heap.size ≤ gb284)); have n3_ := Gv.a0 ((Gv.ble hg Gv.bw : w.heap.size ≤ gb284)); clear HB; have HB := n0_; have BK284 := n1_; have GW284 := n2_; have GE284 := n3_; clear n0_ n1_ n2_ n3_; clear hb hbox hg; obtain ⟨hcz8_0, hcz8_1, hcz8_2, hcz8_3, hcz8_4⟩ := Gv.c5 BK284.out; obtain ⟨hfz8_0, hfz8_1, hfz8_2, hfz8_3, hfz8_4⟩ := Gv.f5 BK284.out) | (go_at_call 75; (with_reducible refine (impl_isLong.calls a0_4 t285 _ A6.out).mono ?_); rintro e w' ⟨rfl, ⟨nd, rfl⟩⟩))
     go_ret
     exact ⟨Gv.rt, Gv.bw⟩
    ·rw [if_neg c5] at H
     have c5b0 : (a0_3 == 0) = false := beq_eq_false_iff_ne.mpr c5
     have c5b1 : (a0_3 != 0) = true := bne_iff_ne.mpr c5
     obtain rfl := Option.some.inj H
     go_enter Try.func65, Try.ntmps65
     go_wp2_with (first | ((with_reducible refine gate_dst (N := 1) rfl ?_); refine box_event ?hg (N := 1) ?hd (cs := #[.int .i64 a0_0, .int .i64 a0_1, .int .i64 a0_2, .int .i64 a0_3, .int .i64 a0_4]) (t := 34) ?hr ?_; (case hd => rfl); (case hg => rfl); (case hr => first | (go_simp; done) | (go_simp; rfl)); intro gb284 hg w9 hbox hb; have n0_ := Gv.a0 (below_step Gv.bw hb); have n1_ := Gv.a0 (hbox); have n2_ := Gv.a0 ((Gv.ble hg Gv.bw : w.heap.size ≤ gb284)); have n3_ := Gv.a0 ((Gv.ble hg Gv.bw : w.heap.size ≤ gb284)); clear HB; have HB := n0_; have BK284 := n1_; have GW284 := n2_; have GE284 := n3_; clear n0_ n1_ n2_ n3_; clear hb hbox hg; obtain ⟨hcz10_0, hcz10_1, hcz10_2, hcz10_3, hcz10_4⟩ := Gv.c5 BK284.out; obtain ⟨hfz10_0, hfz10_1, hfz10_2, hfz10_3, hfz10_4⟩ := Gv.f5 BK284.out))
     go_ret
     exact ⟨Gv.rt, Gv.bw⟩
   ·rw [if_neg c4] at H
    have c4b0 : (a0_2 == 0) = false := beq_eq_false_iff_ne.mpr c4
    have c4b1 : (a0_2 != 0) = true := bne_iff_ne.mpr c4
    obtain rfl := Option.some.inj H
    go_enter Try.func65, Try.ntmps65
    go_wp2_with (first | ((with_reducible refine gate_dst (N := 1) rfl ?_); refine box_event ?hg (N := 1) ?hd (cs := #[.int .i64 a0_0, .int .i64 a0_1, .int .i64 a0_2, .int .i64 a0_3, .int .i64 a0_4]) (t := 34) ?hr ?_; (case hd => rfl); (case hg => rfl); (case hr => first | (go_simp; done) | (go_simp; rfl)); intro gb284 hg w11 hbox hb; have n0_ := Gv.a0 (below_step Gv.bw hb); have n1_ := Gv.a0 (hbox); have n2_ := Gv.a0 ((Gv.ble hg Gv.bw : w.heap.size ≤ gb284)); have n3_ := Gv.a0 ((Gv.ble hg Gv.bw : w.heap.size ≤ gb284)); clear HB; have HB := n0_; have BK284 := n1_; have GW284 := n2_; have GE284 := n3_; clear n0_ n1_ n2_ n3_; clear hb hbox hg; obtain ⟨hcz12_0, hcz12_1, hcz12_2, hcz12_3, hcz12_4⟩ := Gv.c5 BK284.out; obtain ⟨hfz12_0, hfz12_1, hfz12_2, hfz12_3, hfz12_4⟩ := Gv.f5 BK284.out))
    go_ret
    exact ⟨Gv.rt, Gv.bw⟩
  ·rw [if_neg c3] at H
   have c3b0 : (a0_1 == 0) = false := beq_eq_false_iff_ne.mpr c3
   have c3b1 : (a0_1 != 0) = true := bne_iff_ne.mpr c3
   obtain rfl := Option.some.inj H
   go_enter Try.func65, Try.ntmps65
   go_wp2_with (first | ((with_reducible refine gate_dst (N := 1) rfl ?_); refine box_event ?hg (N := 1) ?hd (cs := #[.int .i64 a0_0, .int .i64 a0_1, .int .i64 a0_2, .int .i64 a0_3, .int .i64 a0_4]) (t := 34) ?hr ?_; (case hd => rfl); (case hg => rfl); (case hr => first | (go_simp; done) | (go_simp; rfl)); intro gb284 hg w13 hbox hb; have n0_ := Gv.a0 (below_step Gv.bw hb); have n1_ := Gv.a0 (hbox); have n2_ := Gv.a0 ((Gv.ble hg Gv.bw : w.heap.size ≤ gb284)); have n3_ := Gv.a0 ((Gv.ble hg Gv.bw : w.heap.size ≤ gb284)); clear HB; have HB := n0_; have BK284 := n1_; have GW284 := n2_; have GE284 := n3_; clear n0_ n1_ n2_ n3_; clear hb hbox hg; obtain ⟨hcz14_0, hcz14_1, hcz14_2, hcz14_3, hcz14_4⟩ := Gv.c5 BK284.out; obtain ⟨hfz14_0, hfz14_1, hfz14_2, hfz14_3, hfz14_4⟩ := Gv.f5 BK284.out))
   go_ret
   exact ⟨Gv.rt, Gv.bw⟩
 ·rw [if_neg c2] at H
  have c2b0 : (a0_0 == 4) = false := beq_eq_false_iff_ne.mpr c2
  have c2b1 : (a0_0 != 4) = true := bne_iff_ne.mpr c2
  by_cases c15 : a0_0 = 6
  ·rw [if_pos c15] at H
   have c15b0 : (a0_0 == 6) = true := beq_iff_eq.mpr c15
   have c15b1 : (a0_0 != 6) = false := bne_eq_false_iff_eq.mpr c15
   clear c15
   replace H := Option.bind_eq_some_iff.mp H
   obtain ⟨t286, A160, H⟩ := H
   replace H : (if t286 = true then ((impl_isLong.f a0_2).bind fun t287 => (if t287 = true then ((impl_isLong.f a0_3).bind fun t288 => (if t288 = true then ((impl_isLong.f a0_4).bind fun t289 => (some t289)) else (some false))) else (some false))) else (some false)) = some r := H
   have A16 := Gv.a0 A160
   clear A160
   by_cases c17 : t286 = true
   ·subst c17
    have H1 : ((impl_isLong.f a0_2).bind fun t287 => (if t287 = true then ((impl_isLong.f a0_3).bind fun t288 => (if t288 = true then ((impl_isLong.f a0_4).bind fun t289 => (some t289)) else (some false))) else (some false))) = some r := by rw [if_pos rfl] at H; exact H
    clear H
    have H := H1
    clear H1
    replace H := Option.bind_eq_some_iff.mp H
    obtain ⟨t287, A180, H⟩ := H
    replace H : (if t287 = true then ((impl_isLong.f a0_3).bind fun t288 => (if t288 = true then ((impl_isLong.f a0_4).bind fun t289 => (some t289)) else (some false))) else (some false)) = some r := H
    have A18 := Gv.a0 A180
    clear A180
    by_cases c19 : t287 = true
    ·subst c19
     have H1 : ((impl_isLong.f a0_3).bind fun t288 => (if t288 = true then ((impl_isLong.f a0_4).bind fun t289 => (some t289)) else (some false))) = some r := by rw [if_pos rfl] at H; exact H
     clear H
     have H := H1
     clear H1
     replace H := Option.bind_eq_some_iff.mp H
     obtain ⟨t288, A200, H⟩ := H
     replace H : (if t288 = true then ((impl_isLong.f a0_4).bind fun t289 => (some t289)) else (some false)) = some r := H
     have A20 := Gv.a0 A200
     clear A200
     by_cases c21 : t288 = true
     ·subst c21
      have H1 : ((impl_isLong.f a0_4).bind fun t289 => (some t289)) = some r := by rw [if_pos rfl] at H; exact H
      clear H
      have H := H1
      clear H1
      replace H := Option.bind_eq_some_iff.mp H
      obtain ⟨t289, A220, H⟩ := H
      replace H : (some t289) = some r := H
      have A22 := Gv.a0 A220
      clear A220
      obtain rfl := Option.some.inj H
      go_enter Try.func65, Try.ntmps65
      go_wp2_with (first | ((with_reducible refine gate_dst (N := 1) rfl ?_); refine box_event ?hg (N := 1) ?hd (cs := #[.int .i64 a0_0, .int .i64 a0_1, .int .i64 a0_2, .int .i64 a0_3, .int .i64 a0_4]) (t := 34) ?hr ?_; (case hd => rfl); (case hg => rfl); (case hr => first | (go_simp; done) | (go_simp; rfl)); intro gb284 hg w23 hbox hb; have n0_ := Gv.a0 (below_step Gv.bw hb); have n1_ := Gv.a0 (hbox); have n2_ := Gv.a0 ((Gv.ble hg Gv.bw : w.heap.size ≤ gb284)); have n3_ := Gv.a0 ((Gv.ble hg Gv.bw : w.heap.size ≤ gb284)); clear HB; have HB := n0_; have BK284 := n1_; have GW284 := n2_; have GE284 := n3_; clear n0_ n1_ n2_ n3_; clear hb hbox hg; obtain ⟨hcz24_0, hcz24_1, hcz24_2, hcz24_3, hcz24_4⟩ := Gv.c5 BK284.out; obtain ⟨hfz24_0, hfz24_1, hfz24_2, hfz24_3, hfz24_4⟩ := Gv.f5 BK284.out) | ((with_reducible refine gate_callee (f := 75) rfl ?_); refine goesL_ (some 29) rfl rfl Try.func75 (by kernel_rfl) rfl #[.int .i64 a0_1] rfl Gv.lm ?_; (with_reducible refine (impl_isLong.calls a0_1 true _ A16.out).mono ?_); rintro e w' ⟨rfl, ⟨nd, rfl⟩⟩; refine ⟨_, rfl, ?_⟩) | (go_at_call 75; (with_reducible refine (impl_isLong.calls a0_2 true _ A18.out).mono ?_); rintro e w' ⟨rfl, ⟨nd, rfl⟩⟩) | (go_at_call 75; (with_reducible refine (impl_isLong.calls a0_3 true _ A20.out).mono ?_); rintro e w' ⟨rfl, ⟨nd, rfl⟩⟩) | (go_at_call 75; (with_reducible refine (impl_isLong.calls a0_4 t289 _ A22.out).mono ?_); rintro e w' ⟨rfl, ⟨nd, rfl⟩⟩))
      go_ret
      exact ⟨Gv.rt, Gv.bw⟩
     ·replace c21 := Bool.eq_false_iff.mpr c21
      subst c21
      have H1 : (some false) = some r := by rw [if_neg (show ¬ (false = true) by decide)] at H; exact H
      clear H
      have H := H1
      clear H1
      obtain rfl := Option.some.inj H
      go_enter Try.func65, Try.ntmps65
      go_wp2_with (first | ((with_reducible refine gate_dst (N := 1) rfl ?_); refine box_event ?hg (N := 1) ?hd (cs := #[.int .i64 a0_0, .int .i64 a0_1, .int .i64 a0_2, .int .i64 a0_3, .int .i64 a0_4]) (t := 34) ?hr ?_; (case hd => rfl); (case hg => rfl); (case hr => first | (go_simp; done) | (go_simp; rfl)); intro gb284 hg w25 hbox hb; have n0_ := Gv.a0 (below_step Gv.bw hb); have n1_ := Gv.a0 (hbox); have n2_ := Gv.a0 ((Gv.ble hg Gv.bw : w.heap.size ≤ gb284)); have n3_ := Gv.a0 ((Gv.ble hg Gv.bw : w.heap.size ≤ gb284)); clear HB; have HB := n0_; have BK284 := n1_; have GW284 := n2_; have GE284 := n3_; clear n0_ n1_ n2_ n3_; clear hb hbox hg; obtain ⟨hcz26_0, hcz26_1, hcz26_2, hcz26_3, hcz26_4⟩ := Gv.c5 BK284.out; obtain ⟨hfz26_0, hfz26_1, hfz26_2, hfz26_3, hfz26_4⟩ := Gv.f5 BK284.out) | ((with_reducible refine gate_callee (f := 75) rfl ?_); refine goesL_ (some 29) rfl rfl Try.func75 (by kernel_rfl) rfl #[.int .i64 a0_1] rfl Gv.lm ?_; (with_reducible refine (impl_isLong.calls a0_1 true _ A16.out).mono ?_); rintro e w' ⟨rfl, ⟨nd, rfl⟩⟩; refine ⟨_, rfl, ?_⟩) | (go_at_call 75; (with_reducible refine (impl_isLong.calls a0_2 true _ A18.out).mono ?_); rintro e w' ⟨rfl, ⟨nd, rfl⟩⟩) | (go_at_call 75; (with_reducible refine (impl_isLong.calls a0_3 false _ A20.out).mono ?_); rintro e w' ⟨rfl, ⟨nd, rfl⟩⟩))
      go_ret
      exact ⟨Gv.rt, Gv.bw⟩
    ·replace c19 := Bool.eq_false_iff.mpr c19
     subst c19
     have H1 : (some false) = some r := by rw [if_neg (show ¬ (false = true) by decide)] at H; exact H
     clear H
     have H := H1
     clear H1
     obtain rfl := Option.some.inj H
     go_enter Try.func65, Try.ntmps65
     go_wp2_with (first | ((with_reducible refine gate_dst (N := 1) rfl ?_); refine box_event ?hg (N := 1) ?hd (cs := #[.int .i64 a0_0, .int .i64 a0_1, .int .i64 a0_2, .int .i64 a0_3, .int .i64 a0_4]) (t := 34) ?hr ?_; (case hd => rfl); (case hg => rfl); (case hr => first | (go_simp; done) | (go_simp; rfl)); intro gb284 hg w27 hbox hb; have n0_ := Gv.a0 (below_step Gv.bw hb); have n1_ := Gv.a0 (hbox); have n2_ := Gv.a0 ((Gv.ble hg Gv.bw : w.heap.size ≤ gb284)); have n3_ := Gv.a0 ((Gv.ble hg Gv.bw : w.heap.size ≤ gb284)); clear HB; have HB := n0_; have BK284 := n1_; have GW284 := n2_; have GE284 := n3_; clear n0_ n1_ n2_ n3_; clear hb hbox hg; obtain ⟨hcz28_0, hcz28_1, hcz28_2, hcz28_3, hcz28_4⟩ := Gv.c5 BK284.out; obtain ⟨hfz28_0, hfz28_1, hfz28_2, hfz28_3, hfz28_4⟩ := Gv.f5 BK284.out) | ((with_reducible refine gate_callee (f := 75) rfl ?_); refine goesL_ (some 29) rfl rfl Try.func75 (by kernel_rfl) rfl #[.int .i64 a0_1] rfl Gv.lm ?_; (with_reducible refine (impl_isLong.calls a0_1 true _ A16.out).mono ?_); rintro e w' ⟨rfl, ⟨nd, rfl⟩⟩; refine ⟨_, rfl, ?_⟩) | (go_at_call 75; (with_reducible refine (impl_isLong.calls a0_2 false _ A18.out).mono ?_); rintro e w' ⟨rfl, ⟨nd, rfl⟩⟩))
     go_ret
     exact ⟨Gv.rt, Gv.bw⟩
   ·replace c17 := Bool.eq_false_iff.mpr c17
    subst c17
    have H1 : (some false) = some r := by rw [if_neg (show ¬ (false = true) by decide)] at H; exact H
    clear H
    have H := H1
    clear H1
    obtain rfl := Option.some.inj H
    go_enter Try.func65, Try.ntmps65
    go_wp2_with (first | ((with_reducible refine gate_dst (N := 1) rfl ?_); refine box_event ?hg (N := 1) ?hd (cs := #[.int .i64 a0_0, .int .i64 a0_1, .int .i64 a0_2, .int .i64 a0_3, .int .i64 a0_4]) (t := 34) ?hr ?_; (case hd => rfl); (case hg => rfl); (case hr => first | (go_simp; done) | (go_simp; rfl)); intro gb284 hg w29 hbox hb; have n0_ := Gv.a0 (below_step Gv.bw hb); have n1_ := Gv.a0 (hbox); have n2_ := Gv.a0 ((Gv.ble hg Gv.bw : w.heap.size ≤ gb284)); have n3_ := Gv.a0 ((Gv.ble hg Gv.bw : w.heap.size ≤ gb284)); clear HB; have HB := n0_; have BK284 := n1_; have GW284 := n2_; have GE284 := n3_; clear n0_ n1_ n2_ n3_; clear hb hbox hg; obtain ⟨hcz30_0, hcz30_1, hcz30_2, hcz30_3, hcz30_4⟩ := Gv.c5 BK284.out; obtain ⟨hfz30_0, hfz30_1, hfz30_2, hfz30_3, hfz30_4⟩ := Gv.f5 BK284.out) | ((with_reducible refine gate_callee (f := 75) rfl ?_); refine goesL_ (some 29) rfl rfl Try.func75 (by kernel_rfl) rfl #[.int .i64 a0_1] rfl Gv.lm ?_; (with_reducible refine (impl_isLong.calls a0_1 false _ A16.out).mono ?_); rintro e w' ⟨rfl, ⟨nd, rfl⟩⟩; refine ⟨_, rfl, ?_⟩))
    go_ret
    exact ⟨Gv.rt, Gv.bw⟩
  ·rw [if_neg c15] at H
   have c15b0 : (a0_0 == 6) = false := beq_eq_false_iff_ne.mpr c15
   have c15b1 : (a0_0 != 6) = true := bne_iff_ne.mpr c15
   obtain rfl := Option.some.inj H
   go_enter Try.func65, Try.ntmps65
   go_wp2_with (first | ((with_reducible refine gate_dst (N := 1) rfl ?_); refine box_event ?hg (N := 1) ?hd (cs := #[.int .i64 a0_0, .int .i64 a0_1, .int .i64 a0_2, .int .i64 a0_3, .int .i64 a0_4]) (t := 34) ?hr ?_; (case hd => rfl); (case hg => rfl); (case hr => first | (go_simp; done) | (go_simp; rfl)); intro gb284 hg w31 hbox hb; have n0_ := Gv.a0 (below_step Gv.bw hb); have n1_ := Gv.a0 (hbox); have n2_ := Gv.a0 ((Gv.ble hg Gv.bw : w.heap.size ≤ gb284)); have n3_ := Gv.a0 ((Gv.ble hg Gv.bw : w.heap.size ≤ gb284)); clear HB; have HB := n0_; have BK284 := n1_; have GW284 := n2_; have GE284 := n3_; clear n0_ n1_ n2_ n3_; clear hb hbox hg; obtain ⟨hcz32_0, hcz32_1, hcz32_2, hcz32_3, hcz32_4⟩ := Gv.c5 BK284.out; obtain ⟨hfz32_0, hfz32_1, hfz32_2, hfz32_3, hfz32_4⟩ := Gv.f5 BK284.out))
   go_ret
   exact ⟨Gv.rt, Gv.bw⟩

/-! ### impl_bitsOf: function 66 -/
def impl_bitsOf.f (a0_0 : Int) (a0_1 : Int) (a0_2 : Int) (a0_3 : Int) (a0_4 : Int) : Option (Int) := if a0_0 = 4 then (some 32) else (some 128)
set_option maxHeartbeats 8000000 in
set_option maxRecDepth 100000 in
theorem impl_bitsOf.calls (a0_0 : Int) (a0_1 : Int) (a0_2 : Int) (a0_3 : Int) (a0_4 : Int) (r : Int) (w : World) (h : impl_bitsOf.f a0_0 a0_1 a0_2 a0_3 a0_4 = some r) :
  Calls Try.prog 66 #[.agg #[.int .i64 a0_0, .int .i64 a0_1, .int .i64 a0_2, .int .i64 a0_3, .int .i64 a0_4]] w fun e w' => e = .returned (.int .i64 r) ∧ Below w.heap.size w w' := by
 have hu34 := Try.underlying34
 have HB := Gv.a0 (Below.refl w.heap.size w)
 have H : (if a0_0 = 4 then (some 32) else (some 128)) = some r := h
 clear h
 by_cases c2 : a0_0 = 4
 ·rw [if_pos c2] at H
  have c2b0 : (a0_0 == 4) = true := beq_iff_eq.mpr c2
  have c2b1 : (a0_0 != 4) = false := bne_eq_false_iff_eq.mpr c2
  clear c2
  obtain rfl := Option.some.inj H
  go_enter Try.func66, Try.ntmps66
  go_wp2_with (first | ((with_reducible refine gate_dst (N := 1) rfl ?_); refine box_event ?hg (N := 1) ?hd (cs := #[.int .i64 a0_0, .int .i64 a0_1, .int .i64 a0_2, .int .i64 a0_3, .int .i64 a0_4]) (t := 34) ?hr ?_; (case hd => rfl); (case hg => rfl); (case hr => first | (go_simp; done) | (go_simp; rfl)); intro gb290 hg w3 hbox hb; have n0_ := Gv.a0 (below_step Gv.bw hb); have n1_ := Gv.a0 (hbox); have n2_ := Gv.a0 ((Gv.ble hg Gv.bw : w.heap.size ≤ gb290)); have n3_ := Gv.a0 ((Gv.ble hg Gv.bw : w.heap.size ≤ gb290)); clear HB; have HB := n0_; have BK290 := n1_; have GW290 := n2_; have GE290 := n3_; clear n0_ n1_ n2_ n3_; clear hb hbox hg; obtain ⟨hcz4_0, hcz4_1, hcz4_2, hcz4_3, hcz4_4⟩ := Gv.c5 BK290.out; obtain ⟨hfz4_0, hfz4_1, hfz4_2, hfz4_3, hfz4_4⟩ := Gv.f5 BK290.out))
  go_ret
  exact ⟨Gv.rt, Gv.bw⟩
 ·rw [if_neg c2] at H
  have c2b0 : (a0_0 == 4) = false := beq_eq_false_iff_ne.mpr c2
  have c2b1 : (a0_0 != 4) = true := bne_iff_ne.mpr c2
  obtain rfl := Option.some.inj H
  go_enter Try.func66, Try.ntmps66
  go_wp2_with (first | ((with_reducible refine gate_dst (N := 1) rfl ?_); refine box_event ?hg (N := 1) ?hd (cs := #[.int .i64 a0_0, .int .i64 a0_1, .int .i64 a0_2, .int .i64 a0_3, .int .i64 a0_4]) (t := 34) ?hr ?_; (case hd => rfl); (case hg => rfl); (case hr => first | (go_simp; done) | (go_simp; rfl)); intro gb290 hg w5 hbox hb; have n0_ := Gv.a0 (below_step Gv.bw hb); have n1_ := Gv.a0 (hbox); have n2_ := Gv.a0 ((Gv.ble hg Gv.bw : w.heap.size ≤ gb290)); have n3_ := Gv.a0 ((Gv.ble hg Gv.bw : w.heap.size ≤ gb290)); clear HB; have HB := n0_; have BK290 := n1_; have GW290 := n2_; have GE290 := n3_; clear n0_ n1_ n2_ n3_; clear hb hbox hg; obtain ⟨hcz6_0, hcz6_1, hcz6_2, hcz6_3, hcz6_4⟩ := Gv.c5 BK290.out; obtain ⟨hfz6_0, hfz6_1, hfz6_2, hfz6_3, hfz6_4⟩ := Gv.f5 BK290.out))
  go_ret
  exact ⟨Gv.rt, Gv.bw⟩

/-! ### impl_put: function 86 -/
def impl_put.l0 : Nat → Int → Int → List Int → Int → Int → Option (List Int)
 | 0, _, _, _, _, _ => none
 | k + 1, x0, x1, x5, x10, x11 => if x11 < x10 then (if 0 ≤ (wrap64 (8 * (wrap64 ((wrap64 (x1 - 1)) - x11)))) then (if 0 ≤ x11 then (if x11 < (x5.length : Int) then (impl_put.l0 k x0 x1 (x5.set (x11 : Int).toNat ((shr .i64 x0 (wrap64 (8 * (wrap64 ((wrap64 (x1 - 1)) - x11))))) % 256)) x10 (wrap64 (x11 + 1))) else (none)) else (none)) else (none)) else (some x5)
def impl_put.f (k : Nat) (a0 : Int) (a1 : Int) : Option (List Int) := if 0 ≤ a1 then (if (a1 : Int).toNat ≤ 281474976710656 then ((some (List.replicate (a1 : Int).toNat 0 : List Int)).bind fun y291 => (impl_put.l0 k a0 a1 y291 (y291.length : Int) 0)) else (none)) else (none)
theorem impl_put.mono_l : ∀ k, (∀ y0 y1 y2 y3 y4, LeO (impl_put.l0 k y0 y1 y2 y3 y4) (impl_put.l0 (k + 1) y0 y1 y2 y3 y4))
 | 0 => fun _ _ _ _ _ r h => by simp [impl_put.l0] at h
 | k + 1 => by
  have ih0 := impl_put.mono_l k
  ·intro y0 y1 y2 y3 y4
   unfold impl_put.l0
   repeat' first
   | (with_reducible exact ih0 _ _ _ _ _)
   | (with_reducible exact LeO.refl _)
   | (with_reducible exact LeO.none _)
   | (with_reducible refine LeO.ite ?_ ?_)
   | (with_reducible refine LeO.bind ?_ (fun _ => ?_))
   | exact ih0 _ _ _ _ _
   | exact LeO.none _
   | refine LeO.ite ?_ ?_
   | refine LeO.bind ?_ (fun _ => ?_)
theorem impl_put.mono : ∀ a0 a1 k, LeO (impl_put.f k a0 a1) (impl_put.f (k + 1) a0 a1) := by
 intro a0 a1 k
 have ih0 := impl_put.mono_l k
 unfold impl_put.f
 repeat' first
   | (with_reducible exact ih0 _ _ _ _ _)
   | (with_reducible exact LeO.refl _)
   | (with_reducible exact LeO.none _)
   | (with_reducible refine LeO.ite ?_ ?_)
   | (with_reducible refine LeO.bind ?_ (fun _ => ?_))
   | exact ih0 _ _ _ _ _
   | exact LeO.none _
   | refine LeO.ite ?_ ?_
   | refine LeO.bind ?_ (fun _ => ?_)
set_option maxHeartbeats 8000000 in
set_option maxRecDepth 100000 in
theorem impl_put.calls (k : Nat) (a0 : Int) (a1 : Int) (r : List Int) (w : World) (h : impl_put.f k a0 a1 = some r) :
  Calls Try.prog 86 #[.int .i64 a0, .int .i64 a1] w fun e w' => ∃ v0_ : Value, e = .returned (v0_) ∧ Kd.R (Kd.int .u8) 5 w' w.heap.size (fun _ => True) v0_ r ∧ Below w.heap.size w w' := by
 have HB := Gv.a0 (Below.refl w.heap.size w)
 have H : (if 0 ≤ a1 then (if (a1 : Int).toNat ≤ 281474976710656 then ((some (List.replicate (a1 : Int).toNat 0 : List Int)).bind fun y291 => (impl_put.l0 k a0 a1 y291 (y291.length : Int) 0)) else (none)) else (none)) = some r := h
 clear h
 by_cases c3 : 0 ≤ a1
 ·rw [if_pos c3] at H
  have c3b0 := eq_true c3
  have c3b1 : decide (0 ≤ a1) = true := decide_eq_true c3
  clear c3
  by_cases c4 : (a1 : Int).toNat ≤ 281474976710656
  ·rw [if_pos c4] at H
   have c4b0 := eq_true c4
   have c4b1 : decide ((a1 : Int).toNat ≤ 281474976710656) = true := decide_eq_true c4
   clear c4
   obtain ⟨y291, hy291⟩ : ∃ y_ : List Int, y_ = (List.replicate (a1 : Int).toNat 0) := ⟨_, rfl⟩
   replace H : (impl_put.l0 k a0 a1 y291 (y291.length : Int) 0) = some r := by first | (rw [hy291]; with_reducible exact H) | (have H2_ := (Option.bind_some _ _).symm.trans H; rw [hy291]; with_reducible exact H2_) | (have H2_ := (Option.bind_some _ _).symm.trans H; with_reducible exact H2_) | with_reducible exact H | (rw [hy291]; exact H) | exact H
   have Ny291 := Gv.a0 hy291
   clear hy291
   have H' := Gv.a0 H
   clear H
   go_enter Try.func86, Try.ntmps86
   go_wp2_with (first | ((with_reducible refine gate_dst (N := 8) rfl ?_); refine Kd.R_make (Kd.int .u8) _ 5 rfl (N := 8) rfl 80 _ _ rfl a1 rfl rfl Try.underlying80 (.int .u8 0) 1 info5 rfl (by decide) (by omega) 0 (ok := fun _ => True) (okp := fun _ => True) rfl (fun _ hk => hk) trivial (of_decide_eq_true (by first | (with_reducible assumption) | assumption)) (Nat.le_trans (Nat.mul_le_mul_right _ (of_decide_eq_true (by first | (with_reducible assumption) | assumption) : a1.toNat ≤ 281474976710656)) (by omega)) (Below.refl _ _) (Nat.le_refl _) ?_; intro v292 w5 ho6 hb hg_ hnew_; clear hg_ hnew_; (first | rw [← Ny291.out] at ho6 | (simp only [Int.reduceToNat] at ho6; rw [← Ny291.out] at ho6)); have n0_ := Gv.a0 (Kd.R_lower ho6 (below_size Gv.bw)); have n1_ := Gv.a0 (below_step Gv.bw hb); clear HB; have HO293 := n0_; have HB := n1_; clear n0_ n1_; clear hb ho6; obtain ⟨Ao7, co7, eo7⟩ := Kd.R_slice HO293.out; subst eo7))
   go_loopg [11] k (fun kq v11 w' => ∃ (x5_1 : List Int) (x11_1 : Int), v11 = .int .i64 x11_1 ∧ Aside0 (impl_put.l0 kq a0 a1 x5_1 (y291.length : Int) x11_1 = some r) ∧ Aside0 (kq ≤ k) ∧ Aside0 (Kd.R (Kd.int .u8) 5 w' w.heap.size (fun _ => True) (.slice Ao7 y291.length co7) x5_1) ∧ Aside0 (Below w.heap.size w w'))
   case atStart => exact ⟨(y291), (0), Gv.rq, H', ⟨Nat.le_refl _⟩, ⟨Gv.kr HO293.out⟩, ⟨Gv.bw⟩⟩
   case round =>
    clear H'
    try clear p2
    try clear c3
    try clear c3b0
    try clear c3b1
    try clear c4
    try clear c4b0
    try clear c4b1
    obtain ⟨x5_1, x11_1, rfl, HA, HK1, HO_5, HB⟩ := hrel
    have hl5_1 := (Kd.R_reads' HO_5.out).1
    rw [hl5_1] at HO_5
    (try simp only [hl5_1])
    cases gk with
    | zero => exact absurd HA.out (by simp [impl_put.l0])
    | succ k1 =>
     have H := HA.out
     clear HA
     simp only [impl_put.l0] at H
     by_cases c8 : x11_1 < (y291.length : Int)
     ·rw [if_pos c8] at H
      have c8b0 : decide (x11_1 < (y291.length : Int)) = true := decide_eq_true c8
      (try (have c8b9 := c8b0; rw [hl5_1] at c8b9))
      (try (have c8b8 := c8b0; rw [← hl5_1] at c8b8))
      clear c8
      obtain ⟨ji9, hji9⟩ : ∃ j_ : Int, (wrap64 (8 * (wrap64 ((wrap64 (a1 - 1)) - x11_1)))) = j_ := ⟨_, rfl⟩
      replace H : (if 0 ≤ (ji9) then (if 0 ≤ x11_1 then (if x11_1 < (x5_1.length : Int) then (impl_put.l0 k1 a0 a1 (x5_1.set (x11_1 : Int).toNat ((shr .i64 a0 (ji9)) % 256)) (y291.length : Int) (wrap64 (x11_1 + 1))) else (none)) else (none)) else (none)) = some r := by first | (rw [hji9] at H; exact H) | (simp only [hji9] at H ⊢; exact H)
      have hji9w : (IntKind.i64.wrap (8 * (wrap64 ((wrap64 (a1 - 1)) - x11_1)))) = ji9 := (i64_w _).trans hji9
      by_cases c10 : 0 ≤ (ji9)
      ·rw [if_pos c10] at H
       have c10b0 := eq_true c10
       have c10b1 : decide (0 ≤ (ji9)) = true := decide_eq_true c10
       clear c10
       obtain ⟨ji11, hji11⟩ : ∃ j_ : Int, (shr .i64 a0 (ji9)) = j_ := ⟨_, rfl⟩
       replace H : (if 0 ≤ x11_1 then (if x11_1 < (x5_1.length : Int) then (impl_put.l0 k1 a0 a1 (x5_1.set (x11_1 : Int).toNat ((ji11) % 256)) (y291.length : Int) (wrap64 (x11_1 + 1))) else (none)) else (none)) = some r := by first | (rw [hji11] at H; exact H) | (simp only [hji11] at H ⊢; exact H)
       have hji11_ : (a0 / 2 ^ min (ji9).toNat 64) = ji11 := hji11
       have hji11z : (ji9) ≤ 64 → (a0 / 2 ^ (ji9).toNat) = ji11 := shr_small hji11
       by_cases c12 : 0 ≤ x11_1
       ·rw [if_pos c12] at H
        have c12b0 : decide (0 ≤ x11_1) = true := decide_eq_true c12
        clear c12
        by_cases c13 : x11_1 < (x5_1.length : Int)
        ·rw [if_pos c13] at H
         have c13b0 : decide (x11_1 < (x5_1.length : Int)) = true := decide_eq_true c13
         clear c13
         obtain ⟨y294, hy294⟩ : ∃ y_ : List Int, y_ = (x5_1.set (x11_1 : Int).toNat ((ji11) % 256)) := ⟨_, rfl⟩
         replace H : (impl_put.l0 k1 a0 a1 y294 (y291.length : Int) (wrap64 (x11_1 + 1))) = some r := by first | (rw [hy294]; with_reducible exact H) | (have H2_ := (Option.bind_some _ _).symm.trans H; rw [hy294]; with_reducible exact H2_) | (have H2_ := (Option.bind_some _ _).symm.trans H; with_reducible exact H2_) | with_reducible exact H | (rw [hy294]; exact H) | exact H
         have Ny294 := Gv.a0 hy294
         clear hy294
         have H' := Gv.a0 H
         clear H
         have p14 : 0 ≤ (x11_1 : Int) := of_decide_eq_true (by first | (with_reducible assumption) | assumption)
         have q14 : (x11_1 : Int) < ((x5_1.length : Int) : Int) := of_decide_eq_true (by first | (with_reducible assumption) | assumption)
         obtain ⟨go14, co14, eo14, gb14, gl14, cl14, HG14⟩ := Kd.R_form HO_5.out (by omega)
         (first | cases eo14 | (injection eo14 with ea_ en_ ec_; (first | subst ea_ | (injection ea_ with ea_; subst ea_)); subst ec_; clear en_))
         have GB14 := Gv.a0 gb14
         have GG14 := Gv.a0 HG14
         clear gb14 gl14 HG14
         obtain ⟨hx14_0, hf14_0⟩ := Kd.R_celln 0 HO_5.out (x11_1 : Int) p14 q14
         replace p14 := eq_true p14
         replace q14 := eq_true q14
         have HP15 := Kd.R_putg HO_5.out (x11_1 : Int) ((ji11) % 256)
         go_wp2_with (first | ((with_reducible refine gate_store (t := 5) (p := 24) rfl ?_); refine store_event (t := 5) (p := 24) (v := ?vo_w16) (w1 := (wr.setCell ⟨go14, (x11_1 : Int).toNat, none⟩ (.int .u8 ((ji11) % 256)))) ?hg ?ho ?hn ?hr ?_; (case ho => rfl); (case hg => rfl); (case hn => rfl); (case hr => first | (go_simp; done) | (go_simp; rfl)); intro w16 hw; have hg : wr.grownBy w16 (some go14) := (by rw [hw]; exact HP15.2); have hp_ : Kd.R (Kd.int .u8) 5 w16 w.heap.size (fun _ => True) (.slice (some ⟨go14, 0, none⟩) x5_1.length co7) y294 := (by rw [hw, Ny294.out]; exact HP15.1); clear HP15; have n0_ := Gv.a0 (hp_); have n1_ := Gv.a0 ((by rw [hw]; exact below_set (HB.out) GB14.out : Below w.heap.size w w16)); clear HO_5; clear HB; have HO_5 := n0_; have HB := n1_; clear n0_ n1_; clear hg hw hp_))
         (try simp only [← hl5_1])
         go_roundg k1
         case measure => have := HK1.out; omega
         case rel => exact ⟨(y294), (wrap64 (x11_1 + 1)), Gv.rq, H', ⟨by have := HK1.out; omega⟩, ⟨by (try simp only [hl5_1]); (with_reducible repeat (first | apply Kd.R_alloc | apply Kd.R_drewN | apply Kd.R_drew)); exact HO_5.out⟩, ⟨Gv.bw⟩⟩
        ·rw [if_neg c13] at H
         exact absurd H (by simp)
       ·rw [if_neg c12] at H
        exact absurd H (by simp)
      ·rw [if_neg c10] at H
       exact absurd H (by simp)
     ·rw [if_neg c8] at H
      have c8b0 : decide (x11_1 < (y291.length : Int)) = false := decide_eq_false c8
      (try (have c8b9 := c8b0; rw [hl5_1] at c8b9))
      (try (have c8b8 := c8b0; rw [← hl5_1] at c8b8))
      clear c8
      obtain rfl := Option.some.inj H
      go_wp2
      go_ret
      exact ⟨_, Gv.rt, Gv.kr HO_5.out, Gv.bw⟩
  ·rw [if_neg c4] at H
   exact absurd H (by simp)
 ·rw [if_neg c3] at H
  exact absurd H (by simp)

/-! ### impl_Put32: function 81 -/
def impl_Put32.f (k : Nat) (a0 : Int) : Option (List Int) := (impl_put.f k a0 4).bind fun t295 => (some t295)
theorem impl_Put32.mono : ∀ a0 k, LeO (impl_Put32.f k a0) (impl_Put32.f (k + 1) a0) := by
 intro a0 k
 unfold impl_Put32.f
 repeat' first
   | (with_reducible exact impl_put.mono _ _ _)
   | (with_reducible exact LeO.refl _)
   | (with_reducible exact LeO.none _)
   | (with_reducible refine LeO.ite ?_ ?_)
   | (with_reducible refine LeO.bind ?_ (fun _ => ?_))
   | exact impl_put.mono _ _ _
   | exact LeO.none _
   | refine LeO.ite ?_ ?_
   | refine LeO.bind ?_ (fun _ => ?_)
set_option maxHeartbeats 8000000 in
set_option maxRecDepth 100000 in
theorem impl_Put32.calls (k : Nat) (a0 : Int) (r : List Int) (w : World) (h : impl_Put32.f k a0 = some r) :
  Calls Try.prog 81 #[.int .i64 a0] w fun e w' => ∃ v0_ : Value, e = .returned (v0_) ∧ Kd.R (Kd.int .u8) 5 w' w.heap.size (fun _ => True) v0_ r ∧ Below w.heap.size w w' := by
 have HB := Gv.a0 (Below.refl w.heap.size w)
 have H : ((impl_put.f k a0 4).bind fun t295 => (some t295)) = some r := h
 clear h
 replace H := Option.bind_eq_some_iff.mp H
 obtain ⟨t295, A20, H⟩ := H
 replace H : (some t295) = some r := H
 have A2 := Gv.a0 A20
 clear A20
 obtain rfl := Option.some.inj H
 go_enter Try.func81, Try.ntmps81
 go_wp2_with (first | ((with_reducible refine gate_callee (f := 86) rfl ?_); refine goesL_ (some 4) rfl rfl Try.func86 (by kernel_rfl) rfl #[.int .i64 a0, .int .i64 4] rfl Gv.lm ?_; (with_reducible refine (impl_put.calls k a0 4 t295 _ A2.out).mono ?_); rintro e w3 ⟨v296, rfl, ho0, hb⟩; refine ⟨_, rfl, ?_⟩; have n0_ := Gv.a0 (Kd.R_lower ho0 (below_size Gv.bw)); have n1_ := Gv.a0 (below_step Gv.bw hb); clear HB; have HO297 := n0_; have HB := n1_; clear n0_ n1_; (try clear hb); (try clear hb2); (try clear hk); (try clear hi); (try clear ho0)))
 go_ret
 exact ⟨_, Gv.rt, Gv.kr HO297.out, Gv.bw⟩

/-! ### slices_Grow_byte_byte: function 87 -/
def slices_Grow_byte_byte.f (a0 : Int) : Option (List Int) := if 0 ≤ a0 ∧ a0 ≤ 1099511627776 then some ([] : List Int) else none
set_option maxHeartbeats 8000000 in
set_option maxRecDepth 100000 in
theorem slices_Grow_byte_byte.calls (a0 : Int) (r : List Int) (w : World) (h : slices_Grow_byte_byte.f a0 = some r) :
  Calls Try.prog 87 #[.slice none 0 0, .int .i64 a0] w fun e w' => ∃ v0_ : Value, e = .returned (v0_) ∧ Kd.R (Kd.int .u8) 5 w' w.heap.size (fun _ => True) v0_ r ∧ Below w.heap.size w w' := by
 unfold slices_Grow_byte_byte.f at h
 by_cases hn : 0 ≤ a0 ∧ a0 ≤ 1099511627776
 rotate_left
 ·rw [if_neg hn] at h
  cases h
 rw [if_pos hn] at h
 obtain rfl := Option.some.inj h
 clear h
 by_cases h0 : a0 = 0
 ·subst h0
  go_enter Try.func87, Try.ntmps87
  go_wp2
  go_ret
  exact ⟨_, rfl, Kd.R_nil _ _ _ _ _, Below.refl _ w⟩
 obtain ⟨n, rfl⟩ : ∃ n : Nat, a0 = n := ⟨a0.toNat, by omega⟩
 have hi := info5
 rw [Option.map_eq_some_iff] at hi
 obtain ⟨i, hi, hz⟩ := hi
 simp only [Prod.mk.injEq] at hz
 obtain ⟨hz, hs, hb⟩ := hz
 have hrz : ∀ ty, (Builtin.append_ #[80, 3] ty #[.slice none 0 0, .int .i64 (n : Int)]).run Try.prog w = _ := fun ty =>
  Lib.run_append_nil_zeros w 80 3 ty 5 i (.int .u8 0) .i64 .i64 Try.underlying80 Try.underlying3 hi hz n (by omega) (by omega) (by omega) (by rw [hb]; omega)
 have hG1 : n ≤ grownCap w n 0 5 := grownCap_ge w _ _ _
 have hG2 : grownCap w n 0 5 ≤ maxLen := grownCap_le_maxLen w n 0 5 (by unfold maxLen; omega)
 obtain ⟨G, hG⟩ : ∃ G, G = grownCap w n 0 5 := ⟨_, rfl⟩
 rw [← hG] at hrz hG1 hG2
 have h1 : ¬ ((n : Int) < 0) := by omega
 have h2 : wrap64 ((0 : Int) - 0) = 0 := by unfold wrap64; omega
 have h3 : wrap64 ((n : Int) - 0) = n := by unfold wrap64; omega
 have h4 : (n : Int) > 0 := by omega
 have hG63 : G ≤ 9223372036854775807 := by unfold maxLen at hG2; omega
 have hsz : (Builtin.zeroCells (Value.int .u8 0).cells n ++ Builtin.zeroCells (Value.int .u8 0).cells (G - n)).size = G * 1 := by
  rw [Array.size_append, size_zeroCells, size_zeroCells, show (Value.int .u8 0).cells.size = 1 from rfl]
  omega
 clear hG hz hs hb hi
 go_enter Try.func87, Try.ntmps87
 go_wp2_with (at_builtin; refine Lib.wpList_append_run _ rfl _ _ _ _ rfl _ _ rfl rfl _ _ (hrz _) ?_)
 go_ret
 refine ⟨_, rfl, ⟨fun _ _ => trivial, [], ⟨by simp, .inr ⟨w.heap.size, G, _, rfl, Nat.le_refl _, heap_alloc_new _ _, Nat.zero_le _, hG2, hsz, by simp⟩⟩, Reps.none _ _⟩, (below_alloc (below_drew1 (Below.refl _ w)) _)⟩

end Go.Proofs.Ytbihbbkdciebhaa.PRa
