/- Plain Lean functions of a law's Go functions, their contracts, by a program of this session (wip/pr.py over the kit's print). -/
import Derived.Test.YtbihbbkdciebhaaPRox0
import Derived.Test.YtbihbbkdciebhaaPRox2
import Derived.Test.YtbihbbkdciebhaaPRox4
namespace Go.Proofs.Ytbihbbkdciebhaa.PRo
open Go.RowKit Go.Proofs.YtbihbbkdciebhaaW.PrintWords Go.Proofs.YtbihbbkdciebhaaW.PrintLast Go.Proofs.YtbihbbkdciebhaaW.PrintMore
attribute [local go_sem] max2_int min2_int max_two min_two max_three min_three max_four min_four   -- for this text's walks alone
set_option linter.unusedVariables false
set_option linter.unusedSimpArgs false

attribute [local go_sem high] eqA53
/-! ### spec_RulesOk: function 9 -/
def spec_RulesOk.l0 : Nat → List (S55) → Int → Option (Bool)
 | 0, _, _ => none
 | k + 1, x0, x3 => if x3 < (x0.length : Int) then (if 0 ≤ x3 then ((spec_RuleOk.f k ((rd_T55 x0 x3).f0) ((rd_T55 x0 x3).f1.f0.f0) ((rd_T55 x0 x3).f1.f0.f1) ((rd_T55 x0 x3).f1.f0.f2) ((rd_T55 x0 x3).f1.f0.f3) ((rd_T55 x0 x3).f1.f0.f4) ((rd_T55 x0 x3).f1.f1) ((rd_T55 x0 x3).f2.f0.f0) ((rd_T55 x0 x3).f2.f0.f1) ((rd_T55 x0 x3).f2.f0.f2) ((rd_T55 x0 x3).f2.f0.f3) ((rd_T55 x0 x3).f2.f0.f4) ((rd_T55 x0 x3).f2.f1) ((rd_T55 x0 x3).f3) ((rd_T55 x0 x3).f4) ((rd_T55 x0 x3).f5) ((rd_T55 x0 x3).f6) ((rd_T55 x0 x3).f7) ((rd_T55 x0 x3).f8) ((rd_T55 x0 x3).f9) ((rd_T55 x0 x3).f10)).bind fun t194 => (if t194 = true then (if x3 > 0 then (if 0 ≤ (wrap64 (x3 - 1)) then (if (wrap64 (x3 - 1)) < (x0.length : Int) then (if ((rd_T55 x0 (wrap64 (x3 - 1))).f0) ≥ ((rd_T55 x0 x3).f0) then (some false) else (spec_RulesOk.l0 k x0 (wrap64 (x3 + 1)))) else (none)) else (none)) else (spec_RulesOk.l0 k x0 (wrap64 (x3 + 1)))) else (some false))) else (none)) else (some true)
def spec_RulesOk.f (k : Nat) (l0 : List (S55)) : Option (Bool) := if (l0.length : Int) > 32 then (some false) else (spec_RulesOk.l0 k l0 0)
theorem spec_RulesOk.mono_l : ∀ k, (∀ y0 y1, LeO (spec_RulesOk.l0 k y0 y1) (spec_RulesOk.l0 (k + 1) y0 y1))
 | 0 => fun _ _ r h => by simp [spec_RulesOk.l0] at h
 | k + 1 => by
  have ih0 := spec_RulesOk.mono_l k
  ·intro y0 y1
   unfold spec_RulesOk.l0
   repeat' first
   | (with_reducible exact ih0 _ _)
   | (with_reducible exact spec_RuleOk.mono _ _ _ _ _ _ _ _ _ _ _ _ _ _ _ _ _ _ _ _ _ _)
   | (with_reducible exact LeO.refl _)
   | (with_reducible exact LeO.none _)
   | (with_reducible refine LeO.ite ?_ ?_)
   | (with_reducible refine LeO.bind ?_ (fun _ => ?_))
   | exact ih0 _ _
   | exact spec_RuleOk.mono _ _ _ _ _ _ _ _ _ _ _ _ _ _ _ _ _ _ _ _ _ _
   | exact LeO.none _
   | refine LeO.ite ?_ ?_
   | refine LeO.bind ?_ (fun _ => ?_)
theorem spec_RulesOk.mono : ∀ a0 k, LeO (spec_RulesOk.f k a0) (spec_RulesOk.f (k + 1) a0) := by
 intro a0 k
 have ih0 := spec_RulesOk.mono_l k
 unfold spec_RulesOk.f
 repeat' first
   | (with_reducible exact ih0 _ _)
   | (with_reducible exact spec_RuleOk.mono _ _ _ _ _ _ _ _ _ _ _ _ _ _ _ _ _ _ _ _ _ _)
   | (with_reducible exact LeO.refl _)
   | (with_reducible exact LeO.none _)
   | (with_reducible refine LeO.ite ?_ ?_)
   | (with_reducible refine LeO.bind ?_ (fun _ => ?_))
   | exact ih0 _ _
   | exact spec_RuleOk.mono _ _ _ _ _ _ _ _ _ _ _ _ _ _ _ _ _ _ _ _ _ _
   | exact LeO.none _
   | refine LeO.ite ?_ ?_
   | refine LeO.bind ?_ (fun _ => ?_)
def spec_RulesOk.T6 : Bool × List (List Nat × List Nat) := (true, [([], []), ([], []), ([0, 1], [0, 1]), ([2], [2]), ([3], [3]), ([4], [4]), ([5, 4], [5]), ([6], [6]), ([7, 6], [6, 7]), ([8, 6, 6], [6, 8]), ([9], [9]), ([9], [9]), ([11, 9], [9, 11]), ([10, 12, 9], [9, 10, 12]), ([13, 9], [9, 13]), ([14, 9], [9, 14]), ([9], [9]), ([9], [9]), ([16, 17, 9], [9, 16, 17]), ([18, 9], [9, 18]), ([19, 9], [9, 19]), ([15, 20, 9], [9, 15, 20]), ([9, 21, 6], [6, 9, 21]), ([6, 22], [6, 22])])
def spec_RulesOk.B6 : List Nat := [0, 0, 3, 7, 15, 31, 63, 127, 255, 511, 1023, 1023, 3071, 8191, 16383, 32767, 1023, 1023, 197631, 459775, 984063, 2097151, 4194303, 8388607]
theorem spec_RulesOk.tab6 : rtab .any (opsOf Try.f9 6) = spec_RulesOk.T6 := by kernel_rfl
theorem spec_RulesOk.bits6 : waitsOk spec_RulesOk.T6.2 spec_RulesOk.B6 = true := by kernel_rfl
set_option maxHeartbeats 8000000 in
set_option maxRecDepth 100000 in
theorem spec_RulesOk.calls (k : Nat) (A0 : Option Addr) (c0 : Nat) (l0 : List (S55)) (r : Bool) (w : World) (hr0 : Kd.C k55 w A0 l0.length l0) (hc0 : l0.length ≤ c0) (h : spec_RulesOk.f k l0 = some r) :
  Calls Try.prog 9 #[.slice A0 l0.length c0] w fun e w' => e = .returned (.bool r) ∧ Below w.heap.size w w' := by
 have hu55 := Try.underlying55
 have HR0 := Gv.a0 hr0
 have HC0 := Gv.a0 hc0
 clear hr0 hc0
 have HB := Gv.a0 (Below.refl w.heap.size w)
 have H : (if (l0.length : Int) > 32 then (some false) else (spec_RulesOk.l0 k l0 0)) = some r := h
 clear h
 by_cases c2 : (l0.length : Int) > 32
 ·rw [if_pos c2] at H
  have c2b0 : decide (32 < (l0.length : Int)) = true := decide_eq_true c2
  have c2b1 : decide (32 < l0.length) = true := decide_eq_true (by omega)
  clear c2
  obtain rfl := Option.some.inj H
  go_enter Try.func9, Try.ntmps9
  go_wp2
  go_ret
  exact ⟨by first | rfl | (simp [errW_none, errW_some] <;> rfl) | (simp [*, errW_none, errW_some] <;> rfl), by repeat (first | (with_reducible first | exact HB.out | apply below_alloc | apply pw_below_drewN | apply below_drew1) | exact HB.out)⟩
 ·rw [if_neg c2] at H
  have c2b0 : decide (32 < (l0.length : Int)) = false := decide_eq_false c2
  have c2b1 : decide (32 < l0.length) = false := decide_eq_false (by omega)
  clear c2
  have H' := Gv.a0 H
  clear H
  go_enter Try.func9, Try.ntmps9
  go_wp2
  go_loopg [3] k (fun kq v3 w' => ∃ (x3_1 : Int), v3 = .int .i64 x3_1 ∧ Aside0 (spec_RulesOk.l0 kq l0 x3_1 = some r) ∧ Aside0 (kq ≤ k) ∧ Aside0 (Below w.heap.size w w'))
  case atStart => exact ⟨(0), (by first | rfl | (simp; done) | (simp [Int.tdiv_eq_ediv_of_nonneg]; done) | (simp [*]; done)), H', ⟨Nat.le_refl _⟩, ⟨by repeat (first | (with_reducible first | exact HB.out | apply below_alloc | apply pw_below_drewN | apply below_drew1) | exact HB.out)⟩⟩
  case round =>
   clear H'
   try clear c2
   try clear c2b0
   try clear c2b1
   try clear p2
   obtain ⟨x3_1, rfl, HA, HK1, HB⟩ := hrel
   cases gk with
   | zero => exact absurd HA.out (by simp [spec_RulesOk.l0])
   | succ k1 =>
    have H := HA.out
    clear HA
    simp only [spec_RulesOk.l0] at H
    by_cases c3 : x3_1 < (l0.length : Int)
    ·rw [if_pos c3] at H
     have c3b0 : decide (x3_1 < (l0.length : Int)) = true := decide_eq_true c3
     clear c3
     by_cases c4 : 0 ≤ x3_1
     ·rw [if_pos c4] at H
      have c4b0 : decide (0 ≤ x3_1) = true := decide_eq_true c4
      clear c4
      replace H := Option.bind_eq_some_iff.mp H
      obtain ⟨t194, A50, H⟩ := H
      replace H : (if t194 = true then (if x3_1 > 0 then (if 0 ≤ (wrap64 (x3_1 - 1)) then (if (wrap64 (x3_1 - 1)) < (l0.length : Int) then (if ((rd_T55 l0 (wrap64 (x3_1 - 1))).f0) ≥ ((rd_T55 l0 x3_1).f0) then (some false) else (spec_RulesOk.l0 k1 l0 (wrap64 (x3_1 + 1)))) else (none)) else (none)) else (spec_RulesOk.l0 k1 l0 (wrap64 (x3_1 + 1)))) else (some false)) = some r := H
      have A5 := Gv.a0 A50
      clear A50
      by_cases c6 : t194 = true
      ·subst c6
       have H1 : (if x3_1 > 0 then (if 0 ≤ (wrap64 (x3_1 - 1)) then (if (wrap64 (x3_1 - 1)) < (l0.length : Int) then (if ((rd_T55 l0 (wrap64 (x3_1 - 1))).f0) ≥ ((rd_T55 l0 x3_1).f0) then (some false) else (spec_RulesOk.l0 k1 l0 (wrap64 (x3_1 + 1)))) else (none)) else (none)) else (spec_RulesOk.l0 k1 l0 (wrap64 (x3_1 + 1)))) = some r := by rw [if_pos rfl] at H; exact H
       clear H
       have H := H1
       clear H1
       by_cases c7 : x3_1 > 0
       ·rw [if_pos c7] at H
        have c7b0 : decide (0 < x3_1) = true := decide_eq_true c7
        clear c7
        obtain ⟨ji8, hji8⟩ : ∃ j_ : Int, (wrap64 (x3_1 - 1)) = j_ := ⟨_, rfl⟩
        replace H : (if 0 ≤ (ji8) then (if (ji8) < (l0.length : Int) then (if ((rd_T55 l0 (ji8)).f0) ≥ ((rd_T55 l0 x3_1).f0) then (some false) else (spec_RulesOk.l0 k1 l0 (wrap64 (x3_1 + 1)))) else (none)) else (none)) = some r := by first | (rw [hji8] at H; exact H) | (simp only [hji8] at H ⊢; exact H)
        (try rw [hji8] at A5)
        have hji8w : (IntKind.i64.wrap (x3_1 - 1)) = ji8 := (i64_w _).trans hji8
        by_cases c9 : 0 ≤ (ji8)
        ·rw [if_pos c9] at H
         have c9b0 : decide (0 ≤ (ji8)) = true := decide_eq_true c9
         clear c9
         by_cases c10 : (ji8) < (l0.length : Int)
         ·rw [if_pos c10] at H
          have c10b0 : decide ((ji8) < (l0.length : Int)) = true := decide_eq_true c10
          clear c10
          by_cases c11 : ((rd_T55 l0 (ji8)).f0) ≥ ((rd_T55 l0 x3_1).f0)
          ·rw [if_pos c11] at H
           have c11b0 : decide (((rd_T55 l0 x3_1).f0) ≤ ((rd_T55 l0 (ji8)).f0)) = true := decide_eq_true c11
           clear c11
           obtain rfl := Option.some.inj H
           try go_wp2
           have n0_ := Gv.a0 (below_drew1 HB.out)
           clear HB
           have HB := n0_
           clear n0_
           have p193 : 0 ≤ (x3_1 : Int) := of_decide_eq_true (by first | (with_reducible assumption) | assumption)
           have q193 : x3_1 < (l0.length : Int) := of_decide_eq_true (by first | (with_reducible assumption) | assumption)
           obtain ⟨ad193, e193, hx193_0, hx193_1, hx193_2, hx193_3, hx193_4, hx193_5, hx193_6, hx193_7, hx193_8, hx193_9, hx193_10, hx193_11, hx193_12, hx193_13, hx193_14, hx193_15, hx193_16, hx193_17, hx193_18, hx193_19, hx193_20⟩ := at_T55 HR0.out x3_1 p193 q193
           have hw193_20 := hx193_20
           have hw193_19 := hx193_19
           have hw193_18 := hx193_18
           have hw193_17 := hx193_17
           have hw193_16 := hx193_16
           have hw193_15 := hx193_15
           have hw193_14 := hx193_14
           have hw193_13 := hx193_13
           have hw193_12 := hx193_12
           have hw193_11 := hx193_11
           have hw193_10 := hx193_10
           have hw193_9 := hx193_9
           have hw193_8 := hx193_8
           have hw193_7 := hx193_7
           have hw193_6 := hx193_6
           have hw193_5 := hx193_5
           have hw193_4 := hx193_4
           have hw193_3 := hx193_3
           have hw193_2 := hx193_2
           have hw193_1 := hx193_1
           have hw193_0 := hx193_0
           cases e193
           replace hx193_0 := Gv.bx HB.out hx193_0
           replace hx193_1 := Gv.bx HB.out hx193_1
           replace hx193_2 := Gv.bx HB.out hx193_2
           replace hx193_3 := Gv.bx HB.out hx193_3
           replace hx193_4 := Gv.bx HB.out hx193_4
           replace hx193_5 := Gv.bx HB.out hx193_5
           replace hx193_6 := Gv.bx HB.out hx193_6
           replace hx193_7 := Gv.bx HB.out hx193_7
           replace hx193_8 := Gv.bx HB.out hx193_8
           replace hx193_9 := Gv.bx HB.out hx193_9
           replace hx193_10 := Gv.bx HB.out hx193_10
           replace hx193_11 := Gv.bx HB.out hx193_11
           replace hx193_12 := Gv.bx HB.out hx193_12
           replace hx193_13 := Gv.bx HB.out hx193_13
           replace hx193_14 := Gv.bx HB.out hx193_14
           replace hx193_15 := Gv.bx HB.out hx193_15
           replace hx193_16 := Gv.bx HB.out hx193_16
           replace hx193_17 := Gv.bx HB.out hx193_17
           replace hx193_18 := Gv.bx HB.out hx193_18
           replace hx193_19 := Gv.bx HB.out hx193_19
           replace hx193_20 := Gv.bx HB.out hx193_20
           replace p193 := eq_true p193
           replace q193 := eq_true q193
           have p195 : 0 ≤ ((ji8) : Int) := of_decide_eq_true (by first | (with_reducible assumption) | assumption)
           have q195 : (ji8) < (l0.length : Int) := of_decide_eq_true (by first | (with_reducible assumption) | assumption)
           obtain ⟨ad195, e195, hx195_0, _, _, _, _, _, _, _, _, _, _, _, _, _, _, _, _, _, _, _, _⟩ := at_T55 HR0.out (ji8) p195 q195
           have hw195_0 := hx195_0
           obtain rfl : ad193 = ad195 := (by injection e195)
           replace hx195_0 := Gv.bx HB.out hx195_0
           replace p195 := eq_true p195
           replace q195 := eq_true q195
           have p196 : 0 ≤ (x3_1 : Int) := of_decide_eq_true (by first | (with_reducible assumption) | assumption)
           have q196 : x3_1 < (l0.length : Int) := of_decide_eq_true (by first | (with_reducible assumption) | assumption)
           obtain ⟨ad196, e196, hx196_0, _, _, _, _, _, _, _, _, _, _, _, _, _, _, _, _, _, _, _, _⟩ := at_T55 HR0.out x3_1 p196 q196
           have hw196_0 := hx196_0
           obtain rfl : ad193 = ad196 := (by injection e196)
           replace hx196_0 := Gv.bx HB.out hx196_0
           replace p196 := eq_true p196
           replace q196 := eq_true q196
           refine start_ (n := 24) (S := fun w' => w'.cell? (ad193.add ((x3_1).toNat * 21)) = some (.int .i64 ((rd_T55 l0 x3_1).f0)) ∧ w'.cell? ⟨(ad193.add ((x3_1).toNat * 21)).block, (ad193.add ((x3_1).toNat * 21)).off + 1, none⟩ = some (.int .i64 ((rd_T55 l0 x3_1).f1.f0.f0)) ∧ w'.cell? ⟨(ad193.add ((x3_1).toNat * 21)).block, (ad193.add ((x3_1).toNat * 21)).off + 2, none⟩ = some (.int .i64 ((rd_T55 l0 x3_1).f1.f0.f1)) ∧ w'.cell? ⟨(ad193.add ((x3_1).toNat * 21)).block, (ad193.add ((x3_1).toNat * 21)).off + 3, none⟩ = some (.int .i64 ((rd_T55 l0 x3_1).f1.f0.f2)) ∧ w'.cell? ⟨(ad193.add ((x3_1).toNat * 21)).block, (ad193.add ((x3_1).toNat * 21)).off + 4, none⟩ = some (.int .i64 ((rd_T55 l0 x3_1).f1.f0.f3)) ∧ w'.cell? ⟨(ad193.add ((x3_1).toNat * 21)).block, (ad193.add ((x3_1).toNat * 21)).off + 5, none⟩ = some (.int .i64 ((rd_T55 l0 x3_1).f1.f0.f4)) ∧ w'.cell? ⟨(ad193.add ((x3_1).toNat * 21)).block, (ad193.add ((x3_1).toNat * 21)).off + 6, none⟩ = some (.int .i64 ((rd_T55 l0 x3_1).f1.f1)) ∧ w'.cell? ⟨(ad193.add ((x3_1).toNat * 21)).block, (ad193.add ((x3_1).toNat * 21)).off + 7, none⟩ = some (.int .i64 ((rd_T55 l0 x3_1).f2.f0.f0)) ∧ w'.cell? ⟨(ad193.add ((x3_1).toNat * 21)).block, (ad193.add ((x3_1).toNat * 21)).off + 8, none⟩ = some (.int .i64 ((rd_T55 l0 x3_1).f2.f0.f1)) ∧ w'.cell? ⟨(ad193.add ((x3_1).toNat * 21)).block, (ad193.add ((x3_1).toNat * 21)).off + 9, none⟩ = some (.int .i64 ((rd_T55 l0 x3_1).f2.f0.f2)) ∧ w'.cell? ⟨(ad193.add ((x3_1).toNat * 21)).block, (ad193.add ((x3_1).toNat * 21)).off + 10, none⟩ = some (.int .i64 ((rd_T55 l0 x3_1).f2.f0.f3)) ∧ w'.cell? ⟨(ad193.add ((x3_1).toNat * 21)).block, (ad193.add ((x3_1).toNat * 21)).off + 11, none⟩ = some (.int .i64 ((rd_T55 l0 x3_1).f2.f0.f4)) ∧ w'.cell? ⟨(ad193.add ((x3_1).toNat * 21)).block, (ad193.add ((x3_1).toNat * 21)).off + 12, none⟩ = some (.int .i64 ((rd_T55 l0 x3_1).f2.f1)) ∧ w'.cell? ⟨(ad193.add ((x3_1).toNat * 21)).block, (ad193.add ((x3_1).toNat * 21)).off + 13, none⟩ = some (.int .i64 ((rd_T55 l0 x3_1).f3)) ∧ w'.cell? ⟨(ad193.add ((x3_1).toNat * 21)).block, (ad193.add ((x3_1).toNat * 21)).off + 14, none⟩ = some (.int .i64 ((rd_T55 l0 x3_1).f4)) ∧ w'.cell? ⟨(ad193.add ((x3_1).toNat * 21)).block, (ad193.add ((x3_1).toNat * 21)).off + 15, none⟩ = some (.int .i64 ((rd_T55 l0 x3_1).f5)) ∧ w'.cell? ⟨(ad193.add ((x3_1).toNat * 21)).block, (ad193.add ((x3_1).toNat * 21)).off + 16, none⟩ = some (.int .i64 ((rd_T55 l0 x3_1).f6)) ∧ w'.cell? ⟨(ad193.add ((x3_1).toNat * 21)).block, (ad193.add ((x3_1).toNat * 21)).off + 17, none⟩ = some (.int .i64 ((rd_T55 l0 x3_1).f7)) ∧ w'.cell? ⟨(ad193.add ((x3_1).toNat * 21)).block, (ad193.add ((x3_1).toNat * 21)).off + 18, none⟩ = some (.int .i64 ((rd_T55 l0 x3_1).f8)) ∧ w'.cell? ⟨(ad193.add ((x3_1).toNat * 21)).block, (ad193.add ((x3_1).toNat * 21)).off + 19, none⟩ = some (.int .i64 ((rd_T55 l0 x3_1).f9)) ∧ w'.cell? ⟨(ad193.add ((x3_1).toNat * 21)).block, (ad193.add ((x3_1).toNat * 21)).off + 20, none⟩ = some (.int .i64 ((rd_T55 l0 x3_1).f10)) ∧ w'.cell? (ad193.add (((ji8)).toNat * 21)) = some (.int .i64 ((rd_T55 l0 (ji8)).f0)) ∧ w'.cell? (ad193.add ((x3_1).toNat * 21)) = some (.int .i64 ((rd_T55 l0 x3_1).f0))) (ds := []) #[false, false, false, false, false, false, false, false, false, false, false, false, false, false, false, false, false, false, false, false, false, false, false, false] (by kernel_rfl) rfl rfl ⟨(Gv.bx HB.out hw193_0), (Gv.bx HB.out hw193_1), (Gv.bx HB.out hw193_2), (Gv.bx HB.out hw193_3), (Gv.bx HB.out hw193_4), (Gv.bx HB.out hw193_5), (Gv.bx HB.out hw193_6), (Gv.bx HB.out hw193_7), (Gv.bx HB.out hw193_8), (Gv.bx HB.out hw193_9), (Gv.bx HB.out hw193_10), (Gv.bx HB.out hw193_11), (Gv.bx HB.out hw193_12), (Gv.bx HB.out hw193_13), (Gv.bx HB.out hw193_14), (Gv.bx HB.out hw193_15), (Gv.bx HB.out hw193_16), (Gv.bx HB.out hw193_17), (Gv.bx HB.out hw193_18), (Gv.bx HB.out hw193_19), (Gv.bx HB.out hw193_20), (Gv.bx HB.out hw195_0), (Gv.bx HB.out hw196_0)⟩ (fun hHeld => ?_); refine with_tabW spec_RulesOk.tab6 spec_RulesOk.bits6 (fun HT_ HW_ => ?_)
           generalize wr.drew = w12 at HB hx193_0 hx193_1 hx193_10 hx193_11 hx193_12 hx193_13 hx193_14 hx193_15 hx193_16 hx193_17 hx193_18 hx193_19 hx193_2 hx193_20 hx193_3 hx193_4 hx193_5 hx193_6 hx193_7 hx193_8 hx193_9 hx195_0 hx196_0 hHeld ⊢
           refine Gv.pu 0 (some 13) HT_ ?_
           refine Gv.pu 1 (some 14) HT_ ?_
           refine Gv.pu 2 (some 15) HT_ ?_
           refine take_ (i := 3) (N := some 16) (v := ?_) (a' := ?_) #[true, true, true, true, false, false, false, false, false, false, false, false, false, false, false, false, false, false, false, false, false, false, false, false] rfl rfl (take_ofW HT_.out HW_.out (by kernel_rfl)) (fun _ _ _ h => h) (Or.inl ⟨by rfl, ?_⟩) hHeld ?_ ?_
           rotate_left
           ·rintro w' ⟨s0, s1, s2, s3, s4, s5, s6, s7, s8, s9, s10, s11, s12, s13, s14, s15, s16, s17, s18, s19, s20, s21, s22⟩
            first | ((refine Gv.load_run (t := 55) (A := ad193.add ((x3_1).toNat * 21)) (cs := [_, _, _, _, _, _, _, _, _, _, _, _, _, _, _, _, _, _, _, _, _]) (x := ?xx1_) ?ho1_ ?hx1_ ⟨s0, s1, s2, s3, s4, s5, s6, s7, s8, s9, s10, s11, s12, s13, s14, s15, s16, s17, s18, s19, s20, trivial⟩ Try.underlying55 rfl (by kernel_rfl)); (case ho1_ => rfl); (case hx1_ => rfl)) | (go_simp; with_reducible rfl)
           rotate_left
           ·simp only [Act.put, List.setIfInBounds_toArray, List.set_cons_zero, List.set_cons_succ, i64_w, i32_w]
            rfl
           refine one_ (i := 4) (N := some 17) #[true, true, true, true, true, false, false, false, false, false, false, false, false, false, false, false, false, false, false, false, false, false, false, false] rfl rfl (one_of HT_.out (by kernel_rfl)) (by decide) (fun K hK => ?_)
           refine goes_ Try.func28 (by kernel_rfl) rfl #[.agg #[.int .i64 ((rd_T55 l0 x3_1).f0), .int .i64 ((rd_T55 l0 x3_1).f1.f0.f0), .int .i64 ((rd_T55 l0 x3_1).f1.f0.f1), .int .i64 ((rd_T55 l0 x3_1).f1.f0.f2), .int .i64 ((rd_T55 l0 x3_1).f1.f0.f3), .int .i64 ((rd_T55 l0 x3_1).f1.f0.f4), .int .i64 ((rd_T55 l0 x3_1).f1.f1), .int .i64 ((rd_T55 l0 x3_1).f2.f0.f0), .int .i64 ((rd_T55 l0 x3_1).f2.f0.f1), .int .i64 ((rd_T55 l0 x3_1).f2.f0.f2), .int .i64 ((rd_T55 l0 x3_1).f2.f0.f3), .int .i64 ((rd_T55 l0 x3_1).f2.f0.f4), .int .i64 ((rd_T55 l0 x3_1).f2.f1), .int .i64 ((rd_T55 l0 x3_1).f3), .int .i64 ((rd_T55 l0 x3_1).f4), .int .i64 ((rd_T55 l0 x3_1).f5), .int .i64 ((rd_T55 l0 x3_1).f6), .int .i64 ((rd_T55 l0 x3_1).f7), .int .i64 ((rd_T55 l0 x3_1).f8), .int .i64 ((rd_T55 l0 x3_1).f9), .int .i64 ((rd_T55 l0 x3_1).f10)]] (by rfl) rfl rfl Gv.lm ?_
           with_reducible refine (spec_RuleOk.calls k1 ((rd_T55 l0 x3_1).f0) ((rd_T55 l0 x3_1).f1.f0.f0) ((rd_T55 l0 x3_1).f1.f0.f1) ((rd_T55 l0 x3_1).f1.f0.f2) ((rd_T55 l0 x3_1).f1.f0.f3) ((rd_T55 l0 x3_1).f1.f0.f4) ((rd_T55 l0 x3_1).f1.f1) ((rd_T55 l0 x3_1).f2.f0.f0) ((rd_T55 l0 x3_1).f2.f0.f1) ((rd_T55 l0 x3_1).f2.f0.f2) ((rd_T55 l0 x3_1).f2.f0.f3) ((rd_T55 l0 x3_1).f2.f0.f4) ((rd_T55 l0 x3_1).f2.f1) ((rd_T55 l0 x3_1).f3) ((rd_T55 l0 x3_1).f4) ((rd_T55 l0 x3_1).f5) ((rd_T55 l0 x3_1).f6) ((rd_T55 l0 x3_1).f7) ((rd_T55 l0 x3_1).f8) ((rd_T55 l0 x3_1).f9) ((rd_T55 l0 x3_1).f10) true _ A5.out).mono ?_
           rintro e w13 ⟨rfl, hb⟩
           refine ⟨_, rfl, ?_⟩
           have n0_ := Gv.a0 (below_step Gv.bw hb)
           clear HB
           have HB := n0_
           clear n0_
           (try clear hb)
           (try clear hb2)
           (try clear hk)
           (try clear hi)
           refine hK.out _ _ ⟨(Gv.bx HB.out hw193_0), (Gv.bx HB.out hw193_1), (Gv.bx HB.out hw193_2), (Gv.bx HB.out hw193_3), (Gv.bx HB.out hw193_4), (Gv.bx HB.out hw193_5), (Gv.bx HB.out hw193_6), (Gv.bx HB.out hw193_7), (Gv.bx HB.out hw193_8), (Gv.bx HB.out hw193_9), (Gv.bx HB.out hw193_10), (Gv.bx HB.out hw193_11), (Gv.bx HB.out hw193_12), (Gv.bx HB.out hw193_13), (Gv.bx HB.out hw193_14), (Gv.bx HB.out hw193_15), (Gv.bx HB.out hw193_16), (Gv.bx HB.out hw193_17), (Gv.bx HB.out hw193_18), (Gv.bx HB.out hw193_19), (Gv.bx HB.out hw193_20), (Gv.bx HB.out hw195_0), (Gv.bx HB.out hw196_0)⟩ (fun hHeld => ?_)
           clear hK K
           refine norm_ (a' := ?_) ?_ ?_
           rotate_left
           ·show Act.put _ (some 17) _ = _
            simp only [Act.put, List.setIfInBounds_toArray, List.set_cons_zero, List.set_cons_succ, i64_w, i32_w]
            rfl
           refine Gv.pu 5 (some 18) HT_ ?_
           refine Gv.pu 6 (some 19) HT_ ?_
           refine Gv.pu 7 (some 20) HT_ ?_
           refine Gv.pu 8 (some 21) HT_ ?_
           refine Gv.pu 9 (some 22) HT_ ?_
           refine Gv.pu 10 (some 23) HT_ ?_
           refine Gv.pu 11 (some 24) HT_ ?_
           refine Gv.pu 12 (some 25) HT_ ?_
           refine Gv.pu 13 (some 26) HT_ ?_
           refine Gv.pu 14 (some 27) HT_ ?_
           refine Gv.pu 16 (some 29) HT_ ?_
           refine Gv.pu 17 (some 30) HT_ ?_
           refine Gv.pu 18 (some 31) HT_ ?_
           refine Gv.pu 19 (some 32) HT_ ?_
           refine take_ (i := 15) (N := some 28) (v := ?_) (a' := ?_) #[true, true, true, true, true, true, true, true, true, true, true, true, true, true, true, true, true, true, true, true, false, false, false, false] rfl rfl (take_ofW HT_.out HW_.out (by kernel_rfl)) (fun _ _ _ h => h) (Or.inl ⟨by rfl, ?_⟩) hHeld ?_ ?_
           rotate_left
           ·rintro w' ⟨s0, s1, s2, s3, s4, s5, s6, s7, s8, s9, s10, s11, s12, s13, s14, s15, s16, s17, s18, s19, s20, s21, s22⟩
            first | ((refine Gv.load_run (t := 55) (A := ad193.add ((x3_1).toNat * 21)) (cs := [_, _, _, _, _, _, _, _, _, _, _, _, _, _, _, _, _, _, _, _, _]) (x := ?xx3_) ?ho3_ ?hx3_ ⟨s0, s1, s2, s3, s4, s5, s6, s7, s8, s9, s10, s11, s12, s13, s14, s15, s16, s17, s18, s19, s20, trivial⟩ Try.underlying55 rfl (by kernel_rfl)); (case ho3_ => rfl); (case hx3_ => rfl)) | (go_simp; with_reducible rfl)
           rotate_left
           ·simp only [Act.put, List.setIfInBounds_toArray, List.set_cons_zero, List.set_cons_succ, i64_w, i32_w]
            rfl
           refine take_ (i := 20) (N := some 33) (v := ?_) (a' := ?_) #[true, true, true, true, true, true, true, true, true, true, true, true, true, true, true, true, true, true, true, true, true, false, false, false] rfl rfl (take_ofW HT_.out HW_.out (by kernel_rfl)) (fun _ _ _ h => h) (Or.inl ⟨by rfl, ?_⟩) hHeld ?_ ?_
           rotate_left
           ·rintro w' ⟨s0, s1, s2, s3, s4, s5, s6, s7, s8, s9, s10, s11, s12, s13, s14, s15, s16, s17, s18, s19, s20, s21, s22⟩
            first | ((refine Gv.load_run (t := 55) (A := ad193.add ((x3_1).toNat * 21)) (cs := [_, _, _, _, _, _, _, _, _, _, _, _, _, _, _, _, _, _, _, _, _]) (x := ?xx5_) ?ho5_ ?hx5_ ⟨s0, s1, s2, s3, s4, s5, s6, s7, s8, s9, s10, s11, s12, s13, s14, s15, s16, s17, s18, s19, s20, trivial⟩ Try.underlying55 rfl (by kernel_rfl)); (case ho5_ => rfl); (case hx5_ => rfl)) | (go_simp; with_reducible rfl)
           rotate_left
           ·simp only [Act.put, List.setIfInBounds_toArray, List.set_cons_zero, List.set_cons_succ, i64_w, i32_w]
            rfl
           refine Gv.pu 21 (some 34) HT_ ?_
           refine Gv.pu 22 (some 35) HT_ ?_
           refine Gv.pu 23 (some 36) HT_ ?_
           refine done_ (done_of HT_.out (by kernel_rfl)) ?_
           try go_wp2
           go_ret
           exact ⟨by first | rfl | (simp [errW_none, errW_some] <;> rfl) | (simp only [← hji8]; first | rfl | (simp [errW_none, errW_some] <;> rfl)) | (simp [*, errW_none, errW_some] <;> rfl), by repeat (first | (with_reducible first | exact HB.out | apply below_alloc | apply pw_below_drewN | apply below_drew1) | exact HB.out)⟩
          ·rw [if_neg c11] at H
           have c11b0 : decide (((rd_T55 l0 x3_1).f0) ≤ ((rd_T55 l0 (ji8)).f0)) = false := decide_eq_false c11
           clear c11
           have H' := Gv.a0 H
           clear H
           try go_wp2
           have n0_ := Gv.a0 (below_drew1 HB.out)
           clear HB
           have HB := n0_
           clear n0_
           have p193 : 0 ≤ (x3_1 : Int) := of_decide_eq_true (by first | (with_reducible assumption) | assumption)
           have q193 : x3_1 < (l0.length : Int) := of_decide_eq_true (by first | (with_reducible assumption) | assumption)
           obtain ⟨ad193, e193, hx193_0, hx193_1, hx193_2, hx193_3, hx193_4, hx193_5, hx193_6, hx193_7, hx193_8, hx193_9, hx193_10, hx193_11, hx193_12, hx193_13, hx193_14, hx193_15, hx193_16, hx193_17, hx193_18, hx193_19, hx193_20⟩ := at_T55 HR0.out x3_1 p193 q193
           have hw193_20 := hx193_20
           have hw193_19 := hx193_19
           have hw193_18 := hx193_18
           have hw193_17 := hx193_17
           have hw193_16 := hx193_16
           have hw193_15 := hx193_15
           have hw193_14 := hx193_14
           have hw193_13 := hx193_13
           have hw193_12 := hx193_12
           have hw193_11 := hx193_11
           have hw193_10 := hx193_10
           have hw193_9 := hx193_9
           have hw193_8 := hx193_8
           have hw193_7 := hx193_7
           have hw193_6 := hx193_6
           have hw193_5 := hx193_5
           have hw193_4 := hx193_4
           have hw193_3 := hx193_3
           have hw193_2 := hx193_2
           have hw193_1 := hx193_1
           have hw193_0 := hx193_0
           cases e193
           replace hx193_0 := Gv.bx HB.out hx193_0
           replace hx193_1 := Gv.bx HB.out hx193_1
           replace hx193_2 := Gv.bx HB.out hx193_2
           replace hx193_3 := Gv.bx HB.out hx193_3
           replace hx193_4 := Gv.bx HB.out hx193_4
           replace hx193_5 := Gv.bx HB.out hx193_5
           replace hx193_6 := Gv.bx HB.out hx193_6
           replace hx193_7 := Gv.bx HB.out hx193_7
           replace hx193_8 := Gv.bx HB.out hx193_8
           replace hx193_9 := Gv.bx HB.out hx193_9
           replace hx193_10 := Gv.bx HB.out hx193_10
           replace hx193_11 := Gv.bx HB.out hx193_11
           replace hx193_12 := Gv.bx HB.out hx193_12
           replace hx193_13 := Gv.bx HB.out hx193_13
           replace hx193_14 := Gv.bx HB.out hx193_14
           replace hx193_15 := Gv.bx HB.out hx193_15
           replace hx193_16 := Gv.bx HB.out hx193_16
           replace hx193_17 := Gv.bx HB.out hx193_17
           replace hx193_18 := Gv.bx HB.out hx193_18
           replace hx193_19 := Gv.bx HB.out hx193_19
           replace hx193_20 := Gv.bx HB.out hx193_20
           replace p193 := eq_true p193
           replace q193 := eq_true q193
           have p195 : 0 ≤ ((ji8) : Int) := of_decide_eq_true (by first | (with_reducible assumption) | assumption)
           have q195 : (ji8) < (l0.length : Int) := of_decide_eq_true (by first | (with_reducible assumption) | assumption)
           obtain ⟨ad195, e195, hx195_0, _, _, _, _, _, _, _, _, _, _, _, _, _, _, _, _, _, _, _, _⟩ := at_T55 HR0.out (ji8) p195 q195
           have hw195_0 := hx195_0
           obtain rfl : ad193 = ad195 := (by injection e195)
           replace hx195_0 := Gv.bx HB.out hx195_0
           replace p195 := eq_true p195
           replace q195 := eq_true q195
           have p196 : 0 ≤ (x3_1 : Int) := of_decide_eq_true (by first | (with_reducible assumption) | assumption)
           have q196 : x3_1 < (l0.length : Int) := of_decide_eq_true (by first | (with_reducible assumption) | assumption)
           obtain ⟨ad196, e196, hx196_0, _, _, _, _, _, _, _, _, _, _, _, _, _, _, _, _, _, _, _, _⟩ := at_T55 HR0.out x3_1 p196 q196
           have hw196_0 := hx196_0
           obtain rfl : ad193 = ad196 := (by injection e196)
           replace hx196_0 := Gv.bx HB.out hx196_0
           replace p196 := eq_true p196
           replace q196 := eq_true q196
           refine start_ (n := 24) (S := fun w' => w'.cell? (ad193.add ((x3_1).toNat * 21)) = some (.int .i64 ((rd_T55 l0 x3_1).f0)) ∧ w'.cell? ⟨(ad193.add ((x3_1).toNat * 21)).block, (ad193.add ((x3_1).toNat * 21)).off + 1, none⟩ = some (.int .i64 ((rd_T55 l0 x3_1).f1.f0.f0)) ∧ w'.cell? ⟨(ad193.add ((x3_1).toNat * 21)).block, (ad193.add ((x3_1).toNat * 21)).off + 2, none⟩ = some (.int .i64 ((rd_T55 l0 x3_1).f1.f0.f1)) ∧ w'.cell? ⟨(ad193.add ((x3_1).toNat * 21)).block, (ad193.add ((x3_1).toNat * 21)).off + 3, none⟩ = some (.int .i64 ((rd_T55 l0 x3_1).f1.f0.f2)) ∧ w'.cell? ⟨(ad193.add ((x3_1).toNat * 21)).block, (ad193.add ((x3_1).toNat * 21)).off + 4, none⟩ = some (.int .i64 ((rd_T55 l0 x3_1).f1.f0.f3)) ∧ w'.cell? ⟨(ad193.add ((x3_1).toNat * 21)).block, (ad193.add ((x3_1).toNat * 21)).off + 5, none⟩ = some (.int .i64 ((rd_T55 l0 x3_1).f1.f0.f4)) ∧ w'.cell? ⟨(ad193.add ((x3_1).toNat * 21)).block, (ad193.add ((x3_1).toNat * 21)).off + 6, none⟩ = some (.int .i64 ((rd_T55 l0 x3_1).f1.f1)) ∧ w'.cell? ⟨(ad193.add ((x3_1).toNat * 21)).block, (ad193.add ((x3_1).toNat * 21)).off + 7, none⟩ = some (.int .i64 ((rd_T55 l0 x3_1).f2.f0.f0)) ∧ w'.cell? ⟨(ad193.add ((x3_1).toNat * 21)).block, (ad193.add ((x3_1).toNat * 21)).off + 8, none⟩ = some (.int .i64 ((rd_T55 l0 x3_1).f2.f0.f1)) ∧ w'.cell? ⟨(ad193.add ((x3_1).toNat * 21)).block, (ad193.add ((x3_1).toNat * 21)).off + 9, none⟩ = some (.int .i64 ((rd_T55 l0 x3_1).f2.f0.f2)) ∧ w'.cell? ⟨(ad193.add ((x3_1).toNat * 21)).block, (ad193.add ((x3_1).toNat * 21)).off + 10, none⟩ = some (.int .i64 ((rd_T55 l0 x3_1).f2.f0.f3)) ∧ w'.cell? ⟨(ad193.add ((x3_1).toNat * 21)).block, (ad193.add ((x3_1).toNat * 21)).off + 11, none⟩ = some (.int .i64 ((rd_T55 l0 x3_1).f2.f0.f4)) ∧ w'.cell? ⟨(ad193.add ((x3_1).toNat * 21)).block, (ad193.add ((x3_1).toNat * 21)).off + 12, none⟩ = some (.int .i64 ((rd_T55 l0 x3_1).f2.f1)) ∧ w'.cell? ⟨(ad193.add ((x3_1).toNat * 21)).block, (ad193.add ((x3_1).toNat * 21)).off + 13, none⟩ = some (.int .i64 ((rd_T55 l0 x3_1).f3)) ∧ w'.cell? ⟨(ad193.add ((x3_1).toNat * 21)).block, (ad193.add ((x3_1).toNat * 21)).off + 14, none⟩ = some (.int .i64 ((rd_T55 l0 x3_1).f4)) ∧ w'.cell? ⟨(ad193.add ((x3_1).toNat * 21)).block, (ad193.add ((x3_1).toNat * 21)).off + 15, none⟩ = some (.int .i64 ((rd_T55 l0 x3_1).f5)) ∧ w'.cell? ⟨(ad193.add ((x3_1).toNat * 21)).block, (ad193.add ((x3_1).toNat * 21)).off + 16, none⟩ = some (.int .i64 ((rd_T55 l0 x3_1).f6)) ∧ w'.cell? ⟨(ad193.add ((x3_1).toNat * 21)).block, (ad193.add ((x3_1).toNat * 21)).off + 17, none⟩ = some (.int .i64 ((rd_T55 l0 x3_1).f7)) ∧ w'.cell? ⟨(ad193.add ((x3_1).toNat * 21)).block, (ad193.add ((x3_1).toNat * 21)).off + 18, none⟩ = some (.int .i64 ((rd_T55 l0 x3_1).f8)) ∧ w'.cell? ⟨(ad193.add ((x3_1).toNat * 21)).block, (ad193.add ((x3_1).toNat * 21)).off + 19, none⟩ = some (.int .i64 ((rd_T55 l0 x3_1).f9)) ∧ w'.cell? ⟨(ad193.add ((x3_1).toNat * 21)).block, (ad193.add ((x3_1).toNat * 21)).off + 20, none⟩ = some (.int .i64 ((rd_T55 l0 x3_1).f10)) ∧ w'.cell? (ad193.add (((ji8)).toNat * 21)) = some (.int .i64 ((rd_T55 l0 (ji8)).f0)) ∧ w'.cell? (ad193.add ((x3_1).toNat * 21)) = some (.int .i64 ((rd_T55 l0 x3_1).f0))) (ds := []) #[false, false, false, false, false, false, false, false, false, false, false, false, false, false, false, false, false, false, false, false, false, false, false, false] (by kernel_rfl) rfl rfl ⟨(Gv.bx HB.out hw193_0), (Gv.bx HB.out hw193_1), (Gv.bx HB.out hw193_2), (Gv.bx HB.out hw193_3), (Gv.bx HB.out hw193_4), (Gv.bx HB.out hw193_5), (Gv.bx HB.out hw193_6), (Gv.bx HB.out hw193_7), (Gv.bx HB.out hw193_8), (Gv.bx HB.out hw193_9), (Gv.bx HB.out hw193_10), (Gv.bx HB.out hw193_11), (Gv.bx HB.out hw193_12), (Gv.bx HB.out hw193_13), (Gv.bx HB.out hw193_14), (Gv.bx HB.out hw193_15), (Gv.bx HB.out hw193_16), (Gv.bx HB.out hw193_17), (Gv.bx HB.out hw193_18), (Gv.bx HB.out hw193_19), (Gv.bx HB.out hw193_20), (Gv.bx HB.out hw195_0), (Gv.bx HB.out hw196_0)⟩ (fun hHeld => ?_); refine with_tabW spec_RulesOk.tab6 spec_RulesOk.bits6 (fun HT_ HW_ => ?_)
           generalize wr.drew = w14 at HB hx193_0 hx193_1 hx193_10 hx193_11 hx193_12 hx193_13 hx193_14 hx193_15 hx193_16 hx193_17 hx193_18 hx193_19 hx193_2 hx193_20 hx193_3 hx193_4 hx193_5 hx193_6 hx193_7 hx193_8 hx193_9 hx195_0 hx196_0 hHeld ⊢
           refine Gv.pu 0 (some 13) HT_ ?_
           refine Gv.pu 1 (some 14) HT_ ?_
           refine Gv.pu 2 (some 15) HT_ ?_
           refine take_ (i := 3) (N := some 16) (v := ?_) (a' := ?_) #[true, true, true, true, false, false, false, false, false, false, false, false, false, false, false, false, false, false, false, false, false, false, false, false] rfl rfl (take_ofW HT_.out HW_.out (by kernel_rfl)) (fun _ _ _ h => h) (Or.inl ⟨by rfl, ?_⟩) hHeld ?_ ?_
           rotate_left
           ·rintro w' ⟨s0, s1, s2, s3, s4, s5, s6, s7, s8, s9, s10, s11, s12, s13, s14, s15, s16, s17, s18, s19, s20, s21, s22⟩
            first | ((refine Gv.load_run (t := 55) (A := ad193.add ((x3_1).toNat * 21)) (cs := [_, _, _, _, _, _, _, _, _, _, _, _, _, _, _, _, _, _, _, _, _]) (x := ?xx7_) ?ho7_ ?hx7_ ⟨s0, s1, s2, s3, s4, s5, s6, s7, s8, s9, s10, s11, s12, s13, s14, s15, s16, s17, s18, s19, s20, trivial⟩ Try.underlying55 rfl (by kernel_rfl)); (case ho7_ => rfl); (case hx7_ => rfl)) | (go_simp; with_reducible rfl)
           rotate_left
           ·simp only [Act.put, List.setIfInBounds_toArray, List.set_cons_zero, List.set_cons_succ, i64_w, i32_w]
            rfl
           refine one_ (i := 4) (N := some 17) #[true, true, true, true, true, false, false, false, false, false, false, false, false, false, false, false, false, false, false, false, false, false, false, false] rfl rfl (one_of HT_.out (by kernel_rfl)) (by decide) (fun K hK => ?_)
           refine goes_ Try.func28 (by kernel_rfl) rfl #[.agg #[.int .i64 ((rd_T55 l0 x3_1).f0), .int .i64 ((rd_T55 l0 x3_1).f1.f0.f0), .int .i64 ((rd_T55 l0 x3_1).f1.f0.f1), .int .i64 ((rd_T55 l0 x3_1).f1.f0.f2), .int .i64 ((rd_T55 l0 x3_1).f1.f0.f3), .int .i64 ((rd_T55 l0 x3_1).f1.f0.f4), .int .i64 ((rd_T55 l0 x3_1).f1.f1), .int .i64 ((rd_T55 l0 x3_1).f2.f0.f0), .int .i64 ((rd_T55 l0 x3_1).f2.f0.f1), .int .i64 ((rd_T55 l0 x3_1).f2.f0.f2), .int .i64 ((rd_T55 l0 x3_1).f2.f0.f3), .int .i64 ((rd_T55 l0 x3_1).f2.f0.f4), .int .i64 ((rd_T55 l0 x3_1).f2.f1), .int .i64 ((rd_T55 l0 x3_1).f3), .int .i64 ((rd_T55 l0 x3_1).f4), .int .i64 ((rd_T55 l0 x3_1).f5), .int .i64 ((rd_T55 l0 x3_1).f6), .int .i64 ((rd_T55 l0 x3_1).f7), .int .i64 ((rd_T55 l0 x3_1).f8), .int .i64 ((rd_T55 l0 x3_1).f9), .int .i64 ((rd_T55 l0 x3_1).f10)]] (by rfl) rfl rfl Gv.lm ?_
           with_reducible refine (spec_RuleOk.calls k1 ((rd_T55 l0 x3_1).f0) ((rd_T55 l0 x3_1).f1.f0.f0) ((rd_T55 l0 x3_1).f1.f0.f1) ((rd_T55 l0 x3_1).f1.f0.f2) ((rd_T55 l0 x3_1).f1.f0.f3) ((rd_T55 l0 x3_1).f1.f0.f4) ((rd_T55 l0 x3_1).f1.f1) ((rd_T55 l0 x3_1).f2.f0.f0) ((rd_T55 l0 x3_1).f2.f0.f1) ((rd_T55 l0 x3_1).f2.f0.f2) ((rd_T55 l0 x3_1).f2.f0.f3) ((rd_T55 l0 x3_1).f2.f0.f4) ((rd_T55 l0 x3_1).f2.f1) ((rd_T55 l0 x3_1).f3) ((rd_T55 l0 x3_1).f4) ((rd_T55 l0 x3_1).f5) ((rd_T55 l0 x3_1).f6) ((rd_T55 l0 x3_1).f7) ((rd_T55 l0 x3_1).f8) ((rd_T55 l0 x3_1).f9) ((rd_T55 l0 x3_1).f10) true _ A5.out).mono ?_
           rintro e w15 ⟨rfl, hb⟩
           refine ⟨_, rfl, ?_⟩
           have n0_ := Gv.a0 (below_step Gv.bw hb)
           clear HB
           have HB := n0_
           clear n0_
           (try clear hb)
           (try clear hb2)
           (try clear hk)
           (try clear hi)
           refine hK.out _ _ ⟨(Gv.bx HB.out hw193_0), (Gv.bx HB.out hw193_1), (Gv.bx HB.out hw193_2), (Gv.bx HB.out hw193_3), (Gv.bx HB.out hw193_4), (Gv.bx HB.out hw193_5), (Gv.bx HB.out hw193_6), (Gv.bx HB.out hw193_7), (Gv.bx HB.out hw193_8), (Gv.bx HB.out hw193_9), (Gv.bx HB.out hw193_10), (Gv.bx HB.out hw193_11), (Gv.bx HB.out hw193_12), (Gv.bx HB.out hw193_13), (Gv.bx HB.out hw193_14), (Gv.bx HB.out hw193_15), (Gv.bx HB.out hw193_16), (Gv.bx HB.out hw193_17), (Gv.bx HB.out hw193_18), (Gv.bx HB.out hw193_19), (Gv.bx HB.out hw193_20), (Gv.bx HB.out hw195_0), (Gv.bx HB.out hw196_0)⟩ (fun hHeld => ?_)
           clear hK K
           refine norm_ (a' := ?_) ?_ ?_
           rotate_left
           ·show Act.put _ (some 17) _ = _
            simp only [Act.put, List.setIfInBounds_toArray, List.set_cons_zero, List.set_cons_succ, i64_w, i32_w]
            rfl
           refine Gv.pu 5 (some 18) HT_ ?_
           refine Gv.pu 6 (some 19) HT_ ?_
           refine Gv.pu 7 (some 20) HT_ ?_
           refine Gv.pu 8 (some 21) HT_ ?_
           refine Gv.pu 9 (some 22) HT_ ?_
           refine Gv.pu 10 (some 23) HT_ ?_
           refine Gv.pu 11 (some 24) HT_ ?_
           refine Gv.pu 12 (some 25) HT_ ?_
           refine Gv.pu 13 (some 26) HT_ ?_
           refine Gv.pu 14 (some 27) HT_ ?_
           refine Gv.pu 16 (some 29) HT_ ?_
           refine Gv.pu 17 (some 30) HT_ ?_
           refine Gv.pu 18 (some 31) HT_ ?_
           refine Gv.pu 19 (some 32) HT_ ?_
           refine take_ (i := 15) (N := some 28) (v := ?_) (a' := ?_) #[true, true, true, true, true, true, true, true, true, true, true, true, true, true, true, true, true, true, true, true, false, false, false, false] rfl rfl (take_ofW HT_.out HW_.out (by kernel_rfl)) (fun _ _ _ h => h) (Or.inl ⟨by rfl, ?_⟩) hHeld ?_ ?_
           rotate_left
           ·rintro w' ⟨s0, s1, s2, s3, s4, s5, s6, s7, s8, s9, s10, s11, s12, s13, s14, s15, s16, s17, s18, s19, s20, s21, s22⟩
            first | ((refine Gv.load_run (t := 55) (A := ad193.add ((x3_1).toNat * 21)) (cs := [_, _, _, _, _, _, _, _, _, _, _, _, _, _, _, _, _, _, _, _, _]) (x := ?xx9_) ?ho9_ ?hx9_ ⟨s0, s1, s2, s3, s4, s5, s6, s7, s8, s9, s10, s11, s12, s13, s14, s15, s16, s17, s18, s19, s20, trivial⟩ Try.underlying55 rfl (by kernel_rfl)); (case ho9_ => rfl); (case hx9_ => rfl)) | (go_simp; with_reducible rfl)
           rotate_left
           ·simp only [Act.put, List.setIfInBounds_toArray, List.set_cons_zero, List.set_cons_succ, i64_w, i32_w]
            rfl
           refine take_ (i := 20) (N := some 33) (v := ?_) (a' := ?_) #[true, true, true, true, true, true, true, true, true, true, true, true, true, true, true, true, true, true, true, true, true, false, false, false] rfl rfl (take_ofW HT_.out HW_.out (by kernel_rfl)) (fun _ _ _ h => h) (Or.inl ⟨by rfl, ?_⟩) hHeld ?_ ?_
           rotate_left
           ·rintro w' ⟨s0, s1, s2, s3, s4, s5, s6, s7, s8, s9, s10, s11, s12, s13, s14, s15, s16, s17, s18, s19, s20, s21, s22⟩
            first | ((refine Gv.load_run (t := 55) (A := ad193.add ((x3_1).toNat * 21)) (cs := [_, _, _, _, _, _, _, _, _, _, _, _, _, _, _, _, _, _, _, _, _]) (x := ?xx11_) ?ho11_ ?hx11_ ⟨s0, s1, s2, s3, s4, s5, s6, s7, s8, s9, s10, s11, s12, s13, s14, s15, s16, s17, s18, s19, s20, trivial⟩ Try.underlying55 rfl (by kernel_rfl)); (case ho11_ => rfl); (case hx11_ => rfl)) | (go_simp; with_reducible rfl)
           rotate_left
           ·simp only [Act.put, List.setIfInBounds_toArray, List.set_cons_zero, List.set_cons_succ, i64_w, i32_w]
            rfl
           refine Gv.pu 21 (some 34) HT_ ?_
           refine Gv.pu 22 (some 35) HT_ ?_
           refine Gv.pu 23 (some 36) HT_ ?_
           refine done_ (done_of HT_.out (by kernel_rfl)) ?_
           try go_wp2
           go_roundg k1
           case measure => have := HK1.out; omega
           case rel => exact ⟨(wrap64 (x3_1 + 1)), (by first | rfl | (simp; done) | (simp [Int.tdiv_eq_ediv_of_nonneg]; done) | (simp [*]; done)), H', ⟨by have := HK1.out; omega⟩, ⟨by repeat (first | (with_reducible first | exact HB.out | apply below_alloc | apply pw_below_drewN | apply below_drew1) | exact HB.out)⟩⟩
         ·rw [if_neg c10] at H
          exact absurd H (by simp)
        ·rw [if_neg c9] at H
         exact absurd H (by simp)
       ·rw [if_neg c7] at H
        have c7b0 : decide (0 < x3_1) = false := decide_eq_false c7
        clear c7
        have H' := Gv.a0 H
        clear H
        try go_wp2
        have n0_ := Gv.a0 (below_drew1 HB.out)
        clear HB
        have HB := n0_
        clear n0_
        have p193 : 0 ≤ (x3_1 : Int) := of_decide_eq_true (by first | (with_reducible assumption) | assumption)
        have q193 : x3_1 < (l0.length : Int) := of_decide_eq_true (by first | (with_reducible assumption) | assumption)
        obtain ⟨ad193, e193, hx193_0, hx193_1, hx193_2, hx193_3, hx193_4, hx193_5, hx193_6, hx193_7, hx193_8, hx193_9, hx193_10, hx193_11, hx193_12, hx193_13, hx193_14, hx193_15, hx193_16, hx193_17, hx193_18, hx193_19, hx193_20⟩ := at_T55 HR0.out x3_1 p193 q193
        have hw193_20 := hx193_20
        have hw193_19 := hx193_19
        have hw193_18 := hx193_18
        have hw193_17 := hx193_17
        have hw193_16 := hx193_16
        have hw193_15 := hx193_15
        have hw193_14 := hx193_14
        have hw193_13 := hx193_13
        have hw193_12 := hx193_12
        have hw193_11 := hx193_11
        have hw193_10 := hx193_10
        have hw193_9 := hx193_9
        have hw193_8 := hx193_8
        have hw193_7 := hx193_7
        have hw193_6 := hx193_6
        have hw193_5 := hx193_5
        have hw193_4 := hx193_4
        have hw193_3 := hx193_3
        have hw193_2 := hx193_2
        have hw193_1 := hx193_1
        have hw193_0 := hx193_0
        cases e193
        replace hx193_0 := Gv.bx HB.out hx193_0
        replace hx193_1 := Gv.bx HB.out hx193_1
        replace hx193_2 := Gv.bx HB.out hx193_2
        replace hx193_3 := Gv.bx HB.out hx193_3
        replace hx193_4 := Gv.bx HB.out hx193_4
        replace hx193_5 := Gv.bx HB.out hx193_5
        replace hx193_6 := Gv.bx HB.out hx193_6
        replace hx193_7 := Gv.bx HB.out hx193_7
        replace hx193_8 := Gv.bx HB.out hx193_8
        replace hx193_9 := Gv.bx HB.out hx193_9
        replace hx193_10 := Gv.bx HB.out hx193_10
        replace hx193_11 := Gv.bx HB.out hx193_11
        replace hx193_12 := Gv.bx HB.out hx193_12
        replace hx193_13 := Gv.bx HB.out hx193_13
        replace hx193_14 := Gv.bx HB.out hx193_14
        replace hx193_15 := Gv.bx HB.out hx193_15
        replace hx193_16 := Gv.bx HB.out hx193_16
        replace hx193_17 := Gv.bx HB.out hx193_17
        replace hx193_18 := Gv.bx HB.out hx193_18
        replace hx193_19 := Gv.bx HB.out hx193_19
        replace hx193_20 := Gv.bx HB.out hx193_20
        replace p193 := eq_true p193
        replace q193 := eq_true q193
        refine start_ (n := 24) (S := fun w' => w'.cell? (ad193.add ((x3_1).toNat * 21)) = some (.int .i64 ((rd_T55 l0 x3_1).f0)) ∧ w'.cell? ⟨(ad193.add ((x3_1).toNat * 21)).block, (ad193.add ((x3_1).toNat * 21)).off + 1, none⟩ = some (.int .i64 ((rd_T55 l0 x3_1).f1.f0.f0)) ∧ w'.cell? ⟨(ad193.add ((x3_1).toNat * 21)).block, (ad193.add ((x3_1).toNat * 21)).off + 2, none⟩ = some (.int .i64 ((rd_T55 l0 x3_1).f1.f0.f1)) ∧ w'.cell? ⟨(ad193.add ((x3_1).toNat * 21)).block, (ad193.add ((x3_1).toNat * 21)).off + 3, none⟩ = some (.int .i64 ((rd_T55 l0 x3_1).f1.f0.f2)) ∧ w'.cell? ⟨(ad193.add ((x3_1).toNat * 21)).block, (ad193.add ((x3_1).toNat * 21)).off + 4, none⟩ = some (.int .i64 ((rd_T55 l0 x3_1).f1.f0.f3)) ∧ w'.cell? ⟨(ad193.add ((x3_1).toNat * 21)).block, (ad193.add ((x3_1).toNat * 21)).off + 5, none⟩ = some (.int .i64 ((rd_T55 l0 x3_1).f1.f0.f4)) ∧ w'.cell? ⟨(ad193.add ((x3_1).toNat * 21)).block, (ad193.add ((x3_1).toNat * 21)).off + 6, none⟩ = some (.int .i64 ((rd_T55 l0 x3_1).f1.f1)) ∧ w'.cell? ⟨(ad193.add ((x3_1).toNat * 21)).block, (ad193.add ((x3_1).toNat * 21)).off + 7, none⟩ = some (.int .i64 ((rd_T55 l0 x3_1).f2.f0.f0)) ∧ w'.cell? ⟨(ad193.add ((x3_1).toNat * 21)).block, (ad193.add ((x3_1).toNat * 21)).off + 8, none⟩ = some (.int .i64 ((rd_T55 l0 x3_1).f2.f0.f1)) ∧ w'.cell? ⟨(ad193.add ((x3_1).toNat * 21)).block, (ad193.add ((x3_1).toNat * 21)).off + 9, none⟩ = some (.int .i64 ((rd_T55 l0 x3_1).f2.f0.f2)) ∧ w'.cell? ⟨(ad193.add ((x3_1).toNat * 21)).block, (ad193.add ((x3_1).toNat * 21)).off + 10, none⟩ = some (.int .i64 ((rd_T55 l0 x3_1).f2.f0.f3)) ∧ w'.cell? ⟨(ad193.add ((x3_1).toNat * 21)).block, (ad193.add ((x3_1).toNat * 21)).off + 11, none⟩ = some (.int .i64 ((rd_T55 l0 x3_1).f2.f0.f4)) ∧ w'.cell? ⟨(ad193.add ((x3_1).toNat * 21)).block, (ad193.add ((x3_1).toNat * 21)).off + 12, none⟩ = some (.int .i64 ((rd_T55 l0 x3_1).f2.f1)) ∧ w'.cell? ⟨(ad193.add ((x3_1).toNat * 21)).block, (ad193.add ((x3_1).toNat * 21)).off + 13, none⟩ = some (.int .i64 ((rd_T55 l0 x3_1).f3)) ∧ w'.cell? ⟨(ad193.add ((x3_1).toNat * 21)).block, (ad193.add ((x3_1).toNat * 21)).off + 14, none⟩ = some (.int .i64 ((rd_T55 l0 x3_1).f4)) ∧ w'.cell? ⟨(ad193.add ((x3_1).toNat * 21)).block, (ad193.add ((x3_1).toNat * 21)).off + 15, none⟩ = some (.int .i64 ((rd_T55 l0 x3_1).f5)) ∧ w'.cell? ⟨(ad193.add ((x3_1).toNat * 21)).block, (ad193.add ((x3_1).toNat * 21)).off + 16, none⟩ = some (.int .i64 ((rd_T55 l0 x3_1).f6)) ∧ w'.cell? ⟨(ad193.add ((x3_1).toNat * 21)).block, (ad193.add ((x3_1).toNat * 21)).off + 17, none⟩ = some (.int .i64 ((rd_T55 l0 x3_1).f7)) ∧ w'.cell? ⟨(ad193.add ((x3_1).toNat * 21)).block, (ad193.add ((x3_1).toNat * 21)).off + 18, none⟩ = some (.int .i64 ((rd_T55 l0 x3_1).f8)) ∧ w'.cell? ⟨(ad193.add ((x3_1).toNat * 21)).block, (ad193.add ((x3_1).toNat * 21)).off + 19, none⟩ = some (.int .i64 ((rd_T55 l0 x3_1).f9)) ∧ w'.cell? ⟨(ad193.add ((x3_1).toNat * 21)).block, (ad193.add ((x3_1).toNat * 21)).off + 20, none⟩ = some (.int .i64 ((rd_T55 l0 x3_1).f10))) (ds := []) #[false, false, false, false, false, false, false, false, false, false, false, false, false, false, false, false, false, false, false, false, false, false, false, false] (by kernel_rfl) rfl rfl ⟨(Gv.bx HB.out hw193_0), (Gv.bx HB.out hw193_1), (Gv.bx HB.out hw193_2), (Gv.bx HB.out hw193_3), (Gv.bx HB.out hw193_4), (Gv.bx HB.out hw193_5), (Gv.bx HB.out hw193_6), (Gv.bx HB.out hw193_7), (Gv.bx HB.out hw193_8), (Gv.bx HB.out hw193_9), (Gv.bx HB.out hw193_10), (Gv.bx HB.out hw193_11), (Gv.bx HB.out hw193_12), (Gv.bx HB.out hw193_13), (Gv.bx HB.out hw193_14), (Gv.bx HB.out hw193_15), (Gv.bx HB.out hw193_16), (Gv.bx HB.out hw193_17), (Gv.bx HB.out hw193_18), (Gv.bx HB.out hw193_19), (Gv.bx HB.out hw193_20)⟩ (fun hHeld => ?_); refine with_tabW spec_RulesOk.tab6 spec_RulesOk.bits6 (fun HT_ HW_ => ?_)
        generalize wr.drew = w16 at HB hx193_0 hx193_1 hx193_10 hx193_11 hx193_12 hx193_13 hx193_14 hx193_15 hx193_16 hx193_17 hx193_18 hx193_19 hx193_2 hx193_20 hx193_3 hx193_4 hx193_5 hx193_6 hx193_7 hx193_8 hx193_9 hHeld ⊢
        refine Gv.pu 0 (some 13) HT_ ?_
        refine Gv.pu 1 (some 14) HT_ ?_
        refine Gv.pu 2 (some 15) HT_ ?_
        refine take_ (i := 3) (N := some 16) (v := ?_) (a' := ?_) #[true, true, true, true, false, false, false, false, false, false, false, false, false, false, false, false, false, false, false, false, false, false, false, false] rfl rfl (take_ofW HT_.out HW_.out (by kernel_rfl)) (fun _ _ _ h => h) (Or.inl ⟨by rfl, ?_⟩) hHeld ?_ ?_
        rotate_left
        ·rintro w' ⟨s0, s1, s2, s3, s4, s5, s6, s7, s8, s9, s10, s11, s12, s13, s14, s15, s16, s17, s18, s19, s20⟩
         first | ((refine Gv.load_run (t := 55) (A := ad193.add ((x3_1).toNat * 21)) (cs := [_, _, _, _, _, _, _, _, _, _, _, _, _, _, _, _, _, _, _, _, _]) (x := ?xx13_) ?ho13_ ?hx13_ ⟨s0, s1, s2, s3, s4, s5, s6, s7, s8, s9, s10, s11, s12, s13, s14, s15, s16, s17, s18, s19, s20, trivial⟩ Try.underlying55 rfl (by kernel_rfl)); (case ho13_ => rfl); (case hx13_ => rfl)) | (go_simp; with_reducible rfl)
        rotate_left
        ·simp only [Act.put, List.setIfInBounds_toArray, List.set_cons_zero, List.set_cons_succ, i64_w, i32_w]
         rfl
        refine one_ (i := 4) (N := some 17) #[true, true, true, true, true, false, false, false, false, false, false, false, false, false, false, false, false, false, false, false, false, false, false, false] rfl rfl (one_of HT_.out (by kernel_rfl)) (by decide) (fun K hK => ?_)
        refine goes_ Try.func28 (by kernel_rfl) rfl #[.agg #[.int .i64 ((rd_T55 l0 x3_1).f0), .int .i64 ((rd_T55 l0 x3_1).f1.f0.f0), .int .i64 ((rd_T55 l0 x3_1).f1.f0.f1), .int .i64 ((rd_T55 l0 x3_1).f1.f0.f2), .int .i64 ((rd_T55 l0 x3_1).f1.f0.f3), .int .i64 ((rd_T55 l0 x3_1).f1.f0.f4), .int .i64 ((rd_T55 l0 x3_1).f1.f1), .int .i64 ((rd_T55 l0 x3_1).f2.f0.f0), .int .i64 ((rd_T55 l0 x3_1).f2.f0.f1), .int .i64 ((rd_T55 l0 x3_1).f2.f0.f2), .int .i64 ((rd_T55 l0 x3_1).f2.f0.f3), .int .i64 ((rd_T55 l0 x3_1).f2.f0.f4), .int .i64 ((rd_T55 l0 x3_1).f2.f1), .int .i64 ((rd_T55 l0 x3_1).f3), .int .i64 ((rd_T55 l0 x3_1).f4), .int .i64 ((rd_T55 l0 x3_1).f5), .int .i64 ((rd_T55 l0 x3_1).f6), .int .i64 ((rd_T55 l0 x3_1).f7), .int .i64 ((rd_T55 l0 x3_1).f8), .int .i64 ((rd_T55 l0 x3_1).f9), .int .i64 ((rd_T55 l0 x3_1).f10)]] (by rfl) rfl rfl Gv.lm ?_
        with_reducible refine (spec_RuleOk.calls k1 ((rd_T55 l0 x3_1).f0) ((rd_T55 l0 x3_1).f1.f0.f0) ((rd_T55 l0 x3_1).f1.f0.f1) ((rd_T55 l0 x3_1).f1.f0.f2) ((rd_T55 l0 x3_1).f1.f0.f3) ((rd_T55 l0 x3_1).f1.f0.f4) ((rd_T55 l0 x3_1).f1.f1) ((rd_T55 l0 x3_1).f2.f0.f0) ((rd_T55 l0 x3_1).f2.f0.f1) ((rd_T55 l0 x3_1).f2.f0.f2) ((rd_T55 l0 x3_1).f2.f0.f3) ((rd_T55 l0 x3_1).f2.f0.f4) ((rd_T55 l0 x3_1).f2.f1) ((rd_T55 l0 x3_1).f3) ((rd_T55 l0 x3_1).f4) ((rd_T55 l0 x3_1).f5) ((rd_T55 l0 x3_1).f6) ((rd_T55 l0 x3_1).f7) ((rd_T55 l0 x3_1).f8) ((rd_T55 l0 x3_1).f9) ((rd_T55 l0 x3_1).f10) true _ A5.out).mono ?_
        rintro e w17 ⟨rfl, hb⟩
        refine ⟨_, rfl, ?_⟩
        have n0_ := Gv.a0 (below_step Gv.bw hb)
        clear HB
        have HB := n0_
        clear n0_
        (try clear hb)
        (try clear hb2)
        (try clear hk)
        (try clear hi)
        refine hK.out _ _ ⟨(Gv.bx HB.out hw193_0), (Gv.bx HB.out hw193_1), (Gv.bx HB.out hw193_2), (Gv.bx HB.out hw193_3), (Gv.bx HB.out hw193_4), (Gv.bx HB.out hw193_5), (Gv.bx HB.out hw193_6), (Gv.bx HB.out hw193_7), (Gv.bx HB.out hw193_8), (Gv.bx HB.out hw193_9), (Gv.bx HB.out hw193_10), (Gv.bx HB.out hw193_11), (Gv.bx HB.out hw193_12), (Gv.bx HB.out hw193_13), (Gv.bx HB.out hw193_14), (Gv.bx HB.out hw193_15), (Gv.bx HB.out hw193_16), (Gv.bx HB.out hw193_17), (Gv.bx HB.out hw193_18), (Gv.bx HB.out hw193_19), (Gv.bx HB.out hw193_20)⟩ (fun hHeld => ?_)
        clear hK K
        refine norm_ (a' := ?_) ?_ ?_
        rotate_left
        ·show Act.put _ (some 17) _ = _
         simp only [Act.put, List.setIfInBounds_toArray, List.set_cons_zero, List.set_cons_succ, i64_w, i32_w]
         rfl
        refine Gv.pu 5 (some 18) HT_ ?_
        refine Gv.pu 6 (some 19) HT_ ?_
        refine Gv.pu 7 (some 20) HT_ ?_
        refine Gv.pu 8 (some 21) HT_ ?_
        refine Gv.pu 9 (some 22) HT_ ?_
        refine pure_ (i := 10) (N := some 23) (v := undef) (a' := ?_) #[true, true, true, true, true, true, true, true, true, true, true, false, false, false, false, false, false, false, false, false, false, false, false, false] rfl rfl (any_of HT_.out (by kernel_rfl)) (fun _ _ _ h => h) (Or.inr ⟨by rfl, rfl⟩) ?_ ?_
        rotate_left
        ·simp only [Act.put, List.setIfInBounds_toArray, List.set_cons_zero, List.set_cons_succ, i64_w, i32_w]
         rfl
        refine pure_ (i := 11) (N := some 24) (v := undef) (a' := ?_) #[true, true, true, true, true, true, true, true, true, true, true, true, false, false, false, false, false, false, false, false, false, false, false, false] rfl rfl (any_of HT_.out (by kernel_rfl)) (fun _ _ _ h => h) (Or.inr ⟨by rfl, rfl⟩) ?_ ?_
        rotate_left
        ·simp only [Act.put, List.setIfInBounds_toArray, List.set_cons_zero, List.set_cons_succ, i64_w, i32_w]
         rfl
        refine pure_ (i := 12) (N := some 25) (v := undef) (a' := ?_) #[true, true, true, true, true, true, true, true, true, true, true, true, true, false, false, false, false, false, false, false, false, false, false, false] rfl rfl (any_of HT_.out (by kernel_rfl)) (fun _ _ _ h => h) (Or.inr ⟨by rfl, rfl⟩) ?_ ?_
        rotate_left
        ·simp only [Act.put, List.setIfInBounds_toArray, List.set_cons_zero, List.set_cons_succ, i64_w, i32_w]
         rfl
        refine pure_ (i := 13) (N := some 26) (v := undef) (a' := ?_) #[true, true, true, true, true, true, true, true, true, true, true, true, true, true, false, false, false, false, false, false, false, false, false, false] rfl rfl (any_of HT_.out (by kernel_rfl)) (fun _ _ _ h => h) (Or.inr ⟨by rfl, rfl⟩) ?_ ?_
        rotate_left
        ·simp only [Act.put, List.setIfInBounds_toArray, List.set_cons_zero, List.set_cons_succ, i64_w, i32_w]
         rfl
        refine pure_ (i := 14) (N := some 27) (v := undef) (a' := ?_) #[true, true, true, true, true, true, true, true, true, true, true, true, true, true, true, false, false, false, false, false, false, false, false, false] rfl rfl (any_of HT_.out (by kernel_rfl)) (fun _ _ _ h => h) (Or.inr ⟨by rfl, rfl⟩) ?_ ?_
        rotate_left
        ·simp only [Act.put, List.setIfInBounds_toArray, List.set_cons_zero, List.set_cons_succ, i64_w, i32_w]
         rfl
        refine pure_ (i := 15) (N := some 28) (v := undef) (a' := ?_) #[true, true, true, true, true, true, true, true, true, true, true, true, true, true, true, true, false, false, false, false, false, false, false, false] rfl rfl (any_of HT_.out (by kernel_rfl)) (fun _ _ _ h => h) (Or.inr ⟨by rfl, rfl⟩) ?_ ?_
        rotate_left
        ·simp only [Act.put, List.setIfInBounds_toArray, List.set_cons_zero, List.set_cons_succ, i64_w, i32_w]
         rfl
        refine pure_ (i := 16) (N := some 29) (v := undef) (a' := ?_) #[true, true, true, true, true, true, true, true, true, true, true, true, true, true, true, true, true, false, false, false, false, false, false, false] rfl rfl (any_of HT_.out (by kernel_rfl)) (fun _ _ _ h => h) (Or.inr ⟨by rfl, rfl⟩) ?_ ?_
        rotate_left
        ·simp only [Act.put, List.setIfInBounds_toArray, List.set_cons_zero, List.set_cons_succ, i64_w, i32_w]
         rfl
        refine pure_ (i := 17) (N := some 30) (v := undef) (a' := ?_) #[true, true, true, true, true, true, true, true, true, true, true, true, true, true, true, true, true, true, false, false, false, false, false, false] rfl rfl (any_of HT_.out (by kernel_rfl)) (fun _ _ _ h => h) (Or.inr ⟨by rfl, rfl⟩) ?_ ?_
        rotate_left
        ·simp only [Act.put, List.setIfInBounds_toArray, List.set_cons_zero, List.set_cons_succ, i64_w, i32_w]
         rfl
        refine pure_ (i := 18) (N := some 31) (v := undef) (a' := ?_) #[true, true, true, true, true, true, true, true, true, true, true, true, true, true, true, true, true, true, true, false, false, false, false, false] rfl rfl (any_of HT_.out (by kernel_rfl)) (fun _ _ _ h => h) (Or.inr ⟨by rfl, rfl⟩) ?_ ?_
        rotate_left
        ·simp only [Act.put, List.setIfInBounds_toArray, List.set_cons_zero, List.set_cons_succ, i64_w, i32_w]
         rfl
        refine pure_ (i := 19) (N := some 32) (v := undef) (a' := ?_) #[true, true, true, true, true, true, true, true, true, true, true, true, true, true, true, true, true, true, true, true, false, false, false, false] rfl rfl (any_of HT_.out (by kernel_rfl)) (fun _ _ _ h => h) (Or.inr ⟨by rfl, rfl⟩) ?_ ?_
        rotate_left
        ·simp only [Act.put, List.setIfInBounds_toArray, List.set_cons_zero, List.set_cons_succ, i64_w, i32_w]
         rfl
        refine pure_ (i := 20) (N := some 33) (v := undef) (a' := ?_) #[true, true, true, true, true, true, true, true, true, true, true, true, true, true, true, true, true, true, true, true, true, false, false, false] rfl rfl (any_of HT_.out (by kernel_rfl)) (fun _ _ _ h => h) (Or.inr ⟨by rfl, rfl⟩) ?_ ?_
        rotate_left
        ·simp only [Act.put, List.setIfInBounds_toArray, List.set_cons_zero, List.set_cons_succ, i64_w, i32_w]
         rfl
        refine pure_ (i := 21) (N := some 34) (v := undef) (a' := ?_) #[true, true, true, true, true, true, true, true, true, true, true, true, true, true, true, true, true, true, true, true, true, true, false, false] rfl rfl (any_of HT_.out (by kernel_rfl)) (fun _ _ _ h => h) (Or.inr ⟨by rfl, rfl⟩) ?_ ?_
        rotate_left
        ·simp only [Act.put, List.setIfInBounds_toArray, List.set_cons_zero, List.set_cons_succ, i64_w, i32_w]
         rfl
        refine Gv.pu 22 (some 35) HT_ ?_
        refine Gv.pu 23 (some 36) HT_ ?_
        refine done_ (done_of HT_.out (by kernel_rfl)) ?_
        try go_wp2
        go_roundg k1
        case measure => have := HK1.out; omega
        case rel => exact ⟨(wrap64 (x3_1 + 1)), (by first | rfl | (simp; done) | (simp [Int.tdiv_eq_ediv_of_nonneg]; done) | (simp [*]; done)), H', ⟨by have := HK1.out; omega⟩, ⟨by repeat (first | (with_reducible first | exact HB.out | apply below_alloc | apply pw_below_drewN | apply below_drew1) | exact HB.out)⟩⟩
      ·replace c6 := Bool.eq_false_iff.mpr c6
       subst c6
       have H1 : (some false) = some r := by rw [if_neg (show ¬ (false = true) by decide)] at H; exact H
       clear H
       have H := H1
       clear H1
       obtain rfl := Option.some.inj H
       try go_wp2
       have n0_ := Gv.a0 (below_drew1 HB.out)
       clear HB
       have HB := n0_
       clear n0_
       have p193 : 0 ≤ (x3_1 : Int) := of_decide_eq_true (by first | (with_reducible assumption) | assumption)
       have q193 : x3_1 < (l0.length : Int) := of_decide_eq_true (by first | (with_reducible assumption) | assumption)
       obtain ⟨ad193, e193, hx193_0, hx193_1, hx193_2, hx193_3, hx193_4, hx193_5, hx193_6, hx193_7, hx193_8, hx193_9, hx193_10, hx193_11, hx193_12, hx193_13, hx193_14, hx193_15, hx193_16, hx193_17, hx193_18, hx193_19, hx193_20⟩ := at_T55 HR0.out x3_1 p193 q193
       have hw193_20 := hx193_20
       have hw193_19 := hx193_19
       have hw193_18 := hx193_18
       have hw193_17 := hx193_17
       have hw193_16 := hx193_16
       have hw193_15 := hx193_15
       have hw193_14 := hx193_14
       have hw193_13 := hx193_13
       have hw193_12 := hx193_12
       have hw193_11 := hx193_11
       have hw193_10 := hx193_10
       have hw193_9 := hx193_9
       have hw193_8 := hx193_8
       have hw193_7 := hx193_7
       have hw193_6 := hx193_6
       have hw193_5 := hx193_5
       have hw193_4 := hx193_4
       have hw193_3 := hx193_3
       have hw193_2 := hx193_2
       have hw193_1 := hx193_1
       have hw193_0 := hx193_0
       cases e193
       replace hx193_0 := Gv.bx HB.out hx193_0
       replace hx193_1 := Gv.bx HB.out hx193_1
       replace hx193_2 := Gv.bx HB.out hx193_2
       replace hx193_3 := Gv.bx HB.out hx193_3
       replace hx193_4 := Gv.bx HB.out hx193_4
       replace hx193_5 := Gv.bx HB.out hx193_5
       replace hx193_6 := Gv.bx HB.out hx193_6
       replace hx193_7 := Gv.bx HB.out hx193_7
       replace hx193_8 := Gv.bx HB.out hx193_8
       replace hx193_9 := Gv.bx HB.out hx193_9
       replace hx193_10 := Gv.bx HB.out hx193_10
       replace hx193_11 := Gv.bx HB.out hx193_11
       replace hx193_12 := Gv.bx HB.out hx193_12
       replace hx193_13 := Gv.bx HB.out hx193_13
       replace hx193_14 := Gv.bx HB.out hx193_14
       replace hx193_15 := Gv.bx HB.out hx193_15
       replace hx193_16 := Gv.bx HB.out hx193_16
       replace hx193_17 := Gv.bx HB.out hx193_17
       replace hx193_18 := Gv.bx HB.out hx193_18
       replace hx193_19 := Gv.bx HB.out hx193_19
       replace hx193_20 := Gv.bx HB.out hx193_20
       replace p193 := eq_true p193
       replace q193 := eq_true q193
       refine start_ (n := 24) (S := fun w' => w'.cell? (ad193.add ((x3_1).toNat * 21)) = some (.int .i64 ((rd_T55 l0 x3_1).f0)) ∧ w'.cell? ⟨(ad193.add ((x3_1).toNat * 21)).block, (ad193.add ((x3_1).toNat * 21)).off + 1, none⟩ = some (.int .i64 ((rd_T55 l0 x3_1).f1.f0.f0)) ∧ w'.cell? ⟨(ad193.add ((x3_1).toNat * 21)).block, (ad193.add ((x3_1).toNat * 21)).off + 2, none⟩ = some (.int .i64 ((rd_T55 l0 x3_1).f1.f0.f1)) ∧ w'.cell? ⟨(ad193.add ((x3_1).toNat * 21)).block, (ad193.add ((x3_1).toNat * 21)).off + 3, none⟩ = some (.int .i64 ((rd_T55 l0 x3_1).f1.f0.f2)) ∧ w'.cell? ⟨(ad193.add ((x3_1).toNat * 21)).block, (ad193.add ((x3_1).toNat * 21)).off + 4, none⟩ = some (.int .i64 ((rd_T55 l0 x3_1).f1.f0.f3)) ∧ w'.cell? ⟨(ad193.add ((x3_1).toNat * 21)).block, (ad193.add ((x3_1).toNat * 21)).off + 5, none⟩ = some (.int .i64 ((rd_T55 l0 x3_1).f1.f0.f4)) ∧ w'.cell? ⟨(ad193.add ((x3_1).toNat * 21)).block, (ad193.add ((x3_1).toNat * 21)).off + 6, none⟩ = some (.int .i64 ((rd_T55 l0 x3_1).f1.f1)) ∧ w'.cell? ⟨(ad193.add ((x3_1).toNat * 21)).block, (ad193.add ((x3_1).toNat * 21)).off + 7, none⟩ = some (.int .i64 ((rd_T55 l0 x3_1).f2.f0.f0)) ∧ w'.cell? ⟨(ad193.add ((x3_1).toNat * 21)).block, (ad193.add ((x3_1).toNat * 21)).off + 8, none⟩ = some (.int .i64 ((rd_T55 l0 x3_1).f2.f0.f1)) ∧ w'.cell? ⟨(ad193.add ((x3_1).toNat * 21)).block, (ad193.add ((x3_1).toNat * 21)).off + 9, none⟩ = some (.int .i64 ((rd_T55 l0 x3_1).f2.f0.f2)) ∧ w'.cell? ⟨(ad193.add ((x3_1).toNat * 21)).block, (ad193.add ((x3_1).toNat * 21)).off + 10, none⟩ = some (.int .i64 ((rd_T55 l0 x3_1).f2.f0.f3)) ∧ w'.cell? ⟨(ad193.add ((x3_1).toNat * 21)).block, (ad193.add ((x3_1).toNat * 21)).off + 11, none⟩ = some (.int .i64 ((rd_T55 l0 x3_1).f2.f0.f4)) ∧ w'.cell? ⟨(ad193.add ((x3_1).toNat * 21)).block, (ad193.add ((x3_1).toNat * 21)).off + 12, none⟩ = some (.int .i64 ((rd_T55 l0 x3_1).f2.f1)) ∧ w'.cell? ⟨(ad193.add ((x3_1).toNat * 21)).block, (ad193.add ((x3_1).toNat * 21)).off + 13, none⟩ = some (.int .i64 ((rd_T55 l0 x3_1).f3)) ∧ w'.cell? ⟨(ad193.add ((x3_1).toNat * 21)).block, (ad193.add ((x3_1).toNat * 21)).off + 14, none⟩ = some (.int .i64 ((rd_T55 l0 x3_1).f4)) ∧ w'.cell? ⟨(ad193.add ((x3_1).toNat * 21)).block, (ad193.add ((x3_1).toNat * 21)).off + 15, none⟩ = some (.int .i64 ((rd_T55 l0 x3_1).f5)) ∧ w'.cell? ⟨(ad193.add ((x3_1).toNat * 21)).block, (ad193.add ((x3_1).toNat * 21)).off + 16, none⟩ = some (.int .i64 ((rd_T55 l0 x3_1).f6)) ∧ w'.cell? ⟨(ad193.add ((x3_1).toNat * 21)).block, (ad193.add ((x3_1).toNat * 21)).off + 17, none⟩ = some (.int .i64 ((rd_T55 l0 x3_1).f7)) ∧ w'.cell? ⟨(ad193.add ((x3_1).toNat * 21)).block, (ad193.add ((x3_1).toNat * 21)).off + 18, none⟩ = some (.int .i64 ((rd_T55 l0 x3_1).f8)) ∧ w'.cell? ⟨(ad193.add ((x3_1).toNat * 21)).block, (ad193.add ((x3_1).toNat * 21)).off + 19, none⟩ = some (.int .i64 ((rd_T55 l0 x3_1).f9)) ∧ w'.cell? ⟨(ad193.add ((x3_1).toNat * 21)).block, (ad193.add ((x3_1).toNat * 21)).off + 20, none⟩ = some (.int .i64 ((rd_T55 l0 x3_1).f10))) (ds := []) #[false, false, false, false, false, false, false, false, false, false, false, false, false, false, false, false, false, false, false, false, false, false, false, false] (by kernel_rfl) rfl rfl ⟨(Gv.bx HB.out hw193_0), (Gv.bx HB.out hw193_1), (Gv.bx HB.out hw193_2), (Gv.bx HB.out hw193_3), (Gv.bx HB.out hw193_4), (Gv.bx HB.out hw193_5), (Gv.bx HB.out hw193_6), (Gv.bx HB.out hw193_7), (Gv.bx HB.out hw193_8), (Gv.bx HB.out hw193_9), (Gv.bx HB.out hw193_10), (Gv.bx HB.out hw193_11), (Gv.bx HB.out hw193_12), (Gv.bx HB.out hw193_13), (Gv.bx HB.out hw193_14), (Gv.bx HB.out hw193_15), (Gv.bx HB.out hw193_16), (Gv.bx HB.out hw193_17), (Gv.bx HB.out hw193_18), (Gv.bx HB.out hw193_19), (Gv.bx HB.out hw193_20)⟩ (fun hHeld => ?_); refine with_tabW spec_RulesOk.tab6 spec_RulesOk.bits6 (fun HT_ HW_ => ?_)
       generalize wr.drew = w18 at HB hx193_0 hx193_1 hx193_10 hx193_11 hx193_12 hx193_13 hx193_14 hx193_15 hx193_16 hx193_17 hx193_18 hx193_19 hx193_2 hx193_20 hx193_3 hx193_4 hx193_5 hx193_6 hx193_7 hx193_8 hx193_9 hHeld ⊢
       refine Gv.pu 0 (some 13) HT_ ?_
       refine Gv.pu 1 (some 14) HT_ ?_
       refine Gv.pu 2 (some 15) HT_ ?_
       refine take_ (i := 3) (N := some 16) (v := ?_) (a' := ?_) #[true, true, true, true, false, false, false, false, false, false, false, false, false, false, false, false, false, false, false, false, false, false, false, false] rfl rfl (take_ofW HT_.out HW_.out (by kernel_rfl)) (fun _ _ _ h => h) (Or.inl ⟨by rfl, ?_⟩) hHeld ?_ ?_
       rotate_left
       ·rintro w' ⟨s0, s1, s2, s3, s4, s5, s6, s7, s8, s9, s10, s11, s12, s13, s14, s15, s16, s17, s18, s19, s20⟩
        first | ((refine Gv.load_run (t := 55) (A := ad193.add ((x3_1).toNat * 21)) (cs := [_, _, _, _, _, _, _, _, _, _, _, _, _, _, _, _, _, _, _, _, _]) (x := ?xx15_) ?ho15_ ?hx15_ ⟨s0, s1, s2, s3, s4, s5, s6, s7, s8, s9, s10, s11, s12, s13, s14, s15, s16, s17, s18, s19, s20, trivial⟩ Try.underlying55 rfl (by kernel_rfl)); (case ho15_ => rfl); (case hx15_ => rfl)) | (go_simp; with_reducible rfl)
       rotate_left
       ·simp only [Act.put, List.setIfInBounds_toArray, List.set_cons_zero, List.set_cons_succ, i64_w, i32_w]
        rfl
       refine one_ (i := 4) (N := some 17) #[true, true, true, true, true, false, false, false, false, false, false, false, false, false, false, false, false, false, false, false, false, false, false, false] rfl rfl (one_of HT_.out (by kernel_rfl)) (by decide) (fun K hK => ?_)
       refine goes_ Try.func28 (by kernel_rfl) rfl #[.agg #[.int .i64 ((rd_T55 l0 x3_1).f0), .int .i64 ((rd_T55 l0 x3_1).f1.f0.f0), .int .i64 ((rd_T55 l0 x3_1).f1.f0.f1), .int .i64 ((rd_T55 l0 x3_1).f1.f0.f2), .int .i64 ((rd_T55 l0 x3_1).f1.f0.f3), .int .i64 ((rd_T55 l0 x3_1).f1.f0.f4), .int .i64 ((rd_T55 l0 x3_1).f1.f1), .int .i64 ((rd_T55 l0 x3_1).f2.f0.f0), .int .i64 ((rd_T55 l0 x3_1).f2.f0.f1), .int .i64 ((rd_T55 l0 x3_1).f2.f0.f2), .int .i64 ((rd_T55 l0 x3_1).f2.f0.f3), .int .i64 ((rd_T55 l0 x3_1).f2.f0.f4), .int .i64 ((rd_T55 l0 x3_1).f2.f1), .int .i64 ((rd_T55 l0 x3_1).f3), .int .i64 ((rd_T55 l0 x3_1).f4), .int .i64 ((rd_T55 l0 x3_1).f5), .int .i64 ((rd_T55 l0 x3_1).f6), .int .i64 ((rd_T55 l0 x3_1).f7), .int .i64 ((rd_T55 l0 x3_1).f8), .int .i64 ((rd_T55 l0 x3_1).f9), .int .i64 ((rd_T55 l0 x3_1).f10)]] (by rfl) rfl rfl Gv.lm ?_
       with_reducible refine (spec_RuleOk.calls k1 ((rd_T55 l0 x3_1).f0) ((rd_T55 l0 x3_1).f1.f0.f0) ((rd_T55 l0 x3_1).f1.f0.f1) ((rd_T55 l0 x3_1).f1.f0.f2) ((rd_T55 l0 x3_1).f1.f0.f3) ((rd_T55 l0 x3_1).f1.f0.f4) ((rd_T55 l0 x3_1).f1.f1) ((rd_T55 l0 x3_1).f2.f0.f0) ((rd_T55 l0 x3_1).f2.f0.f1) ((rd_T55 l0 x3_1).f2.f0.f2) ((rd_T55 l0 x3_1).f2.f0.f3) ((rd_T55 l0 x3_1).f2.f0.f4) ((rd_T55 l0 x3_1).f2.f1) ((rd_T55 l0 x3_1).f3) ((rd_T55 l0 x3_1).f4) ((rd_T55 l0 x3_1).f5) ((rd_T55 l0 x3_1).f6) ((rd_T55 l0 x3_1).f7) ((rd_T55 l0 x3_1).f8) ((rd_T55 l0 x3_1).f9) ((rd_T55 l0 x3_1).f10) false _ A5.out).mono ?_
       rintro e w19 ⟨rfl, hb⟩
       refine ⟨_, rfl, ?_⟩
       have n0_ := Gv.a0 (below_step Gv.bw hb)
       clear HB
       have HB := n0_
       clear n0_
       (try clear hb)
       (try clear hb2)
       (try clear hk)
       (try clear hi)
       refine hK.out _ _ ⟨(Gv.bx HB.out hw193_0), (Gv.bx HB.out hw193_1), (Gv.bx HB.out hw193_2), (Gv.bx HB.out hw193_3), (Gv.bx HB.out hw193_4), (Gv.bx HB.out hw193_5), (Gv.bx HB.out hw193_6), (Gv.bx HB.out hw193_7), (Gv.bx HB.out hw193_8), (Gv.bx HB.out hw193_9), (Gv.bx HB.out hw193_10), (Gv.bx HB.out hw193_11), (Gv.bx HB.out hw193_12), (Gv.bx HB.out hw193_13), (Gv.bx HB.out hw193_14), (Gv.bx HB.out hw193_15), (Gv.bx HB.out hw193_16), (Gv.bx HB.out hw193_17), (Gv.bx HB.out hw193_18), (Gv.bx HB.out hw193_19), (Gv.bx HB.out hw193_20)⟩ (fun hHeld => ?_)
       clear hK K
       refine norm_ (a' := ?_) ?_ ?_
       rotate_left
       ·show Act.put _ (some 17) _ = _
        simp only [Act.put, List.setIfInBounds_toArray, List.set_cons_zero, List.set_cons_succ, i64_w, i32_w]
        rfl
       refine Gv.pu 5 (some 18) HT_ ?_
       refine Gv.pu 6 (some 19) HT_ ?_
       refine pure_ (i := 7) (N := some 20) (v := undef) (a' := ?_) #[true, true, true, true, true, true, true, true, false, false, false, false, false, false, false, false, false, false, false, false, false, false, false, false] rfl rfl (any_of HT_.out (by kernel_rfl)) (fun _ _ _ h => h) (Or.inr ⟨by rfl, rfl⟩) ?_ ?_
       rotate_left
       ·simp only [Act.put, List.setIfInBounds_toArray, List.set_cons_zero, List.set_cons_succ, i64_w, i32_w]
        rfl
       refine pure_ (i := 8) (N := some 21) (v := undef) (a' := ?_) #[true, true, true, true, true, true, true, true, true, false, false, false, false, false, false, false, false, false, false, false, false, false, false, false] rfl rfl (any_of HT_.out (by kernel_rfl)) (fun _ _ _ h => h) (Or.inr ⟨by rfl, rfl⟩) ?_ ?_
       rotate_left
       ·simp only [Act.put, List.setIfInBounds_toArray, List.set_cons_zero, List.set_cons_succ, i64_w, i32_w]
        rfl
       refine pure_ (i := 9) (N := some 22) (v := undef) (a' := ?_) #[true, true, true, true, true, true, true, true, true, true, false, false, false, false, false, false, false, false, false, false, false, false, false, false] rfl rfl (any_of HT_.out (by kernel_rfl)) (fun _ _ _ h => h) (Or.inr ⟨by rfl, rfl⟩) ?_ ?_
       rotate_left
       ·simp only [Act.put, List.setIfInBounds_toArray, List.set_cons_zero, List.set_cons_succ, i64_w, i32_w]
        rfl
       refine pure_ (i := 10) (N := some 23) (v := undef) (a' := ?_) #[true, true, true, true, true, true, true, true, true, true, true, false, false, false, false, false, false, false, false, false, false, false, false, false] rfl rfl (any_of HT_.out (by kernel_rfl)) (fun _ _ _ h => h) (Or.inr ⟨by rfl, rfl⟩) ?_ ?_
       rotate_left
       ·simp only [Act.put, List.setIfInBounds_toArray, List.set_cons_zero, List.set_cons_succ, i64_w, i32_w]
        rfl
       refine pure_ (i := 11) (N := some 24) (v := undef) (a' := ?_) #[true, true, true, true, true, true, true, true, true, true, true, true, false, false, false, false, false, false, false, false, false, false, false, false] rfl rfl (any_of HT_.out (by kernel_rfl)) (fun _ _ _ h => h) (Or.inr ⟨by rfl, rfl⟩) ?_ ?_
       rotate_left
       ·simp only [Act.put, List.setIfInBounds_toArray, List.set_cons_zero, List.set_cons_succ, i64_w, i32_w]
        rfl
       refine pure_ (i := 12) (N := some 25) (v := undef) (a' := ?_) #[true, true, true, true, true, true, true, true, true, true, true, true, true, false, false, false, false, false, false, false, false, false, false, false] rfl rfl (any_of HT_.out (by kernel_rfl)) (fun _ _ _ h => h) (Or.inr ⟨by rfl, rfl⟩) ?_ ?_
       rotate_left
       ·simp only [Act.put, List.setIfInBounds_toArray, List.set_cons_zero, List.set_cons_succ, i64_w, i32_w]
        rfl
       refine pure_ (i := 13) (N := some 26) (v := undef) (a' := ?_) #[true, true, true, true, true, true, true, true, true, true, true, true, true, true, false, false, false, false, false, false, false, false, false, false] rfl rfl (any_of HT_.out (by kernel_rfl)) (fun _ _ _ h => h) (Or.inr ⟨by rfl, rfl⟩) ?_ ?_
       rotate_left
       ·simp only [Act.put, List.setIfInBounds_toArray, List.set_cons_zero, List.set_cons_succ, i64_w, i32_w]
        rfl
       refine pure_ (i := 14) (N := some 27) (v := undef) (a' := ?_) #[true, true, true, true, true, true, true, true, true, true, true, true, true, true, true, false, false, false, false, false, false, false, false, false] rfl rfl (any_of HT_.out (by kernel_rfl)) (fun _ _ _ h => h) (Or.inr ⟨by rfl, rfl⟩) ?_ ?_
       rotate_left
       ·simp only [Act.put, List.setIfInBounds_toArray, List.set_cons_zero, List.set_cons_succ, i64_w, i32_w]
        rfl
       refine pure_ (i := 15) (N := some 28) (v := undef) (a' := ?_) #[true, true, true, true, true, true, true, true, true, true, true, true, true, true, true, true, false, false, false, false, false, false, false, false] rfl rfl (any_of HT_.out (by kernel_rfl)) (fun _ _ _ h => h) (Or.inr ⟨by rfl, rfl⟩) ?_ ?_
       rotate_left
       ·simp only [Act.put, List.setIfInBounds_toArray, List.set_cons_zero, List.set_cons_succ, i64_w, i32_w]
        rfl
       refine pure_ (i := 16) (N := some 29) (v := undef) (a' := ?_) #[true, true, true, true, true, true, true, true, true, true, true, true, true, true, true, true, true, false, false, false, false, false, false, false] rfl rfl (any_of HT_.out (by kernel_rfl)) (fun _ _ _ h => h) (Or.inr ⟨by rfl, rfl⟩) ?_ ?_
       rotate_left
       ·simp only [Act.put, List.setIfInBounds_toArray, List.set_cons_zero, List.set_cons_succ, i64_w, i32_w]
        rfl
       refine pure_ (i := 17) (N := some 30) (v := undef) (a' := ?_) #[true, true, true, true, true, true, true, true, true, true, true, true, true, true, true, true, true, true, false, false, false, false, false, false] rfl rfl (any_of HT_.out (by kernel_rfl)) (fun _ _ _ h => h) (Or.inr ⟨by rfl, rfl⟩) ?_ ?_
       rotate_left
       ·simp only [Act.put, List.setIfInBounds_toArray, List.set_cons_zero, List.set_cons_succ, i64_w, i32_w]
        rfl
       refine pure_ (i := 18) (N := some 31) (v := undef) (a' := ?_) #[true, true, true, true, true, true, true, true, true, true, true, true, true, true, true, true, true, true, true, false, false, false, false, false] rfl rfl (any_of HT_.out (by kernel_rfl)) (fun _ _ _ h => h) (Or.inr ⟨by rfl, rfl⟩) ?_ ?_
       rotate_left
       ·simp only [Act.put, List.setIfInBounds_toArray, List.set_cons_zero, List.set_cons_succ, i64_w, i32_w]
        rfl
       refine pure_ (i := 19) (N := some 32) (v := undef) (a' := ?_) #[true, true, true, true, true, true, true, true, true, true, true, true, true, true, true, true, true, true, true, true, false, false, false, false] rfl rfl (any_of HT_.out (by kernel_rfl)) (fun _ _ _ h => h) (Or.inr ⟨by rfl, rfl⟩) ?_ ?_
       rotate_left
       ·simp only [Act.put, List.setIfInBounds_toArray, List.set_cons_zero, List.set_cons_succ, i64_w, i32_w]
        rfl
       refine pure_ (i := 20) (N := some 33) (v := undef) (a' := ?_) #[true, true, true, true, true, true, true, true, true, true, true, true, true, true, true, true, true, true, true, true, true, false, false, false] rfl rfl (any_of HT_.out (by kernel_rfl)) (fun _ _ _ h => h) (Or.inr ⟨by rfl, rfl⟩) ?_ ?_
       rotate_left
       ·simp only [Act.put, List.setIfInBounds_toArray, List.set_cons_zero, List.set_cons_succ, i64_w, i32_w]
        rfl
       refine pure_ (i := 21) (N := some 34) (v := undef) (a' := ?_) #[true, true, true, true, true, true, true, true, true, true, true, true, true, true, true, true, true, true, true, true, true, true, false, false] rfl rfl (any_of HT_.out (by kernel_rfl)) (fun _ _ _ h => h) (Or.inr ⟨by rfl, rfl⟩) ?_ ?_
       rotate_left
       ·simp only [Act.put, List.setIfInBounds_toArray, List.set_cons_zero, List.set_cons_succ, i64_w, i32_w]
        rfl
       refine pure_ (i := 22) (N := some 35) (v := undef) (a' := ?_) #[true, true, true, true, true, true, true, true, true, true, true, true, true, true, true, true, true, true, true, true, true, true, true, false] rfl rfl (any_of HT_.out (by kernel_rfl)) (fun _ _ _ h => h) (Or.inr ⟨by rfl, rfl⟩) ?_ ?_
       rotate_left
       ·simp only [Act.put, List.setIfInBounds_toArray, List.set_cons_zero, List.set_cons_succ, i64_w, i32_w]
        rfl
       refine Gv.pu 23 (some 36) HT_ ?_
       refine done_ (done_of HT_.out (by kernel_rfl)) ?_
       try go_wp2
       go_ret
       exact ⟨by first | rfl | (simp [errW_none, errW_some] <;> rfl) | (simp [*, errW_none, errW_some] <;> rfl), by repeat (first | (with_reducible first | exact HB.out | apply below_alloc | apply pw_below_drewN | apply below_drew1) | exact HB.out)⟩
     ·rw [if_neg c4] at H
      exact absurd H (by simp)
    ·rw [if_neg c3] at H
     have c3b0 : decide (x3_1 < (l0.length : Int)) = false := decide_eq_false c3
     clear c3
     obtain rfl := Option.some.inj H
     go_wp2
     go_ret
     exact ⟨by first | rfl | (simp [errW_none, errW_some] <;> rfl) | (simp [*, errW_none, errW_some] <;> rfl), by repeat (first | (with_reducible first | exact HB.out | apply below_alloc | apply pw_below_drewN | apply below_drew1) | exact HB.out)⟩

/-! ### laws_toAddr: function 32 -/
def laws_toAddr.f (a0_0 : Int) (a0_1 : Int) (a0_2 : Int) (a0_3 : Int) (a0_4 : Int) : Option (Int × Int × Int × Int × Int) := some (a0_0, a0_1, a0_2, a0_3, a0_4)
set_option maxHeartbeats 8000000 in
set_option maxRecDepth 100000 in
theorem laws_toAddr.calls (a0_0 : Int) (a0_1 : Int) (a0_2 : Int) (a0_3 : Int) (a0_4 : Int) (r1 : Int) (r2 : Int) (r3 : Int) (r4 : Int) (r5 : Int) (w : World) (h : laws_toAddr.f a0_0 a0_1 a0_2 a0_3 a0_4 = some (r1, r2, r3, r4, r5)) :
  Calls Try.prog 32 #[.agg #[.int .i64 a0_0, .int .i64 a0_1, .int .i64 a0_2, .int .i64 a0_3, .int .i64 a0_4]] w fun e w' => e = .returned (.agg #[.int .i64 r1, .int .i64 r2, .int .i64 r3, .int .i64 r4, .int .i64 r5]) ∧ Below w.heap.size w w' := by
 have hu30 := Try.underlying30
 have hu34 := Try.underlying34
 have HB := Gv.a0 (Below.refl w.heap.size w)
 have H : (some (a0_0, a0_1, a0_2, a0_3, a0_4)) = some (r1, r2, r3, r4, r5) := h
 clear h
 simp only [Option.some.injEq, Prod.mk.injEq] at H
 obtain ⟨rfl, rfl, rfl, rfl, rfl⟩ := H
 go_enter Try.func32, Try.ntmps32
 go_wp2_with (first | ((with_reducible refine gate_dst (N := 1) rfl ?_); refine box_event ?hg (N := 1) ?hd (cs := #[.int .i64 a0_0, .int .i64 a0_1, .int .i64 a0_2, .int .i64 a0_3, .int .i64 a0_4]) (t := 30) ?hr ?_; (case hd => rfl); (case hg => rfl); (case hr => first | (go_simp; done) | (go_simp; rfl)); intro gb197 hg w2 hbox hb; have n0_ := Gv.a0 (below_step Gv.bw hb); have n1_ := Gv.a0 (hbox); have n2_ := Gv.a0 ((Gv.ble hg Gv.bw : w.heap.size ≤ gb197)); have n3_ := Gv.a0 ((Gv.ble hg Gv.bw : w.heap.size ≤ gb197)); clear HB; have HB := n0_; have BK197 := n1_; have GW197 := n2_; have GE197 := n3_; clear n0_ n1_ n2_ n3_; clear hb hbox hg) | ((with_reducible refine gate_dst (N := 2) rfl ?_); refine box_event ?hg (N := 2) ?hd (cs := #[.int .i64 0, .int .i64 0, .int .i64 0, .int .i64 0, .int .i64 0]) (t := 34) ?hr ?_; (case hd => rfl); (case hg => rfl); (case hr => first | (go_simp; done) | (go_simp; rfl)); intro gb198 hg w3 hbox hb; have n0_ := Gv.a0 (Gv.bb BK197.out hb); have n1_ := Gv.a0 (below_step Gv.bw hb); have n2_ := Gv.a0 (hbox); have n3_ := Gv.a0 ((Gv.ble hg Gv.bw : w.heap.size ≤ gb198)); have n4_ := Gv.a0 ((Gv.ble hg Gv.bw : w.heap.size ≤ gb198)); have n5_ := Gv.a0 ((Gv.nlt hg (Gv.kb BK197.out) : gb197 ≠ gb198)); have n6_ := Gv.a0 ((Gv.ngt hg (Gv.kb BK197.out) : gb198 ≠ gb197)); clear BK197; clear HB; have BK197 := n0_; have HB := n1_; have BK198 := n2_; have GW198 := n3_; have GE198 := n4_; have NB197_198 := n5_; have NB198_197 := n6_; clear n0_ n1_ n2_ n3_ n4_ n5_ n6_; clear hb hbox hg) | ((with_reducible refine gate_dst (N := 3) rfl ?_); refine box_event ?hg (N := 3) ?hd (cs := #[.int .i64 0, .int .i64 0, .int .i64 0, .int .i64 0, .int .i64 0]) (t := 34) ?hr ?_; (case hd => rfl); (case hg => rfl); (case hr => first | (go_simp; done) | (go_simp; rfl)); intro gb199 hg w4 hbox hb; have n0_ := Gv.a0 (Gv.bb BK197.out hb); have n1_ := Gv.a0 (Gv.bb BK198.out hb); have n2_ := Gv.a0 (below_step Gv.bw hb); have n3_ := Gv.a0 (hbox); have n4_ := Gv.a0 ((Gv.ble hg Gv.bw : w.heap.size ≤ gb199)); have n5_ := Gv.a0 ((Gv.ble hg Gv.bw : w.heap.size ≤ gb199)); have n6_ := Gv.a0 ((Gv.nlt hg (Gv.kb BK197.out) : gb197 ≠ gb199)); have n7_ := Gv.a0 ((Gv.ngt hg (Gv.kb BK197.out) : gb199 ≠ gb197)); have n8_ := Gv.a0 ((Gv.nlt hg (Gv.kb BK198.out) : gb198 ≠ gb199)); have n9_ := Gv.a0 ((Gv.ngt hg (Gv.kb BK198.out) : gb199 ≠ gb198)); clear BK197; clear BK198; clear HB; have BK197 := n0_; have BK198 := n1_; have HB := n2_; have BK199 := n3_; have GW199 := n4_; have GE199 := n5_; have NB197_199 := n6_; have NB199_197 := n7_; have NB198_199 := n8_; have NB199_198 := n9_; clear n0_ n1_ n2_ n3_ n4_ n5_ n6_ n7_ n8_ n9_; clear hb hbox hg; have hnb5 := NB197_198.out; have hnc5 := NB198_197.out; have hnb6 := NB197_199.out; have hnc6 := NB199_197.out; obtain ⟨hcz7_0, hcz7_1, hcz7_2, hcz7_3, hcz7_4⟩ := Gv.c5 BK197.out; obtain ⟨hfz7_0, hfz7_1, hfz7_2, hfz7_3, hfz7_4⟩ := Gv.f5 BK197.out; have hnb8 := NB199_198.out; have hnc8 := NB198_199.out; obtain ⟨hcz9_0, hcz9_1, hcz9_2, hcz9_3, hcz9_4⟩ := Gv.c5 BK199.out; obtain ⟨hfz9_0, hfz9_1, hfz9_2, hfz9_3, hfz9_4⟩ := Gv.f5 BK199.out; obtain ⟨hcz10_0, hcz10_1, hcz10_2, hcz10_3, hcz10_4⟩ := Gv.c5 BK198.out; obtain ⟨hfz10_0, hfz10_1, hfz10_2, hfz10_3, hfz10_4⟩ := Gv.f5 BK198.out))
 refine bodyPost_ret (results_cell_row rfl _ _ gb198 34 #[.int .i64 a0_0, .int .i64 a0_1, .int .i64 a0_2, .int .i64 a0_3, .int .i64 a0_4] (0, 0) _ rfl (by (with_reducible repeat (first | refine blk_drewN ?_ _ | refine blk_drew ?_ | refine blk_alloc ?_ _)); refine blk_put (cs := #[.int .i64 a0_0, .int .i64 a0_1, .int .i64 a0_2, .int .i64 a0_3, .int .i64 0]) ?_ 4 _ rfl; (with_reducible repeat (first | refine blk_drewN ?_ _ | refine blk_drew ?_ | refine blk_alloc ?_ _)); refine blk_put (cs := #[.int .i64 a0_0, .int .i64 a0_1, .int .i64 a0_2, .int .i64 0, .int .i64 0]) ?_ 3 _ rfl; (with_reducible repeat (first | refine blk_drewN ?_ _ | refine blk_drew ?_ | refine blk_alloc ?_ _)); refine blk_put (cs := #[.int .i64 a0_0, .int .i64 a0_1, .int .i64 0, .int .i64 0, .int .i64 0]) ?_ 2 _ rfl; (with_reducible repeat (first | refine blk_drewN ?_ _ | refine blk_drew ?_ | refine blk_alloc ?_ _)); refine blk_put (cs := #[.int .i64 a0_0, .int .i64 0, .int .i64 0, .int .i64 0, .int .i64 0]) ?_ 1 _ rfl; (with_reducible repeat (first | refine blk_drewN ?_ _ | refine blk_drew ?_ | refine blk_alloc ?_ _)); refine blk_put (cs := #[.int .i64 0, .int .i64 0, .int .i64 0, .int .i64 0, .int .i64 0]) ?_ 0 _ rfl; (with_reducible repeat (first | refine blk_drewN ?_ _ | refine blk_drew ?_ | refine blk_alloc ?_ _)); refine blk_far ?_ NB198_199.out _; (with_reducible repeat (first | refine blk_drewN ?_ _ | refine blk_drew ?_ | refine blk_alloc ?_ _)); refine blk_far ?_ NB198_199.out _; (with_reducible repeat (first | refine blk_drewN ?_ _ | refine blk_drew ?_ | refine blk_alloc ?_ _)); refine blk_far ?_ NB198_199.out _; (with_reducible repeat (first | refine blk_drewN ?_ _ | refine blk_drew ?_ | refine blk_alloc ?_ _)); refine blk_far ?_ NB198_199.out _; (with_reducible repeat (first | refine blk_drewN ?_ _ | refine blk_drew ?_ | refine blk_alloc ?_ _)); refine blk_far ?_ NB198_199.out _; (with_reducible repeat (first | refine blk_drewN ?_ _ | refine blk_drew ?_ | refine blk_alloc ?_ _)); exact BK198.out) Try.underlying34 rfl (by kernel_rfl)) rfl ?_
 exact ⟨by first | rfl | (simp [errW_none, errW_some] <;> rfl) | (simp [*, errW_none, errW_some] <;> rfl), by repeat (first | (with_reducible first | exact HB.out | apply below_alloc | apply pw_below_drewN | apply below_drew1 | refine below_set ?_ GE197.out | refine below_set ?_ GE198.out | refine below_set ?_ GE199.out) | exact HB.out)⟩

/-! ### laws_toPrefix: function 43 -/
def laws_toPrefix.f (a0_0 : Int) (a0_1 : Int) (a0_2 : Int) (a0_3 : Int) (a0_4 : Int) (a0_5 : Int) : Option (Int × Int × Int × Int × Int × Int) := (laws_toAddr.f a0_0 a0_1 a0_2 a0_3 a0_4).bind fun bt203 => (some (bt203.1, bt203.2.1, bt203.2.2.1, bt203.2.2.2.1, bt203.2.2.2.2, a0_5))
set_option maxHeartbeats 8000000 in
set_option maxRecDepth 100000 in
theorem laws_toPrefix.calls (a0_0 : Int) (a0_1 : Int) (a0_2 : Int) (a0_3 : Int) (a0_4 : Int) (a0_5 : Int) (r1 : Int) (r2 : Int) (r3 : Int) (r4 : Int) (r5 : Int) (r6 : Int) (w : World) (h : laws_toPrefix.f a0_0 a0_1 a0_2 a0_3 a0_4 a0_5 = some (r1, r2, r3, r4, r5, r6)) :
  Calls Try.prog 43 #[.agg #[.int .i64 a0_0, .int .i64 a0_1, .int .i64 a0_2, .int .i64 a0_3, .int .i64 a0_4, .int .i64 a0_5]] w fun e w' => e = .returned (.agg #[.int .i64 r1, .int .i64 r2, .int .i64 r3, .int .i64 r4, .int .i64 r5, .int .i64 r6]) ∧ Below w.heap.size w w' := by
 have hu48 := Try.underlying48
 have hu53 := Try.underlying53
 have hu30 := Try.underlying30
 have hu34 := Try.underlying34
 have HB := Gv.a0 (Below.refl w.heap.size w)
 have H : ((laws_toAddr.f a0_0 a0_1 a0_2 a0_3 a0_4).bind fun bt203 => (some (bt203.1, bt203.2.1, bt203.2.2.1, bt203.2.2.2.1, bt203.2.2.2.2, a0_5))) = some (r1, r2, r3, r4, r5, r6) := h
 clear h
 replace H := Option.bind_eq_some_iff.mp H
 obtain ⟨⟨t203, t204, t205, t206, t207⟩, A20, H⟩ := H
 replace H : (some (t203, t204, t205, t206, t207, a0_5)) = some (r1, r2, r3, r4, r5, r6) := H
 have A2 := Gv.a0 A20
 clear A20
 simp only [Option.some.injEq, Prod.mk.injEq] at H
 obtain ⟨rfl, rfl, rfl, rfl, rfl, rfl⟩ := H
 go_enter Try.func43, Try.ntmps43
 go_wp2_with (first | ((with_reducible refine gate_dst (N := 1) rfl ?_); refine box_event ?hg (N := 1) ?hd (cs := #[.int .i64 a0_0, .int .i64 a0_1, .int .i64 a0_2, .int .i64 a0_3, .int .i64 a0_4, .int .i64 a0_5]) (t := 48) ?hr ?_; (case hd => rfl); (case hg => rfl); (case hr => first | (go_simp; done) | (go_simp; rfl)); intro gb200 hg w3 hbox hb; have n0_ := Gv.a0 (below_step Gv.bw hb); have n1_ := Gv.a0 (hbox); have n2_ := Gv.a0 ((Gv.ble hg Gv.bw : w.heap.size ≤ gb200)); have n3_ := Gv.a0 ((Gv.ble hg Gv.bw : w.heap.size ≤ gb200)); clear HB; have HB := n0_; have BK200 := n1_; have GW200 := n2_; have GE200 := n3_; clear n0_ n1_ n2_ n3_; clear hb hbox hg) | ((with_reducible refine gate_dst (N := 2) rfl ?_); refine box_event ?hg (N := 2) ?hd (cs := #[.int .i64 0, .int .i64 0, .int .i64 0, .int .i64 0, .int .i64 0, .int .i64 0]) (t := 53) ?hr ?_; (case hd => rfl); (case hg => rfl); (case hr => first | (go_simp; done) | (go_simp; rfl)); intro gb201 hg w4 hbox hb; have n0_ := Gv.a0 (Gv.bb BK200.out hb); have n1_ := Gv.a0 (below_step Gv.bw hb); have n2_ := Gv.a0 (hbox); have n3_ := Gv.a0 ((Gv.ble hg Gv.bw : w.heap.size ≤ gb201)); have n4_ := Gv.a0 ((Gv.ble hg Gv.bw : w.heap.size ≤ gb201)); have n5_ := Gv.a0 ((Gv.nlt hg (Gv.kb BK200.out) : gb200 ≠ gb201)); have n6_ := Gv.a0 ((Gv.ngt hg (Gv.kb BK200.out) : gb201 ≠ gb200)); clear BK200; clear HB; have BK200 := n0_; have HB := n1_; have BK201 := n2_; have GW201 := n3_; have GE201 := n4_; have NB200_201 := n5_; have NB201_200 := n6_; clear n0_ n1_ n2_ n3_ n4_ n5_ n6_; clear hb hbox hg) | ((with_reducible refine gate_dst (N := 3) rfl ?_); refine box_event ?hg (N := 3) ?hd (cs := #[.int .i64 0, .int .i64 0, .int .i64 0, .int .i64 0, .int .i64 0, .int .i64 0]) (t := 53) ?hr ?_; (case hd => rfl); (case hg => rfl); (case hr => first | (go_simp; done) | (go_simp; rfl)); intro gb202 hg w5 hbox hb; have n0_ := Gv.a0 (Gv.bb BK200.out hb); have n1_ := Gv.a0 (Gv.bb BK201.out hb); have n2_ := Gv.a0 (below_step Gv.bw hb); have n3_ := Gv.a0 (hbox); have n4_ := Gv.a0 ((Gv.ble hg Gv.bw : w.heap.size ≤ gb202)); have n5_ := Gv.a0 ((Gv.ble hg Gv.bw : w.heap.size ≤ gb202)); have n6_ := Gv.a0 ((Gv.nlt hg (Gv.kb BK200.out) : gb200 ≠ gb202)); have n7_ := Gv.a0 ((Gv.ngt hg (Gv.kb BK200.out) : gb202 ≠ gb200)); have n8_ := Gv.a0 ((Gv.nlt hg (Gv.kb BK201.out) : gb201 ≠ gb202)); have n9_ := Gv.a0 ((Gv.ngt hg (Gv.kb BK201.out) : gb202 ≠ gb201)); clear BK200; clear BK201; clear HB; have BK200 := n0_; have BK201 := n1_; have HB := n2_; have BK202 := n3_; have GW202 := n4_; have GE202 := n5_; have NB200_202 := n6_; have NB202_200 := n7_; have NB201_202 := n8_; have NB202_201 := n9_; clear n0_ n1_ n2_ n3_ n4_ n5_ n6_ n7_ n8_ n9_; clear hb hbox hg; have hnb6 := NB200_201.out; have hnc6 := NB201_200.out; have hnb7 := NB200_202.out; have hnc7 := NB202_200.out; obtain ⟨hcz8_0, hcz8_1, hcz8_2, hcz8_3, hcz8_4, hcz8_5⟩ := Gv.c6 BK200.out; obtain ⟨hfz8_0, hfz8_1, hfz8_2, hfz8_3, hfz8_4, hfz8_5⟩ := Gv.f6 BK200.out) | ((with_reducible refine gate_callee (f := 32) rfl ?_); refine goesL_ (some 6) rfl rfl Try.func32 (by kernel_rfl) rfl #[.agg #[.int .i64 a0_0, .int .i64 a0_1, .int .i64 a0_2, .int .i64 a0_3, .int .i64 a0_4]] rfl Gv.lm ?_; (with_reducible refine (laws_toAddr.calls a0_0 a0_1 a0_2 a0_3 a0_4 t203 t204 t205 t206 t207 _ A2.out).mono ?_); rintro e w9 ⟨rfl, hb⟩; refine ⟨_, rfl, ?_⟩; have n0_ := Gv.a0 (Gv.bb BK200.out hb); have n1_ := Gv.a0 (Gv.bb BK201.out hb); have n2_ := Gv.a0 (Gv.bb BK202.out hb); have n3_ := Gv.a0 (below_step Gv.bw hb); clear BK200; clear BK201; clear BK202; clear HB; have BK200 := n0_; have BK201 := n1_; have BK202 := n2_; have HB := n3_; clear n0_ n1_ n2_ n3_; (try clear hb); (try clear hb2); (try clear hk); (try clear hi); have hnb10 := NB202_201.out; have hnc10 := NB201_202.out; obtain ⟨hcz11_0, hcz11_1, hcz11_2, hcz11_3, hcz11_4, hcz11_5⟩ := Gv.c6 BK202.out; obtain ⟨hfz11_0, hfz11_1, hfz11_2, hfz11_3, hfz11_4, hfz11_5⟩ := Gv.f6 BK202.out; obtain ⟨hcz12_0, hcz12_1, hcz12_2, hcz12_3, hcz12_4, hcz12_5⟩ := Gv.c6 BK200.out; obtain ⟨hfz12_0, hfz12_1, hfz12_2, hfz12_3, hfz12_4, hfz12_5⟩ := Gv.f6 BK200.out; obtain ⟨hcz13_0, hcz13_1, hcz13_2, hcz13_3, hcz13_4, hcz13_5⟩ := Gv.c6 BK201.out; obtain ⟨hfz13_0, hfz13_1, hfz13_2, hfz13_3, hfz13_4, hfz13_5⟩ := Gv.f6 BK201.out))
 refine bodyPost_ret (results_cell_row rfl _ _ gb201 53 #[.int .i64 t203, .int .i64 t204, .int .i64 t205, .int .i64 t206, .int .i64 t207, .int .i64 a0_5] (0, 0) _ rfl (by (with_reducible repeat (first | refine blk_drewN ?_ _ | refine blk_drew ?_ | refine blk_alloc ?_ _)); refine blk_put (cs := #[.int .i64 t203, .int .i64 t204, .int .i64 t205, .int .i64 t206, .int .i64 t207, .int .i64 0]) ?_ 5 _ rfl; (with_reducible repeat (first | refine blk_drewN ?_ _ | refine blk_drew ?_ | refine blk_alloc ?_ _)); refine blk_put (cs := #[.int .i64 t203, .int .i64 t204, .int .i64 t205, .int .i64 t206, .int .i64 0, .int .i64 0]) ?_ 4 _ rfl; (with_reducible repeat (first | refine blk_drewN ?_ _ | refine blk_drew ?_ | refine blk_alloc ?_ _)); refine blk_put (cs := #[.int .i64 t203, .int .i64 t204, .int .i64 t205, .int .i64 0, .int .i64 0, .int .i64 0]) ?_ 3 _ rfl; (with_reducible repeat (first | refine blk_drewN ?_ _ | refine blk_drew ?_ | refine blk_alloc ?_ _)); refine blk_put (cs := #[.int .i64 t203, .int .i64 t204, .int .i64 0, .int .i64 0, .int .i64 0, .int .i64 0]) ?_ 2 _ rfl; (with_reducible repeat (first | refine blk_drewN ?_ _ | refine blk_drew ?_ | refine blk_alloc ?_ _)); refine blk_put (cs := #[.int .i64 t203, .int .i64 0, .int .i64 0, .int .i64 0, .int .i64 0, .int .i64 0]) ?_ 1 _ rfl; (with_reducible repeat (first | refine blk_drewN ?_ _ | refine blk_drew ?_ | refine blk_alloc ?_ _)); refine blk_put (cs := #[.int .i64 0, .int .i64 0, .int .i64 0, .int .i64 0, .int .i64 0, .int .i64 0]) ?_ 0 _ rfl; (with_reducible repeat (first | refine blk_drewN ?_ _ | refine blk_drew ?_ | refine blk_alloc ?_ _)); refine blk_far ?_ NB201_202.out _; (with_reducible repeat (first | refine blk_drewN ?_ _ | refine blk_drew ?_ | refine blk_alloc ?_ _)); refine blk_far ?_ NB201_202.out _; (with_reducible repeat (first | refine blk_drewN ?_ _ | refine blk_drew ?_ | refine blk_alloc ?_ _)); refine blk_far ?_ NB201_202.out _; (with_reducible repeat (first | refine blk_drewN ?_ _ | refine blk_drew ?_ | refine blk_alloc ?_ _)); refine blk_far ?_ NB201_202.out _; (with_reducible repeat (first | refine blk_drewN ?_ _ | refine blk_drew ?_ | refine blk_alloc ?_ _)); refine blk_far ?_ NB201_202.out _; (with_reducible repeat (first | refine blk_drewN ?_ _ | refine blk_drew ?_ | refine blk_alloc ?_ _)); refine blk_far ?_ NB201_202.out _; (with_reducible repeat (first | refine blk_drewN ?_ _ | refine blk_drew ?_ | refine blk_alloc ?_ _)); exact BK201.out) Try.underlying53 rfl (by kernel_rfl)) rfl ?_
 exact ⟨by first | rfl | (simp [errW_none, errW_some] <;> rfl) | (simp [*, errW_none, errW_some] <;> rfl), by repeat (first | (with_reducible first | exact HB.out | apply below_alloc | apply pw_below_drewN | apply below_drew1 | refine below_set ?_ GE200.out | refine below_set ?_ GE201.out | refine below_set ?_ GE202.out) | exact HB.out)⟩

/-! ### laws_toRule: function 26 -/
def laws_toRule.f (a0_0 : Int) (a0_1 : Int) (a0_2 : Int) (a0_3 : Int) (a0_4 : Int) (a0_5 : Int) (a0_6 : Int) (a0_7 : Int) (a0_8 : Int) (a0_9 : Int) (a0_10 : Int) (a0_11 : Int) (a0_12 : Int) (a0_13 : Int) (a0_14 : Int) (a0_15 : Int) (a0_16 : Int) (a0_17 : Int) (a0_18 : Int) (a0_19 : Int) (a0_20 : Int) : Option (Int × Int × Int × Int × Int × Int × Int × Int × Int × Int × Int × Int × Int × Int × Int × Int × Int × Int × Int × Int × Int) := (laws_toPrefix.f a0_1 a0_2 a0_3 a0_4 a0_5 a0_6).bind fun bt211 => ((laws_toPrefix.f a0_7 a0_8 a0_9 a0_10 a0_11 a0_12).bind fun bt217 => (some (a0_0, bt211.1, bt211.2.1, bt211.2.2.1, bt211.2.2.2.1, bt211.2.2.2.2.1, bt211.2.2.2.2.2, bt217.1, bt217.2.1, bt217.2.2.1, bt217.2.2.2.1, bt217.2.2.2.2.1, bt217.2.2.2.2.2, a0_13, a0_14, a0_15, a0_16, a0_17, a0_18, a0_19, a0_20)))
set_option maxHeartbeats 8000000 in
set_option maxRecDepth 100000 in
theorem laws_toRule.calls (a0_0 : Int) (a0_1 : Int) (a0_2 : Int) (a0_3 : Int) (a0_4 : Int) (a0_5 : Int) (a0_6 : Int) (a0_7 : Int) (a0_8 : Int) (a0_9 : Int) (a0_10 : Int) (a0_11 : Int) (a0_12 : Int) (a0_13 : Int) (a0_14 : Int) (a0_15 : Int) (a0_16 : Int) (a0_17 : Int) (a0_18 : Int) (a0_19 : Int) (a0_20 : Int) (r1 : Int) (r2 : Int) (r3 : Int) (r4 : Int) (r5 : Int) (r6 : Int) (r7 : Int) (r8 : Int) (r9 : Int) (r10 : Int) (r11 : Int) (r12 : Int) (r13 : Int) (r14 : Int) (r15 : Int) (r16 : Int) (r17 : Int) (r18 : Int) (r19 : Int) (r20 : Int) (r21 : Int) (w : World) (h : laws_toRule.f a0_0 a0_1 a0_2 a0_3 a0_4 a0_5 a0_6 a0_7 a0_8 a0_9 a0_10 a0_11 a0_12 a0_13 a0_14 a0_15 a0_16 a0_17 a0_18 a0_19 a0_20 = some (r1, r2, r3, r4, r5, r6, r7, r8, r9, r10, r11, r12, r13, r14, r15, r16, r17, r18, r19, r20, r21)) :
  Calls Try.prog 26 #[.agg #[.int .i64 a0_0, .int .i64 a0_1, .int .i64 a0_2, .int .i64 a0_3, .int .i64 a0_4, .int .i64 a0_5, .int .i64 a0_6, .int .i64 a0_7, .int .i64 a0_8, .int .i64 a0_9, .int .i64 a0_10, .int .i64 a0_11, .int .i64 a0_12, .int .i64 a0_13, .int .i64 a0_14, .int .i64 a0_15, .int .i64 a0_16, .int .i64 a0_17, .int .i64 a0_18, .int .i64 a0_19, .int .i64 a0_20]] w fun e w' => e = .returned (.agg #[.int .i64 r1, .int .i64 r2, .int .i64 r3, .int .i64 r4, .int .i64 r5, .int .i64 r6, .int .i64 r7, .int .i64 r8, .int .i64 r9, .int .i64 r10, .int .i64 r11, .int .i64 r12, .int .i64 r13, .int .i64 r14, .int .i64 r15, .int .i64 r16, .int .i64 r17, .int .i64 r18, .int .i64 r19, .int .i64 r20, .int .i64 r21]) ∧ Below w.heap.size w w' := by
 have hu50 := Try.underlying50
 have hu55 := Try.underlying55
 have hu48 := Try.underlying48
 have hu53 := Try.underlying53
 have HB := Gv.a0 (Below.refl w.heap.size w)
 have H : ((laws_toPrefix.f a0_1 a0_2 a0_3 a0_4 a0_5 a0_6).bind fun bt211 => ((laws_toPrefix.f a0_7 a0_8 a0_9 a0_10 a0_11 a0_12).bind fun bt217 => (some (a0_0, bt211.1, bt211.2.1, bt211.2.2.1, bt211.2.2.2.1, bt211.2.2.2.2.1, bt211.2.2.2.2.2, bt217.1, bt217.2.1, bt217.2.2.1, bt217.2.2.2.1, bt217.2.2.2.2.1, bt217.2.2.2.2.2, a0_13, a0_14, a0_15, a0_16, a0_17, a0_18, a0_19, a0_20)))) = some (r1, r2, r3, r4, r5, r6, r7, r8, r9, r10, r11, r12, r13, r14, r15, r16, r17, r18, r19, r20, r21) := h
 clear h
 replace H := Option.bind_eq_some_iff.mp H
 obtain ⟨⟨t211, t212, t213, t214, t215, t216⟩, A20, H⟩ := H
 replace H : ((laws_toPrefix.f a0_7 a0_8 a0_9 a0_10 a0_11 a0_12).bind fun bt217 => (some (a0_0, t211, t212, t213, t214, t215, t216, bt217.1, bt217.2.1, bt217.2.2.1, bt217.2.2.2.1, bt217.2.2.2.2.1, bt217.2.2.2.2.2, a0_13, a0_14, a0_15, a0_16, a0_17, a0_18, a0_19, a0_20))) = some (r1, r2, r3, r4, r5, r6, r7, r8, r9, r10, r11, r12, r13, r14, r15, r16, r17, r18, r19, r20, r21) := H
 have A2 := Gv.a0 A20
 clear A20
 replace H := Option.bind_eq_some_iff.mp H
 obtain ⟨⟨t217, t218, t219, t220, t221, t222⟩, A30, H⟩ := H
 replace H : (some (a0_0, t211, t212, t213, t214, t215, t216, t217, t218, t219, t220, t221, t222, a0_13, a0_14, a0_15, a0_16, a0_17, a0_18, a0_19, a0_20)) = some (r1, r2, r3, r4, r5, r6, r7, r8, r9, r10, r11, r12, r13, r14, r15, r16, r17, r18, r19, r20, r21) := H
 have A3 := Gv.a0 A30
 clear A30
 simp only [Option.some.injEq, Prod.mk.injEq] at H
 obtain ⟨rfl, rfl, rfl, rfl, rfl, rfl, rfl, rfl, rfl, rfl, rfl, rfl, rfl, rfl, rfl, rfl, rfl, rfl, rfl, rfl, rfl⟩ := H
 go_enter Try.func26, Try.ntmps26
 go_wp2_with (first | ((with_reducible refine gate_dst (N := 1) rfl ?_); refine box_event ?hg (N := 1) ?hd (cs := #[.int .i64 a0_0, .int .i64 a0_1, .int .i64 a0_2, .int .i64 a0_3, .int .i64 a0_4, .int .i64 a0_5, .int .i64 a0_6, .int .i64 a0_7, .int .i64 a0_8, .int .i64 a0_9, .int .i64 a0_10, .int .i64 a0_11, .int .i64 a0_12, .int .i64 a0_13, .int .i64 a0_14, .int .i64 a0_15, .int .i64 a0_16, .int .i64 a0_17, .int .i64 a0_18, .int .i64 a0_19, .int .i64 a0_20]) (t := 50) ?hr ?_; (case hd => rfl); (case hg => rfl); (case hr => first | (go_simp; done) | (go_simp; rfl)); intro gb208 hg w4 hbox hb; have n0_ := Gv.a0 (below_step Gv.bw hb); have n1_ := Gv.a0 (hbox); have n2_ := Gv.a0 ((Gv.ble hg Gv.bw : w.heap.size ≤ gb208)); have n3_ := Gv.a0 ((Gv.ble hg Gv.bw : w.heap.size ≤ gb208)); clear HB; have HB := n0_; have BK208 := n1_; have GW208 := n2_; have GE208 := n3_; clear n0_ n1_ n2_ n3_; clear hb hbox hg) | ((with_reducible refine gate_dst (N := 2) rfl ?_); refine box_event ?hg (N := 2) ?hd (cs := #[.int .i64 0, .int .i64 0, .int .i64 0, .int .i64 0, .int .i64 0, .int .i64 0, .int .i64 0, .int .i64 0, .int .i64 0, .int .i64 0, .int .i64 0, .int .i64 0, .int .i64 0, .int .i64 0, .int .i64 0, .int .i64 0, .int .i64 0, .int .i64 0, .int .i64 0, .int .i64 0, .int .i64 0]) (t := 55) ?hr ?_; (case hd => rfl); (case hg => rfl); (case hr => first | (go_simp; done) | (go_simp; rfl)); intro gb209 hg w5 hbox hb; have n0_ := Gv.a0 (Gv.bb BK208.out hb); have n1_ := Gv.a0 (below_step Gv.bw hb); have n2_ := Gv.a0 (hbox); have n3_ := Gv.a0 ((Gv.ble hg Gv.bw : w.heap.size ≤ gb209)); have n4_ := Gv.a0 ((Gv.ble hg Gv.bw : w.heap.size ≤ gb209)); have n5_ := Gv.a0 ((Gv.nlt hg (Gv.kb BK208.out) : gb208 ≠ gb209)); have n6_ := Gv.a0 ((Gv.ngt hg (Gv.kb BK208.out) : gb209 ≠ gb208)); clear BK208; clear HB; have BK208 := n0_; have HB := n1_; have BK209 := n2_; have GW209 := n3_; have GE209 := n4_; have NB208_209 := n5_; have NB209_208 := n6_; clear n0_ n1_ n2_ n3_ n4_ n5_ n6_; clear hb hbox hg) | ((with_reducible refine gate_dst (N := 3) rfl ?_); refine box_event ?hg (N := 3) ?hd (cs := #[.int .i64 0, .int .i64 0, .int .i64 0, .int .i64 0, .int .i64 0, .int .i64 0, .int .i64 0, .int .i64 0, .int .i64 0, .int .i64 0, .int .i64 0, .int .i64 0, .int .i64 0, .int .i64 0, .int .i64 0, .int .i64 0, .int .i64 0, .int .i64 0, .int .i64 0, .int .i64 0, .int .i64 0]) (t := 55) ?hr ?_; (case hd => rfl); (case hg => rfl); (case hr => first | (go_simp; done) | (go_simp; rfl)); intro gb210 hg w6 hbox hb; have n0_ := Gv.a0 (Gv.bb BK208.out hb); have n1_ := Gv.a0 (Gv.bb BK209.out hb); have n2_ := Gv.a0 (below_step Gv.bw hb); have n3_ := Gv.a0 (hbox); have n4_ := Gv.a0 ((Gv.ble hg Gv.bw : w.heap.size ≤ gb210)); have n5_ := Gv.a0 ((Gv.ble hg Gv.bw : w.heap.size ≤ gb210)); have n6_ := Gv.a0 ((Gv.nlt hg (Gv.kb BK208.out) : gb208 ≠ gb210)); have n7_ := Gv.a0 ((Gv.ngt hg (Gv.kb BK208.out) : gb210 ≠ gb208)); have n8_ := Gv.a0 ((Gv.nlt hg (Gv.kb BK209.out) : gb209 ≠ gb210)); have n9_ := Gv.a0 ((Gv.ngt hg (Gv.kb BK209.out) : gb210 ≠ gb209)); clear BK208; clear BK209; clear HB; have BK208 := n0_; have BK209 := n1_; have HB := n2_; have BK210 := n3_; have GW210 := n4_; have GE210 := n5_; have NB208_210 := n6_; have NB210_208 := n7_; have NB209_210 := n8_; have NB210_209 := n9_; clear n0_ n1_ n2_ n3_ n4_ n5_ n6_ n7_ n8_ n9_; clear hb hbox hg; have hnb7 := NB208_209.out; have hnc7 := NB209_208.out; have hnb8 := NB208_210.out; have hnc8 := NB210_208.out; have hnb10 := NB210_209.out; have hnc10 := NB209_210.out) | ((with_reducible refine gate_callee (f := 43) rfl ?_); refine goesL_ (some 9) rfl rfl Try.func43 (by kernel_rfl) rfl #[.agg #[.int .i64 a0_1, .int .i64 a0_2, .int .i64 a0_3, .int .i64 a0_4, .int .i64 a0_5, .int .i64 a0_6]] rfl Gv.lm ?_; (with_reducible refine (laws_toPrefix.calls a0_1 a0_2 a0_3 a0_4 a0_5 a0_6 t211 t212 t213 t214 t215 t216 _ A2.out).mono ?_); rintro e w12 ⟨rfl, hb⟩; refine ⟨_, rfl, ?_⟩; have n0_ := Gv.a0 (below_step HB.out hb); have n1_ := Gv.a0 (Gv.bb BK208.out hb); have n2_ := Gv.a0 (Gv.bb BK209.out hb); have n3_ := Gv.a0 (Gv.bb BK210.out hb); clear HB BK208 BK209 BK210 hb; have HB := n0_; have BK208 := n1_; have BK209 := n2_; have BK210 := n3_; clear n0_ n1_ n2_ n3_) | ((with_reducible refine gate_callee (f := 43) rfl ?_); refine goesL_ (some 13) rfl rfl Try.func43 (by kernel_rfl) rfl #[.agg #[.int .i64 a0_7, .int .i64 a0_8, .int .i64 a0_9, .int .i64 a0_10, .int .i64 a0_11, .int .i64 a0_12]] rfl Gv.lm ?_; (with_reducible refine (laws_toPrefix.calls a0_7 a0_8 a0_9 a0_10 a0_11 a0_12 t217 t218 t219 t220 t221 t222 _ A3.out).mono ?_); rintro e w15 ⟨rfl, hb⟩; refine ⟨_, rfl, ?_⟩; have n0_ := Gv.a0 (below_step HB.out hb); have n1_ := Gv.a0 (Gv.bb BK208.out hb); have n2_ := Gv.a0 (Gv.bb BK209.out hb); have n3_ := Gv.a0 (Gv.bb BK210.out hb); clear HB BK208 BK209 BK210 hb; have HB := n0_; have BK208 := n1_; have BK209 := n2_; have BK210 := n3_; clear n0_ n1_ n2_ n3_) | ((with_reducible refine Gv.gate_load (t := 3) rfl ?_); refine Gv.get_event (g := gb208) rfl rfl rfl BK208.out rfl Try.underlying3 rfl ?_) | ((with_reducible refine Gv.gate_load (t := 48) rfl ?_); refine Gv.mid_event (g := gb208) [.int .i64 a0_1, .int .i64 a0_2, .int .i64 a0_3, .int .i64 a0_4, .int .i64 a0_5, .int .i64 a0_6] rfl rfl rfl BK208.out rfl Try.underlying48 rfl (by kernel_rfl) ?_) | ((with_reducible refine Gv.gate_load (t := 48) rfl ?_); refine Gv.mid_event (g := gb208) [.int .i64 a0_7, .int .i64 a0_8, .int .i64 a0_9, .int .i64 a0_10, .int .i64 a0_11, .int .i64 a0_12] rfl rfl rfl BK208.out rfl Try.underlying48 rfl (by kernel_rfl) ?_) | ((with_reducible refine Gv.gate_load (t := 53) rfl ?_); refine Gv.mid_event (g := gb208) [.int .i64 a0_1, .int .i64 a0_2, .int .i64 a0_3, .int .i64 a0_4, .int .i64 a0_5, .int .i64 a0_6] rfl rfl rfl BK208.out rfl Try.underlying53 rfl (by kernel_rfl) ?_) | ((with_reducible refine Gv.gate_load (t := 53) rfl ?_); refine Gv.mid_event (g := gb208) [.int .i64 a0_7, .int .i64 a0_8, .int .i64 a0_9, .int .i64 a0_10, .int .i64 a0_11, .int .i64 a0_12] rfl rfl rfl BK208.out rfl Try.underlying53 rfl (by kernel_rfl) ?_) | ((with_reducible refine gate_store (t := 3) rfl ?_); refine Gv.put_event (g := gb210) rfl rfl rfl rfl rfl BK210.out (by kernel_rfl) (by simp) ?_; intro wp_ hbox hoth hbel; simp only [List.setIfInBounds_toArray, List.set_cons_succ, List.set_cons_zero] at hbox; have n0_ := Gv.a0 (hbox); have n1_ := Gv.a0 (hbel w HB.out GE210.out); have n2_ := Gv.a0 ((hoth gb208 NB208_210.out).trans BK208.out); have n3_ := Gv.a0 ((hoth gb209 NB209_210.out).trans BK209.out); clear HB BK208 BK209 BK210; have BK210 := n0_; have HB := n1_; have BK208 := n2_; have BK209 := n3_; clear n0_ n1_ n2_ n3_ hbox hoth hbel) | ((with_reducible refine gate_store (t := 48) rfl ?_); refine Gv.mput_event (g := gb210) (cs' := #[.int .i64 a0_0, .int .i64 t211, .int .i64 t212, .int .i64 t213, .int .i64 t214, .int .i64 t215, .int .i64 t216, .int .i64 0, .int .i64 0, .int .i64 0, .int .i64 0, .int .i64 0, .int .i64 0, .int .i64 0, .int .i64 0, .int .i64 0, .int .i64 0, .int .i64 0, .int .i64 0, .int .i64 0, .int .i64 0]) rfl rfl rfl rfl rfl BK210.out (by kernel_rfl) rfl (by simp) rfl ?_; intro wp_ hbox hoth hbel; have n0_ := Gv.a0 (hbox); have n1_ := Gv.a0 (hbel w HB.out GE210.out); have n2_ := Gv.a0 ((hoth gb208 NB208_210.out).trans BK208.out); have n3_ := Gv.a0 ((hoth gb209 NB209_210.out).trans BK209.out); clear HB BK208 BK209 BK210; have BK210 := n0_; have HB := n1_; have BK208 := n2_; have BK209 := n3_; clear n0_ n1_ n2_ n3_ hbox hoth hbel) | ((with_reducible refine gate_store (t := 48) rfl ?_); refine Gv.mput_event (g := gb210) (cs' := #[.int .i64 a0_0, .int .i64 t211, .int .i64 t212, .int .i64 t213, .int .i64 t214, .int .i64 t215, .int .i64 t216, .int .i64 t217, .int .i64 t218, .int .i64 t219, .int .i64 t220, .int .i64 t221, .int .i64 t222, .int .i64 0, .int .i64 0, .int .i64 0, .int .i64 0, .int .i64 0, .int .i64 0, .int .i64 0, .int .i64 0]) rfl rfl rfl rfl rfl BK210.out (by kernel_rfl) rfl (by simp) rfl ?_; intro wp_ hbox hoth hbel; have n0_ := Gv.a0 (hbox); have n1_ := Gv.a0 (hbel w HB.out GE210.out); have n2_ := Gv.a0 ((hoth gb208 NB208_210.out).trans BK208.out); have n3_ := Gv.a0 ((hoth gb209 NB209_210.out).trans BK209.out); clear HB BK208 BK209 BK210; have BK210 := n0_; have HB := n1_; have BK208 := n2_; have BK209 := n3_; clear n0_ n1_ n2_ n3_ hbox hoth hbel) | ((with_reducible refine gate_store (t := 53) rfl ?_); refine Gv.mput_event (g := gb210) (cs' := #[.int .i64 a0_0, .int .i64 t211, .int .i64 t212, .int .i64 t213, .int .i64 t214, .int .i64 t215, .int .i64 t216, .int .i64 0, .int .i64 0, .int .i64 0, .int .i64 0, .int .i64 0, .int .i64 0, .int .i64 0, .int .i64 0, .int .i64 0, .int .i64 0, .int .i64 0, .int .i64 0, .int .i64 0, .int .i64 0]) rfl rfl rfl rfl rfl BK210.out (by kernel_rfl) rfl (by simp) rfl ?_; intro wp_ hbox hoth hbel; have n0_ := Gv.a0 (hbox); have n1_ := Gv.a0 (hbel w HB.out GE210.out); have n2_ := Gv.a0 ((hoth gb208 NB208_210.out).trans BK208.out); have n3_ := Gv.a0 ((hoth gb209 NB209_210.out).trans BK209.out); clear HB BK208 BK209 BK210; have BK210 := n0_; have HB := n1_; have BK208 := n2_; have BK209 := n3_; clear n0_ n1_ n2_ n3_ hbox hoth hbel) | ((with_reducible refine gate_store (t := 53) rfl ?_); refine Gv.mput_event (g := gb210) (cs' := #[.int .i64 a0_0, .int .i64 t211, .int .i64 t212, .int .i64 t213, .int .i64 t214, .int .i64 t215, .int .i64 t216, .int .i64 t217, .int .i64 t218, .int .i64 t219, .int .i64 t220, .int .i64 t221, .int .i64 t222, .int .i64 0, .int .i64 0, .int .i64 0, .int .i64 0, .int .i64 0, .int .i64 0, .int .i64 0, .int .i64 0]) rfl rfl rfl rfl rfl BK210.out (by kernel_rfl) rfl (by simp) rfl ?_; intro wp_ hbox hoth hbel; have n0_ := Gv.a0 (hbox); have n1_ := Gv.a0 (hbel w HB.out GE210.out); have n2_ := Gv.a0 ((hoth gb208 NB208_210.out).trans BK208.out); have n3_ := Gv.a0 ((hoth gb209 NB209_210.out).trans BK209.out); clear HB BK208 BK209 BK210; have BK210 := n0_; have HB := n1_; have BK208 := n2_; have BK209 := n3_; clear n0_ n1_ n2_ n3_ hbox hoth hbel) | ((with_reducible refine Gv.gate_load (t := 55) rfl ?_); refine wpList_load_row rfl 55 _ rfl gb210 rfl 55 _ _ _ BK210.out Try.underlying55 rfl (by kernel_rfl) ?_) | ((with_reducible refine gate_store (t := 55) (p := 2) rfl ?_); refine Gv.store_event (g := gb209) (cells := #[.int .i64 a0_0, .int .i64 t211, .int .i64 t212, .int .i64 t213, .int .i64 t214, .int .i64 t215, .int .i64 t216, .int .i64 t217, .int .i64 t218, .int .i64 t219, .int .i64 t220, .int .i64 t221, .int .i64 t222, .int .i64 a0_13, .int .i64 a0_14, .int .i64 a0_15, .int .i64 a0_16, .int .i64 a0_17, .int .i64 a0_18, .int .i64 a0_19, .int .i64 a0_20]) rfl rfl rfl rfl rfl BK209.out (by kernel_rfl) rfl (by simp; and_intros <;> rfl) ?_; intro wp_ hbox hoth hbel; have n0_ := Gv.a0 (hbox); have n1_ := Gv.a0 (hbel w HB.out GE209.out); have n2_ := Gv.a0 ((hoth gb208 NB208_209.out).trans BK208.out); have n3_ := Gv.a0 ((hoth gb210 NB210_209.out).trans BK210.out); clear HB BK208 BK209 BK210; have BK209 := n0_; have HB := n1_; have BK208 := n2_; have BK210 := n3_; clear n0_ n1_ n2_ n3_ hbox hoth hbel))
 refine bodyPost_ret (results_cell_row rfl _ _ gb209 55 #[.int .i64 a0_0, .int .i64 t211, .int .i64 t212, .int .i64 t213, .int .i64 t214, .int .i64 t215, .int .i64 t216, .int .i64 t217, .int .i64 t218, .int .i64 t219, .int .i64 t220, .int .i64 t221, .int .i64 t222, .int .i64 a0_13, .int .i64 a0_14, .int .i64 a0_15, .int .i64 a0_16, .int .i64 a0_17, .int .i64 a0_18, .int .i64 a0_19, .int .i64 a0_20] (0, 0) _ rfl BK209.out Try.underlying55 rfl (by kernel_rfl)) rfl ?_
 exact ⟨by first | rfl | (simp [errW_none, errW_some] <;> rfl) | (simp [*, errW_none, errW_some] <;> rfl), by repeat (first | (with_reducible first | exact HB.out | apply below_alloc | apply pw_below_drewN | apply below_drew1 | refine below_set ?_ GE208.out | refine below_set ?_ GE209.out | refine below_set ?_ GE210.out) | exact HB.out)⟩

/-! ### laws_toRuleS: function 10 -/
def laws_toRuleS.l0 : Nat → List (S50) → List (S55) → Int → Option ((List (S55)))
 | 0, _, _, _ => none
 | k + 1, x0, x3, x4 => if x4 < (x0.length : Int) then (if 0 ≤ x4 then ((laws_toRule.f ((rd_T50 x0 x4).f0) ((rd_T50 x0 x4).f1.f0.f0) ((rd_T50 x0 x4).f1.f0.f1) ((rd_T50 x0 x4).f1.f0.f2) ((rd_T50 x0 x4).f1.f0.f3) ((rd_T50 x0 x4).f1.f0.f4) ((rd_T50 x0 x4).f1.f1) ((rd_T50 x0 x4).f2.f0.f0) ((rd_T50 x0 x4).f2.f0.f1) ((rd_T50 x0 x4).f2.f0.f2) ((rd_T50 x0 x4).f2.f0.f3) ((rd_T50 x0 x4).f2.f0.f4) ((rd_T50 x0 x4).f2.f1) ((rd_T50 x0 x4).f3) ((rd_T50 x0 x4).f4) ((rd_T50 x0 x4).f5) ((rd_T50 x0 x4).f6) ((rd_T50 x0 x4).f7) ((rd_T50 x0 x4).f8) ((rd_T50 x0 x4).f9) ((rd_T50 x0 x4).f10)).bind fun bt227 => (if x4 < (x3.length : Int) then (laws_toRuleS.l0 k x0 (x3.set (x4 : Int).toNat (⟨bt227.1, (⟨(⟨bt227.2.1, bt227.2.2.1, bt227.2.2.2.1, bt227.2.2.2.2.1, bt227.2.2.2.2.2.1⟩ : S34), bt227.2.2.2.2.2.2.1⟩ : S53), (⟨(⟨bt227.2.2.2.2.2.2.2.1, bt227.2.2.2.2.2.2.2.2.1, bt227.2.2.2.2.2.2.2.2.2.1, bt227.2.2.2.2.2.2.2.2.2.2.1, bt227.2.2.2.2.2.2.2.2.2.2.2.1⟩ : S34), bt227.2.2.2.2.2.2.2.2.2.2.2.2.1⟩ : S53), bt227.2.2.2.2.2.2.2.2.2.2.2.2.2.1, bt227.2.2.2.2.2.2.2.2.2.2.2.2.2.2.1, bt227.2.2.2.2.2.2.2.2.2.2.2.2.2.2.2.1, bt227.2.2.2.2.2.2.2.2.2.2.2.2.2.2.2.2.1, bt227.2.2.2.2.2.2.2.2.2.2.2.2.2.2.2.2.2.1, bt227.2.2.2.2.2.2.2.2.2.2.2.2.2.2.2.2.2.2.1, bt227.2.2.2.2.2.2.2.2.2.2.2.2.2.2.2.2.2.2.2.1, bt227.2.2.2.2.2.2.2.2.2.2.2.2.2.2.2.2.2.2.2.2⟩ : S55)) (wrap64 (x4 + 1))) else (none))) else (none)) else (some x3)
def laws_toRuleS.f (k : Nat) (l0 : List (S50)) : Option ((List (S55))) := if 0 ≤ (l0.length : Int) then (if ((l0.length : Int) : Int).toNat ≤ 1675446289944 then (laws_toRuleS.l0 k l0 (List.replicate ((l0.length : Int) : Int).toNat z55) 0) else (none)) else (none)
theorem laws_toRuleS.mono_l : ∀ k, (∀ y0 y1 y2, LeO (laws_toRuleS.l0 k y0 y1 y2) (laws_toRuleS.l0 (k + 1) y0 y1 y2))
 | 0 => fun _ _ _ r h => by simp [laws_toRuleS.l0] at h
 | k + 1 => by
  have ih0 := laws_toRuleS.mono_l k
  ·intro y0 y1 y2
   unfold laws_toRuleS.l0
   repeat' first
   | (with_reducible exact ih0 _ _ _)
   | (with_reducible exact LeO.refl _)
   | (with_reducible exact LeO.none _)
   | (with_reducible refine LeO.ite ?_ ?_)
   | (with_reducible refine LeO.bind ?_ (fun _ => ?_))
   | exact ih0 _ _ _
   | exact LeO.none _
   | refine LeO.ite ?_ ?_
   | refine LeO.bind ?_ (fun _ => ?_)
theorem laws_toRuleS.mono : ∀ a0 k, LeO (laws_toRuleS.f k a0) (laws_toRuleS.f (k + 1) a0) := by
 intro a0 k
 have ih0 := laws_toRuleS.mono_l k
 unfold laws_toRuleS.f
 repeat' first
   | (with_reducible exact ih0 _ _ _)
   | (with_reducible exact LeO.refl _)
   | (with_reducible exact LeO.none _)
   | (with_reducible refine LeO.ite ?_ ?_)
   | (with_reducible refine LeO.bind ?_ (fun _ => ?_))
   | exact ih0 _ _ _
   | exact LeO.none _
   | refine LeO.ite ?_ ?_
   | refine LeO.bind ?_ (fun _ => ?_)
set_option maxHeartbeats 8000000 in
set_option maxRecDepth 100000 in
theorem laws_toRuleS.calls (k : Nat) (A0 : Option Addr) (c0 : Nat) (l0 : List (S50)) (r : List (S55)) (w : World) (hr0 : Kd.C k50 w A0 l0.length l0) (hc0 : l0.length ≤ c0) (h : laws_toRuleS.f k l0 = some r) :
  Calls Try.prog 10 #[.slice A0 l0.length c0] w fun e w' => ∃ v0_ : Value, e = .returned (v0_) ∧ Kd.R k55 55 w' w.heap.size (fun _ => True) v0_ r ∧ Below w.heap.size w w' := by
 have hu50 := Try.underlying50
 have hu55 := Try.underlying55
 have HR0 := Gv.a0 hr0
 have HC0 := Gv.a0 hc0
 clear hr0 hc0
 have HB := Gv.a0 (Below.refl w.heap.size w)
 have H : (if 0 ≤ (l0.length : Int) then (if ((l0.length : Int) : Int).toNat ≤ 1675446289944 then (laws_toRuleS.l0 k l0 (List.replicate ((l0.length : Int) : Int).toNat z55) 0) else (none)) else (none)) = some r := h
 clear h
 by_cases c2 : 0 ≤ (l0.length : Int)
 ·rw [if_pos c2] at H
  have c2b0 := eq_true c2
  have c2b1 : decide (0 ≤ (l0.length : Int)) = true := decide_eq_true c2
  clear c2
  by_cases c3 : ((l0.length : Int) : Int).toNat ≤ 1675446289944
  ·rw [if_pos c3] at H
   have c3b0 := eq_true c3
   have c3b1 : decide (((l0.length : Int) : Int).toNat ≤ 1675446289944) = true := decide_eq_true c3
   clear c3
   obtain ⟨y223, hy223⟩ : ∃ y_ : List (S55), y_ = (List.replicate ((l0.length : Int) : Int).toNat z55) := ⟨_, rfl⟩
   replace H : (laws_toRuleS.l0 k l0 y223 0) = some r := by first | (rw [hy223]; with_reducible exact H) | (have H2_ := (Option.bind_some _ _).symm.trans H; rw [hy223]; with_reducible exact H2_) | (have H2_ := (Option.bind_some _ _).symm.trans H; with_reducible exact H2_) | with_reducible exact H | (rw [hy223]; exact H) | exact H
   have Ny223 := Gv.a0 hy223
   clear hy223
   have H' := Gv.a0 H
   clear H
   go_enter Try.func10, Try.ntmps10
   go_wp2_with (first | ((with_reducible refine gate_dst (N := 7) rfl ?_); refine Kd.R_make k55 _ 55 rfl (N := 7) rfl 25 _ _ rfl (l0.length : Int) rfl rfl Try.underlying25 (.agg #[(.int .i64 0), (.int .i64 0), (.int .i64 0), (.int .i64 0), (.int .i64 0), (.int .i64 0), (.int .i64 0), (.int .i64 0), (.int .i64 0), (.int .i64 0), (.int .i64 0), (.int .i64 0), (.int .i64 0), (.int .i64 0), (.int .i64 0), (.int .i64 0), (.int .i64 0), (.int .i64 0), (.int .i64 0), (.int .i64 0), (.int .i64 0)]) 168 info55 rfl (by decide) (by omega) z55 (ok := fun _ => True) (okp := fun _ => True) (k55_mkM _ _ _ z55 ) (fun _ hk => hk) trivial (of_decide_eq_true (by first | (with_reducible assumption) | assumption)) (Nat.le_trans (Nat.mul_le_mul_right _ (of_decide_eq_true (by first | (with_reducible assumption) | assumption) : (l0.length : Int).toNat ≤ 1675446289944)) (by omega)) (Below.refl _ _) (Nat.le_refl _) ?_; intro v224 w4 ho5 hb hg_ hnew_; clear hg_ hnew_; (first | rw [← Ny223.out] at ho5 | (simp only [Int.reduceToNat] at ho5; rw [← Ny223.out] at ho5)); have n0_ := Gv.a0 (Kd.R_lower ho5 (below_size Gv.bw)); have n1_ := Gv.a0 (below_step Gv.bw hb); clear HB; have HO225 := n0_; have HB := n1_; clear n0_ n1_; clear hb ho5))
   go_loopg [4] k (fun kq v4 w' => ∃ (x3_1 : List (S55)) (x4_1 : Int), v4 = .int .i64 x4_1 ∧ Aside0 (laws_toRuleS.l0 kq l0 x3_1 x4_1 = some r) ∧ Aside0 (kq ≤ k) ∧ Aside0 (Kd.R k55 55 w' w.heap.size (fun _ => True) v224 x3_1) ∧ Aside0 (Below w.heap.size w w'))
   case atStart => exact ⟨(y223), (0), (by first | rfl | (simp; done) | (simp [Int.tdiv_eq_ediv_of_nonneg]; done) | (simp [*]; done)), H', ⟨Nat.le_refl _⟩, ⟨by (with_reducible repeat (first | apply Kd.R_alloc | apply Kd.R_drewN | apply Kd.R_drew)); exact HO225.out⟩, ⟨by repeat (first | (with_reducible first | exact HB.out | apply below_alloc | apply pw_below_drewN | apply below_drew1) | exact HB.out)⟩⟩
   case round =>
    clear H'
    try clear c1
    try clear c2
    try clear c2b0
    try clear c2b1
    try clear p2
    try clear c3
    try clear c3b0
    try clear c3b1
    obtain ⟨x3_1, x4_1, rfl, HA, HK1, HO_3, HB⟩ := hrel
    cases gk with
    | zero => exact absurd HA.out (by simp [laws_toRuleS.l0])
    | succ k1 =>
     have H := HA.out
     clear HA
     simp only [laws_toRuleS.l0] at H
     by_cases c6 : x4_1 < (l0.length : Int)
     ·rw [if_pos c6] at H
      have c6b0 : decide (x4_1 < (l0.length : Int)) = true := decide_eq_true c6
      clear c6
      by_cases c7 : 0 ≤ x4_1
      ·rw [if_pos c7] at H
       have c7b0 : decide (0 ≤ x4_1) = true := decide_eq_true c7
       clear c7
       replace H := Option.bind_eq_some_iff.mp H
       obtain ⟨⟨t227, t228, t229, t230, t231, t232, t233, t234, t235, t236, t237, t238, t239, t240, t241, t242, t243, t244, t245, t246, t247⟩, A80, H⟩ := H
       replace H : (if x4_1 < (x3_1.length : Int) then (laws_toRuleS.l0 k1 l0 (x3_1.set (x4_1 : Int).toNat (⟨t227, (⟨(⟨t228, t229, t230, t231, t232⟩ : S34), t233⟩ : S53), (⟨(⟨t234, t235, t236, t237, t238⟩ : S34), t239⟩ : S53), t240, t241, t242, t243, t244, t245, t246, t247⟩ : S55)) (wrap64 (x4_1 + 1))) else (none)) = some r := H
       have A8 := Gv.a0 A80
       clear A80
       by_cases c9 : x4_1 < (x3_1.length : Int)
       ·rw [if_pos c9] at H
        have c9b0 : decide (x4_1 < (x3_1.length : Int)) = true := decide_eq_true c9
        clear c9
        obtain ⟨y248, hy248⟩ : ∃ y_ : List (S55), y_ = (x3_1.set (x4_1 : Int).toNat (⟨t227, (⟨(⟨t228, t229, t230, t231, t232⟩ : S34), t233⟩ : S53), (⟨(⟨t234, t235, t236, t237, t238⟩ : S34), t239⟩ : S53), t240, t241, t242, t243, t244, t245, t246, t247⟩ : S55)) := ⟨_, rfl⟩
        replace H : (laws_toRuleS.l0 k1 l0 y248 (wrap64 (x4_1 + 1))) = some r := by first | (rw [hy248]; with_reducible exact H) | (have H2_ := (Option.bind_some _ _).symm.trans H; rw [hy248]; with_reducible exact H2_) | (have H2_ := (Option.bind_some _ _).symm.trans H; with_reducible exact H2_) | with_reducible exact H | (rw [hy248]; exact H) | exact H
        have Ny248 := Gv.a0 hy248
        clear hy248
        have H' := Gv.a0 H
        clear H
        have p226 : 0 ≤ (x4_1 : Int) := of_decide_eq_true (by first | (with_reducible assumption) | assumption)
        have q226 : x4_1 < (l0.length : Int) := of_decide_eq_true (by first | (with_reducible assumption) | assumption)
        obtain ⟨ad226, e226, hx226_0, hx226_1, hx226_2, hx226_3, hx226_4, hx226_5, hx226_6, hx226_7, hx226_8, hx226_9, hx226_10, hx226_11, hx226_12, hx226_13, hx226_14, hx226_15, hx226_16, hx226_17, hx226_18, hx226_19, hx226_20⟩ := at_T50 HR0.out x4_1 p226 q226
        cases e226
        replace hx226_0 := Gv.bx HB.out hx226_0
        replace hx226_1 := Gv.bx HB.out hx226_1
        replace hx226_2 := Gv.bx HB.out hx226_2
        replace hx226_3 := Gv.bx HB.out hx226_3
        replace hx226_4 := Gv.bx HB.out hx226_4
        replace hx226_5 := Gv.bx HB.out hx226_5
        replace hx226_6 := Gv.bx HB.out hx226_6
        replace hx226_7 := Gv.bx HB.out hx226_7
        replace hx226_8 := Gv.bx HB.out hx226_8
        replace hx226_9 := Gv.bx HB.out hx226_9
        replace hx226_10 := Gv.bx HB.out hx226_10
        replace hx226_11 := Gv.bx HB.out hx226_11
        replace hx226_12 := Gv.bx HB.out hx226_12
        replace hx226_13 := Gv.bx HB.out hx226_13
        replace hx226_14 := Gv.bx HB.out hx226_14
        replace hx226_15 := Gv.bx HB.out hx226_15
        replace hx226_16 := Gv.bx HB.out hx226_16
        replace hx226_17 := Gv.bx HB.out hx226_17
        replace hx226_18 := Gv.bx HB.out hx226_18
        replace hx226_19 := Gv.bx HB.out hx226_19
        replace hx226_20 := Gv.bx HB.out hx226_20
        replace p226 := eq_true p226
        replace q226 := eq_true q226
        go_wp2_with (first | ((with_reducible refine gate_callee (f := 26) rfl ?_); refine goesL_ (some 20) rfl rfl Try.func26 (by kernel_rfl) rfl #[.agg #[.int .i64 ((rd_T50 l0 x4_1).f0), .int .i64 ((rd_T50 l0 x4_1).f1.f0.f0), .int .i64 ((rd_T50 l0 x4_1).f1.f0.f1), .int .i64 ((rd_T50 l0 x4_1).f1.f0.f2), .int .i64 ((rd_T50 l0 x4_1).f1.f0.f3), .int .i64 ((rd_T50 l0 x4_1).f1.f0.f4), .int .i64 ((rd_T50 l0 x4_1).f1.f1), .int .i64 ((rd_T50 l0 x4_1).f2.f0.f0), .int .i64 ((rd_T50 l0 x4_1).f2.f0.f1), .int .i64 ((rd_T50 l0 x4_1).f2.f0.f2), .int .i64 ((rd_T50 l0 x4_1).f2.f0.f3), .int .i64 ((rd_T50 l0 x4_1).f2.f0.f4), .int .i64 ((rd_T50 l0 x4_1).f2.f1), .int .i64 ((rd_T50 l0 x4_1).f3), .int .i64 ((rd_T50 l0 x4_1).f4), .int .i64 ((rd_T50 l0 x4_1).f5), .int .i64 ((rd_T50 l0 x4_1).f6), .int .i64 ((rd_T50 l0 x4_1).f7), .int .i64 ((rd_T50 l0 x4_1).f8), .int .i64 ((rd_T50 l0 x4_1).f9), .int .i64 ((rd_T50 l0 x4_1).f10)]] rfl Gv.lm ?_; (with_reducible refine (laws_toRule.calls _ _ _ _ _ _ _ _ _ _ _ _ _ _ _ _ _ _ _ _ _ t227 t228 t229 t230 t231 t232 t233 t234 t235 t236 t237 t238 t239 t240 t241 t242 t243 t244 t245 t246 t247 _ A8.out).mono ?_); rintro e w11 ⟨rfl, hb⟩; refine ⟨_, rfl, ?_⟩; have n0_ := Gv.a0 (Kd.R_below (Gv.kr HO_3.out) hb); have n1_ := Gv.a0 (below_step Gv.bw hb); clear HO_3; clear HB; have HO_3 := n0_; have HB := n1_; clear n0_ n1_; (try clear hb); (try clear hb2); (try clear hk); (try clear hi); have p10 : 0 ≤ (x4_1 : Int) := of_decide_eq_true (by first | (with_reducible assumption) | assumption); have q10 : (x4_1 : Int) < ((x3_1.length : Int) : Int) := of_decide_eq_true (by first | (with_reducible assumption) | assumption); obtain ⟨go10, co10, eo10, gb10, gl10, cl10, HG10⟩ := Kd.R_form HO_3.out (by omega); (first | cases eo10 | (injection eo10 with ea_ en_ ec_; (first | subst ea_ | (injection ea_ with ea_; subst ea_)); subst ec_; clear en_)); have GB10 := Gv.a0 gb10; have GG10 := Gv.a0 HG10; clear gb10 gl10 HG10; replace p10 := eq_true p10; replace q10 := eq_true q10; have HX12 := Gv.a0 (show Kd.R k55 55 w11 w.heap.size (fun _ => True) (.slice (some ⟨go10, 0, none⟩) x3_1.length co10) x3_1 from (Gv.kr HO_3.out))) | ((with_reducible refine gate_store (t := 55) (p := 21) rfl ?_); refine Gv.row_store (d := k55) (x4_1 : Int) (⟨t227, (⟨(⟨t228, t229, t230, t231, t232⟩ : S34), t233⟩ : S53), (⟨(⟨t234, t235, t236, t237, t238⟩ : S34), t239⟩ : S53), t240, t241, t242, t243, t244, t245, t246, t247⟩ : S55) rfl rfl rfl rfl rfl (by kernel_rfl) HX12.out (of_decide_eq_true (by first | (with_reducible assumption) | assumption)) (by have h_ : (x4_1 : Int) < ((x3_1.length : Int) : Int) := of_decide_eq_true (by first | (with_reducible assumption) | assumption); first | exact h_ | (have e_ := (Kd.R_reads' HO_3.out).1; omega) | simpa using h_) rfl rfl (k55_mkM _ _ _ (⟨t227, (⟨(⟨t228, t229, t230, t231, t232⟩ : S34), t233⟩ : S53), (⟨(⟨t234, t235, t236, t237, t238⟩ : S34), t239⟩ : S53), t240, t241, t242, t243, t244, t245, t246, t247⟩ : S55) ) ?_; intro w13 hR_ hoth_ hbel_; have n0_ := Gv.a0 (show Kd.R k55 55 w13 w.heap.size (fun _ => True) (.slice (some ⟨go10, 0, none⟩) x3_1.length co10) y248 from by rw [Ny248.out]; exact hR_); have n1_ := Gv.a0 (hbel_ w HB.out GB10.out); clear HO_3 HB HX12; have HO_3 := n0_; have HB := n1_; clear n0_ n1_ hR_ hoth_ hbel_) | ((with_reducible refine Gv.gate_load (t := 50) rfl ?_); refine Gv.load_event (cs := [_, _, _, _, _, _, _, _, _, _, _, _, _, _, _, _, _, _, _, _, _]) rfl rfl rfl ⟨hx226_0, hx226_1, hx226_2, hx226_3, hx226_4, hx226_5, hx226_6, hx226_7, hx226_8, hx226_9, hx226_10, hx226_11, hx226_12, hx226_13, hx226_14, hx226_15, hx226_16, hx226_17, hx226_18, hx226_19, hx226_20, trivial⟩ Try.underlying50 rfl (by kernel_rfl) ?_))
        go_roundg k1
        case measure => have := HK1.out; omega
        case rel => exact ⟨(y248), (wrap64 (x4_1 + 1)), (by first | rfl | (simp; done) | (simp [Int.tdiv_eq_ediv_of_nonneg]; done) | (simp [*]; done)), H', ⟨by have := HK1.out; omega⟩, ⟨by (with_reducible repeat (first | apply Kd.R_alloc | apply Kd.R_drewN | apply Kd.R_drew)); exact HO_3.out⟩, ⟨by repeat (first | (with_reducible first | exact HB.out | apply below_alloc | apply pw_below_drewN | apply below_drew1) | exact HB.out)⟩⟩
       ·rw [if_neg c9] at H
        exact absurd H (by simp)
      ·rw [if_neg c7] at H
       exact absurd H (by simp)
     ·rw [if_neg c6] at H
      have c6b0 : decide (x4_1 < (l0.length : Int)) = false := decide_eq_false c6
      clear c6
      obtain rfl := Option.some.inj H
      go_wp2
      go_ret
      exact ⟨_, by first | rfl | (simp [errW_none, errW_some] <;> rfl) | (simp [*, errW_none, errW_some] <;> rfl), by (with_reducible repeat (first | apply Kd.R_alloc | apply Kd.R_drewN | apply Kd.R_drew)); exact HO_3.out, by repeat (first | (with_reducible first | exact HB.out | apply below_alloc | apply pw_below_drewN | apply below_drew1) | exact HB.out)⟩
  ·rw [if_neg c3] at H
   exact absurd H (by simp)
 ·rw [if_neg c2] at H
  exact absurd H (by simp)

/-! ### impl_within: function 46 -/
def impl_within.f (a0 : Int) (a1 : Int) (a2 : Int) : Option (Bool) := if a0 ≥ a1 then (some (decide (a0 ≤ a2))) else (some false)
set_option maxHeartbeats 8000000 in
set_option maxRecDepth 100000 in
theorem impl_within.calls (a0 : Int) (a1 : Int) (a2 : Int) (r : Bool) (w : World) (h : impl_within.f a0 a1 a2 = some r) :
  Calls Try.prog 46 #[.int .i64 a0, .int .i64 a1, .int .i64 a2] w fun e w' => e = .returned (.bool r) ∧ Drawn0 w w' := by
 have H : (if a0 ≥ a1 then (some (decide (a0 ≤ a2))) else (some false)) = some r := h
 clear h
 by_cases c4 : a0 ≥ a1
 ·rw [if_pos c4] at H
  have c4b0 : decide (a1 ≤ a0) = true := decide_eq_true c4
  clear c4
  obtain rfl := Option.some.inj H
  go_enter Try.func46, Try.ntmps46
  go_wp2
  go_ret
  exact ⟨by first | rfl | (simp; done) | (simp [Int.tdiv_eq_ediv_of_nonneg]; done) | (simp [*]; done), by repeat (first | exact Drawn0.refl _ | apply Drawn0.step)⟩
 ·rw [if_neg c4] at H
  have c4b0 : decide (a1 ≤ a0) = false := decide_eq_false c4
  clear c4
  obtain rfl := Option.some.inj H
  go_enter Try.func46, Try.ntmps46
  go_wp2
  go_ret
  exact ⟨by first | rfl | (simp; done) | (simp [Int.tdiv_eq_ediv_of_nonneg]; done) | (simp [*]; done), by repeat (first | exact Drawn0.refl _ | apply Drawn0.step)⟩

/-! ### impl_isAny: function 64 -/
def impl_isAny.f (a0_0 : Int) (a0_1 : Int) (a0_2 : Int) (a0_3 : Int) (a0_4 : Int) (a0_5 : Int) : Option (Bool) := some ((a0_0 == 0 && (a0_1 == 0 && (a0_2 == 0 && (a0_3 == 0 && (a0_4 == 0))))) && (a0_5 == 0))
set_option maxHeartbeats 8000000 in
set_option maxRecDepth 100000 in
theorem impl_isAny.calls (a0_0 : Int) (a0_1 : Int) (a0_2 : Int) (a0_3 : Int) (a0_4 : Int) (a0_5 : Int) (r : Bool) (w : World) (h : impl_isAny.f a0_0 a0_1 a0_2 a0_3 a0_4 a0_5 = some r) :
  Calls Try.prog 64 #[.agg #[.int .i64 a0_0, .int .i64 a0_1, .int .i64 a0_2, .int .i64 a0_3, .int .i64 a0_4, .int .i64 a0_5]] w fun e w' => e = .returned (.bool r) ∧ Below w.heap.size w w' := by
 have hu53 := Try.underlying53
 have HB := Gv.a0 (Below.refl w.heap.size w)
 have H : (some ((a0_0 == 0 && (a0_1 == 0 && (a0_2 == 0 && (a0_3 == 0 && (a0_4 == 0))))) && (a0_5 == 0))) = some r := h
 clear h
 obtain rfl := Option.some.inj H
 go_enter Try.func64, Try.ntmps64
 go_wp2_with (first | ((with_reducible refine gate_dst (N := 1) rfl ?_); refine box_event ?hg (N := 1) ?hd (cs := #[.int .i64 a0_0, .int .i64 a0_1, .int .i64 a0_2, .int .i64 a0_3, .int .i64 a0_4, .int .i64 a0_5]) (t := 53) ?hr ?_; (case hd => rfl); (case hg => rfl); (case hr => first | (go_simp; done) | (go_simp; rfl)); intro gb249 hg w2 hbox hb; have n0_ := Gv.a0 (below_step Gv.bw hb); have n1_ := Gv.a0 (hbox); have n2_ := Gv.a0 ((Gv.ble hg Gv.bw : w.heap.size ≤ gb249)); have n3_ := Gv.a0 ((Gv.ble hg Gv.bw : w.heap.size ≤ gb249)); clear HB; have HB := n0_; have BK249 := n1_; have GW249 := n2_; have GE249 := n3_; clear n0_ n1_ n2_ n3_; clear hb hbox hg; obtain ⟨hcz3_0, hcz3_1, hcz3_2, hcz3_3, hcz3_4, hcz3_5⟩ := Gv.c6 BK249.out; obtain ⟨hfz3_0, hfz3_1, hfz3_2, hfz3_3, hfz3_4, hfz3_5⟩ := Gv.f6 BK249.out))
 go_ret
 exact ⟨by first | rfl | (simp [errW_none, errW_some] <;> rfl) | (simp [*, errW_none, errW_some] <;> rfl), by repeat (first | (with_reducible first | exact HB.out | apply below_alloc | apply pw_below_drewN | apply below_drew1 | refine below_set ?_ GE249.out) | exact HB.out)⟩

/-! ### impl_isLong: function 75 -/
def impl_isLong.f (a0 : Int) : Option (Bool) := (impl_within.f a0 0 4294967295).bind fun t250 => (some t250)
set_option maxHeartbeats 8000000 in
set_option maxRecDepth 100000 in
theorem impl_isLong.calls (a0 : Int) (r : Bool) (w : World) (h : impl_isLong.f a0 = some r) :
  Calls Try.prog 75 #[.int .i64 a0] w fun e w' => e = .returned (.bool r) ∧ Drawn0 w w' := by
 have H : ((impl_within.f a0 0 4294967295).bind fun t250 => (some t250)) = some r := h
 clear h
 replace H := Option.bind_eq_some_iff.mp H
 obtain ⟨t250, A20, H⟩ := H
 replace H : (some t250) = some r := H
 have A2 := Gv.a0 A20
 clear A20
 obtain rfl := Option.some.inj H
 go_enter Try.func75, Try.ntmps75
 go_wp2_with (first | ((with_reducible refine gate_callee (f := 46) rfl ?_); refine goesL_ (some 4) rfl rfl Try.func46 (by kernel_rfl) rfl #[.int .i64 a0, .int .i64 0, .int .i64 4294967295] rfl Gv.lm ?_; (with_reducible refine (impl_within.calls a0 0 4294967295 t250 _ A2.out).mono ?_); rintro e w' ⟨rfl, ⟨nd, rfl⟩⟩; refine ⟨_, rfl, ?_⟩))
 go_ret
 exact ⟨by first | rfl | (simp; done) | (simp [Int.tdiv_eq_ediv_of_nonneg]; done) | (simp [*]; done), by repeat (first | exact Drawn0.refl _ | apply Drawn0.step)⟩

/-! ### impl_AddrOk: function 65 -/
def impl_AddrOk.f (a0_0 : Int) (a0_1 : Int) (a0_2 : Int) (a0_3 : Int) (a0_4 : Int) : Option (Bool) := if a0_0 = 4 then (if a0_1 = 0 then (if a0_2 = 0 then (if a0_3 = 0 then ((impl_isLong.f a0_4).bind fun t252 => (some t252)) else (some false)) else (some false)) else (some false)) else (if a0_0 = 6 then ((impl_isLong.f a0_1).bind fun t253 => (if t253 = true then ((impl_isLong.f a0_2).bind fun t254 => (if t254 = true then ((impl_isLong.f a0_3).bind fun t255 => (if t255 = true then ((impl_isLong.f a0_4).bind fun t256 => (some t256)) else (some false))) else (some false))) else (some false))) else (some false))
set_option maxHeartbeats 8000000 in
set_option maxRecDepth 100000 in
theorem impl_AddrOk.calls (a0_0 : Int) (a0_1 : Int) (a0_2 : Int) (a0_3 : Int) (a0_4 : Int) (r : Bool) (w : World) (h : impl_AddrOk.f a0_0 a0_1 a0_2 a0_3 a0_4 = some r) :
  Calls Try.prog 65 #[.agg #[.int .i64 a0_0, .int .i64 a0_1, .int .i64 a0_2, .int .i64 a0_3, .int .i64 a0_4]] w fun e w' => e = .returned (.bool r) ∧ Below w.heap.size w w' := by
 have hu34 := Try.underlying34
 have HB := Gv.a0 (Below.refl w.heap.size w)
 have H : (if a0_0 = 4 then (if a0_1 = 0 then (if a0_2 = 0 then (if a0_3 = 0 then ((impl_isLong.f a0_4).bind fun t252 => (some t252)) else (some false)) else (some false)) else (some false)) else (if a0_0 = 6 then ((impl_isLong.f a0_1).bind fun t253 => (if t253 = true then ((impl_isLong.f a0_2).bind fun t254 => (if t254 = true then ((impl_isLong.f a0_3).bind fun t255 => (if t255 = true then ((impl_isLong.f a0_4).bind fun t256 => (some t256)) else (some false))) else (some false))) else (some false))) else (some false))) = some r := h
 clear h
 by_cases c2 : a0_0 = 4
 ·rw [if_pos c2] at H
  have c2b0 : (a0_0 == 4) = true := beq_iff_eq.mpr c2
  have c2b1 : (a0_0 != 4) = false := bne_eq_false_iff_eq.mpr c2
  clear c2
  by_cases c3 : a0_1 = 0
  ·rw [if_pos c3] at H
   have c3b0 : (a0_1 == 0) = true := beq_iff_eq.mpr c3
   have c3b1 : (a0_1 != 0) = false := bne_eq_false_iff_eq.mpr c3
   clear c3
   by_cases c4 : a0_2 = 0
   ·rw [if_pos c4] at H
    have c4b0 : (a0_2 == 0) = true := beq_iff_eq.mpr c4
    have c4b1 : (a0_2 != 0) = false := bne_eq_false_iff_eq.mpr c4
    clear c4
    by_cases c5 : a0_3 = 0
    ·rw [if_pos c5] at H
     have c5b0 : (a0_3 == 0) = true := beq_iff_eq.mpr c5
     have c5b1 : (a0_3 != 0) = false := bne_eq_false_iff_eq.mpr c5
     clear c5
     replace H := Option.bind_eq_some_iff.mp H
     obtain ⟨t252, A60, H⟩ := H
     replace H : (some t252) = some r := H
     have A6 := Gv.a0 A60
     clear A60
     obtain rfl := Option.some.inj H
     go_enter Try.func65, Try.ntmps65
     go_wp2_with (first | ((with_reducible refine gate_dst (N := 1) rfl ?_); refine box_event ?hg (N := 1) ?hd (cs := #[.int .i64 a0_0, .int .i64 a0_1, .int .i64 a0_2, .int .i64 a0_3, .int .i64 a0_4]) (t := 34) ?hr ?_; (case hd => rfl); (case hg => rfl); (case hr => first | (go_simp; done) | (go_simp; rfl)); intro gb251 hg w7 hbox hb; have n0_ := Gv.a0 (below_step Gv.bw hb); have n1_ := Gv.a0 (hbox); have n2_ := Gv.a0 ((Gv.ble hg Gv.bw : w.heap.size ≤ gb251)); have n3_ := Gv.a0 ((Gv.ble hg Gv.bw : w.heap.size ≤ gb251)); clear HB; have HB := n0_; have BK251 := n1_; have GW251 := n2_; have GE251 := n3_; clear n0_ n1_ n2_ n3_; clear hb hbox hg; obtain ⟨hcz8_0, hcz8_1, hcz8_2, hcz8_3, hcz8_4⟩ := Gv.c5 BK251.out; obtain ⟨hfz8_0, hfz8_1, hfz8_2, hfz8_3, hfz8_4⟩ := Gv.f5 BK251.out) | (go_at_call 75; (with_reducible refine (impl_isLong.calls a0_4 t252 _ A6.out).mono ?_); rintro e w' ⟨rfl, ⟨nd, rfl⟩⟩))
     go_ret
     exact ⟨by first | rfl | (simp [errW_none, errW_some] <;> rfl) | (simp [*, errW_none, errW_some] <;> rfl), by repeat (first | (with_reducible first | exact HB.out | apply below_alloc | apply pw_below_drewN | apply below_drew1 | refine below_set ?_ GE251.out) | exact HB.out)⟩
    ·rw [if_neg c5] at H
     have c5b0 : (a0_3 == 0) = false := beq_eq_false_iff_ne.mpr c5
     have c5b1 : (a0_3 != 0) = true := bne_iff_ne.mpr c5
     obtain rfl := Option.some.inj H
     go_enter Try.func65, Try.ntmps65
     go_wp2_with (first | ((with_reducible refine gate_dst (N := 1) rfl ?_); refine box_event ?hg (N := 1) ?hd (cs := #[.int .i64 a0_0, .int .i64 a0_1, .int .i64 a0_2, .int .i64 a0_3, .int .i64 a0_4]) (t := 34) ?hr ?_; (case hd => rfl); (case hg => rfl); (case hr => first | (go_simp; done) | (go_simp; rfl)); intro gb251 hg w9 hbox hb; have n0_ := Gv.a0 (below_step Gv.bw hb); have n1_ := Gv.a0 (hbox); have n2_ := Gv.a0 ((Gv.ble hg Gv.bw : w.heap.size ≤ gb251)); have n3_ := Gv.a0 ((Gv.ble hg Gv.bw : w.heap.size ≤ gb251)); clear HB; have HB := n0_; have BK251 := n1_; have GW251 := n2_; have GE251 := n3_; clear n0_ n1_ n2_ n3_; clear hb hbox hg; obtain ⟨hcz10_0, hcz10_1, hcz10_2, hcz10_3, hcz10_4⟩ := Gv.c5 BK251.out; obtain ⟨hfz10_0, hfz10_1, hfz10_2, hfz10_3, hfz10_4⟩ := Gv.f5 BK251.out))
     go_ret
     exact ⟨by first | rfl | (simp [errW_none, errW_some] <;> rfl) | (simp [*, errW_none, errW_some] <;> rfl), by repeat (first | (with_reducible first | exact HB.out | apply below_alloc | apply pw_below_drewN | apply below_drew1 | refine below_set ?_ GE251.out) | exact HB.out)⟩
   ·rw [if_neg c4] at H
    have c4b0 : (a0_2 == 0) = false := beq_eq_false_iff_ne.mpr c4
    have c4b1 : (a0_2 != 0) = true := bne_iff_ne.mpr c4
    obtain rfl := Option.some.inj H
    go_enter Try.func65, Try.ntmps65
    go_wp2_with (first | ((with_reducible refine gate_dst (N := 1) rfl ?_); refine box_event ?hg (N := 1) ?hd (cs := #[.int .i64 a0_0, .int .i64 a0_1, .int .i64 a0_2, .int .i64 a0_3, .int .i64 a0_4]) (t := 34) ?hr ?_; (case hd => rfl); (case hg => rfl); (case hr => first | (go_simp; done) | (go_simp; rfl)); intro gb251 hg w11 hbox hb; have n0_ := Gv.a0 (below_step Gv.bw hb); have n1_ := Gv.a0 (hbox); have n2_ := Gv.a0 ((Gv.ble hg Gv.bw : w.heap.size ≤ gb251)); have n3_ := Gv.a0 ((Gv.ble hg Gv.bw : w.heap.size ≤ gb251)); clear HB; have HB := n0_; have BK251 := n1_; have GW251 := n2_; have GE251 := n3_; clear n0_ n1_ n2_ n3_; clear hb hbox hg; obtain ⟨hcz12_0, hcz12_1, hcz12_2, hcz12_3, hcz12_4⟩ := Gv.c5 BK251.out; obtain ⟨hfz12_0, hfz12_1, hfz12_2, hfz12_3, hfz12_4⟩ := Gv.f5 BK251.out))
    go_ret
    exact ⟨by first | rfl | (simp [errW_none, errW_some] <;> rfl) | (simp [*, errW_none, errW_some] <;> rfl), by repeat (first | (with_reducible first | exact HB.out | apply below_alloc | apply pw_below_drewN | apply below_drew1 | refine below_set ?_ GE251.out) | exact HB.out)⟩
  ·rw [if_neg c3] at H
   have c3b0 : (a0_1 == 0) = false := beq_eq_false_iff_ne.mpr c3
   have c3b1 : (a0_1 != 0) = true := bne_iff_ne.mpr c3
   obtain rfl := Option.some.inj H
   go_enter Try.func65, Try.ntmps65
   go_wp2_with (first | ((with_reducible refine gate_dst (N := 1) rfl ?_); refine box_event ?hg (N := 1) ?hd (cs := #[.int .i64 a0_0, .int .i64 a0_1, .int .i64 a0_2, .int .i64 a0_3, .int .i64 a0_4]) (t := 34) ?hr ?_; (case hd => rfl); (case hg => rfl); (case hr => first | (go_simp; done) | (go_simp; rfl)); intro gb251 hg w13 hbox hb; have n0_ := Gv.a0 (below_step Gv.bw hb); have n1_ := Gv.a0 (hbox); have n2_ := Gv.a0 ((Gv.ble hg Gv.bw : w.heap.size ≤ gb251)); have n3_ := Gv.a0 ((Gv.ble hg Gv.bw : w.heap.size ≤ gb251)); clear HB; have HB := n0_; have BK251 := n1_; have GW251 := n2_; have GE251 := n3_; clear n0_ n1_ n2_ n3_; clear hb hbox hg; obtain ⟨hcz14_0, hcz14_1, hcz14_2, hcz14_3, hcz14_4⟩ := Gv.c5 BK251.out; obtain ⟨hfz14_0, hfz14_1, hfz14_2, hfz14_3, hfz14_4⟩ := Gv.f5 BK251.out))
   go_ret
   exact ⟨by first | rfl | (simp [errW_none, errW_some] <;> rfl) | (simp [*, errW_none, errW_some] <;> rfl), by repeat (first | (with_reducible first | exact HB.out | apply below_alloc | apply pw_below_drewN | apply below_drew1 | refine below_set ?_ GE251.out) | exact HB.out)⟩
 ·rw [if_neg c2] at H
  have c2b0 : (a0_0 == 4) = false := beq_eq_false_iff_ne.mpr c2
  have c2b1 : (a0_0 != 4) = true := bne_iff_ne.mpr c2
  by_cases c15 : a0_0 = 6
  ·rw [if_pos c15] at H
   have c15b0 : (a0_0 == 6) = true := beq_iff_eq.mpr c15
   have c15b1 : (a0_0 != 6) = false := bne_eq_false_iff_eq.mpr c15
   clear c15
   replace H := Option.bind_eq_some_iff.mp H
   obtain ⟨t253, A160, H⟩ := H
   replace H : (if t253 = true then ((impl_isLong.f a0_2).bind fun t254 => (if t254 = true then ((impl_isLong.f a0_3).bind fun t255 => (if t255 = true then ((impl_isLong.f a0_4).bind fun t256 => (some t256)) else (some false))) else (some false))) else (some false)) = some r := H
   have A16 := Gv.a0 A160
   clear A160
   by_cases c17 : t253 = true
   ·subst c17
    have H1 : ((impl_isLong.f a0_2).bind fun t254 => (if t254 = true then ((impl_isLong.f a0_3).bind fun t255 => (if t255 = true then ((impl_isLong.f a0_4).bind fun t256 => (some t256)) else (some false))) else (some false))) = some r := by rw [if_pos rfl] at H; exact H
    clear H
    have H := H1
    clear H1
    replace H := Option.bind_eq_some_iff.mp H
    obtain ⟨t254, A180, H⟩ := H
    replace H : (if t254 = true then ((impl_isLong.f a0_3).bind fun t255 => (if t255 = true then ((impl_isLong.f a0_4).bind fun t256 => (some t256)) else (some false))) else (some false)) = some r := H
    have A18 := Gv.a0 A180
    clear A180
    by_cases c19 : t254 = true
    ·subst c19
     have H1 : ((impl_isLong.f a0_3).bind fun t255 => (if t255 = true then ((impl_isLong.f a0_4).bind fun t256 => (some t256)) else (some false))) = some r := by rw [if_pos rfl] at H; exact H
     clear H
     have H := H1
     clear H1
     replace H := Option.bind_eq_some_iff.mp H
     obtain ⟨t255, A200, H⟩ := H
     replace H : (if t255 = true then ((impl_isLong.f a0_4).bind fun t256 => (some t256)) else (some false)) = some r := H
     have A20 := Gv.a0 A200
     clear A200
     by_cases c21 : t255 = true
     ·subst c21
      have H1 : ((impl_isLong.f a0_4).bind fun t256 => (some t256)) = some r := by rw [if_pos rfl] at H; exact H
      clear H
      have H := H1
      clear H1
      replace H := Option.bind_eq_some_iff.mp H
      obtain ⟨t256, A220, H⟩ := H
      replace H : (some t256) = some r := H
      have A22 := Gv.a0 A220
      clear A220
      obtain rfl := Option.some.inj H
      go_enter Try.func65, Try.ntmps65
      go_wp2_with (first | ((with_reducible refine gate_dst (N := 1) rfl ?_); refine box_event ?hg (N := 1) ?hd (cs := #[.int .i64 a0_0, .int .i64 a0_1, .int .i64 a0_2, .int .i64 a0_3, .int .i64 a0_4]) (t := 34) ?hr ?_; (case hd => rfl); (case hg => rfl); (case hr => first | (go_simp; done) | (go_simp; rfl)); intro gb251 hg w23 hbox hb; have n0_ := Gv.a0 (below_step Gv.bw hb); have n1_ := Gv.a0 (hbox); have n2_ := Gv.a0 ((Gv.ble hg Gv.bw : w.heap.size ≤ gb251)); have n3_ := Gv.a0 ((Gv.ble hg Gv.bw : w.heap.size ≤ gb251)); clear HB; have HB := n0_; have BK251 := n1_; have GW251 := n2_; have GE251 := n3_; clear n0_ n1_ n2_ n3_; clear hb hbox hg; obtain ⟨hcz24_0, hcz24_1, hcz24_2, hcz24_3, hcz24_4⟩ := Gv.c5 BK251.out; obtain ⟨hfz24_0, hfz24_1, hfz24_2, hfz24_3, hfz24_4⟩ := Gv.f5 BK251.out) | ((with_reducible refine gate_callee (f := 75) rfl ?_); refine goesL_ (some 29) rfl rfl Try.func75 (by kernel_rfl) rfl #[.int .i64 a0_1] rfl Gv.lm ?_; (with_reducible refine (impl_isLong.calls a0_1 true _ A16.out).mono ?_); rintro e w' ⟨rfl, ⟨nd, rfl⟩⟩; refine ⟨_, rfl, ?_⟩) | (go_at_call 75; (with_reducible refine (impl_isLong.calls a0_2 true _ A18.out).mono ?_); rintro e w' ⟨rfl, ⟨nd, rfl⟩⟩) | (go_at_call 75; (with_reducible refine (impl_isLong.calls a0_3 true _ A20.out).mono ?_); rintro e w' ⟨rfl, ⟨nd, rfl⟩⟩) | (go_at_call 75; (with_reducible refine (impl_isLong.calls a0_4 t256 _ A22.out).mono ?_); rintro e w' ⟨rfl, ⟨nd, rfl⟩⟩))
      go_ret
      exact ⟨by first | rfl | (simp [errW_none, errW_some] <;> rfl) | (simp [*, errW_none, errW_some] <;> rfl), by repeat (first | (with_reducible first | exact HB.out | apply below_alloc | apply pw_below_drewN | apply below_drew1 | refine below_set ?_ GE251.out) | exact HB.out)⟩
     ·replace c21 := Bool.eq_false_iff.mpr c21
      subst c21
      have H1 : (some false) = some r := by rw [if_neg (show ¬ (false = true) by decide)] at H; exact H
      clear H
      have H := H1
      clear H1
      obtain rfl := Option.some.inj H
      go_enter Try.func65, Try.ntmps65
      go_wp2_with (first | ((with_reducible refine gate_dst (N := 1) rfl ?_); refine box_event ?hg (N := 1) ?hd (cs := #[.int .i64 a0_0, .int .i64 a0_1, .int .i64 a0_2, .int .i64 a0_3, .int .i64 a0_4]) (t := 34) ?hr ?_; (case hd => rfl); (case hg => rfl); (case hr => first | (go_simp; done) | (go_simp; rfl)); intro gb251 hg w25 hbox hb; have n0_ := Gv.a0 (below_step Gv.bw hb); have n1_ := Gv.a0 (hbox); have n2_ := Gv.a0 ((Gv.ble hg Gv.bw : w.heap.size ≤ gb251)); have n3_ := Gv.a0 ((Gv.ble hg Gv.bw : w.heap.size ≤ gb251)); clear HB; have HB := n0_; have BK251 := n1_; have GW251 := n2_; have GE251 := n3_; clear n0_ n1_ n2_ n3_; clear hb hbox hg; obtain ⟨hcz26_0, hcz26_1, hcz26_2, hcz26_3, hcz26_4⟩ := Gv.c5 BK251.out; obtain ⟨hfz26_0, hfz26_1, hfz26_2, hfz26_3, hfz26_4⟩ := Gv.f5 BK251.out) | ((with_reducible refine gate_callee (f := 75) rfl ?_); refine goesL_ (some 29) rfl rfl Try.func75 (by kernel_rfl) rfl #[.int .i64 a0_1] rfl Gv.lm ?_; (with_reducible refine (impl_isLong.calls a0_1 true _ A16.out).mono ?_); rintro e w' ⟨rfl, ⟨nd, rfl⟩⟩; refine ⟨_, rfl, ?_⟩) | (go_at_call 75; (with_reducible refine (impl_isLong.calls a0_2 true _ A18.out).mono ?_); rintro e w' ⟨rfl, ⟨nd, rfl⟩⟩) | (go_at_call 75; (with_reducible refine (impl_isLong.calls a0_3 false _ A20.out).mono ?_); rintro e w' ⟨rfl, ⟨nd, rfl⟩⟩))
      go_ret
      exact ⟨by first | rfl | (simp [errW_none, errW_some] <;> rfl) | (simp [*, errW_none, errW_some] <;> rfl), by repeat (first | (with_reducible first | exact HB.out | apply below_alloc | apply pw_below_drewN | apply below_drew1 | refine below_set ?_ GE251.out) | exact HB.out)⟩
    ·replace c19 := Bool.eq_false_iff.mpr c19
     subst c19
     have H1 : (some false) = some r := by rw [if_neg (show ¬ (false = true) by decide)] at H; exact H
     clear H
     have H := H1
     clear H1
     obtain rfl := Option.some.inj H
     go_enter Try.func65, Try.ntmps65
     go_wp2_with (first | ((with_reducible refine gate_dst (N := 1) rfl ?_); refine box_event ?hg (N := 1) ?hd (cs := #[.int .i64 a0_0, .int .i64 a0_1, .int .i64 a0_2, .int .i64 a0_3, .int .i64 a0_4]) (t := 34) ?hr ?_; (case hd => rfl); (case hg => rfl); (case hr => first | (go_simp; done) | (go_simp; rfl)); intro gb251 hg w27 hbox hb; have n0_ := Gv.a0 (below_step Gv.bw hb); have n1_ := Gv.a0 (hbox); have n2_ := Gv.a0 ((Gv.ble hg Gv.bw : w.heap.size ≤ gb251)); have n3_ := Gv.a0 ((Gv.ble hg Gv.bw : w.heap.size ≤ gb251)); clear HB; have HB := n0_; have BK251 := n1_; have GW251 := n2_; have GE251 := n3_; clear n0_ n1_ n2_ n3_; clear hb hbox hg; obtain ⟨hcz28_0, hcz28_1, hcz28_2, hcz28_3, hcz28_4⟩ := Gv.c5 BK251.out; obtain ⟨hfz28_0, hfz28_1, hfz28_2, hfz28_3, hfz28_4⟩ := Gv.f5 BK251.out) | ((with_reducible refine gate_callee (f := 75) rfl ?_); refine goesL_ (some 29) rfl rfl Try.func75 (by kernel_rfl) rfl #[.int .i64 a0_1] rfl Gv.lm ?_; (with_reducible refine (impl_isLong.calls a0_1 true _ A16.out).mono ?_); rintro e w' ⟨rfl, ⟨nd, rfl⟩⟩; refine ⟨_, rfl, ?_⟩) | (go_at_call 75; (with_reducible refine (impl_isLong.calls a0_2 false _ A18.out).mono ?_); rintro e w' ⟨rfl, ⟨nd, rfl⟩⟩))
     go_ret
     exact ⟨by first | rfl | (simp [errW_none, errW_some] <;> rfl) | (simp [*, errW_none, errW_some] <;> rfl), by repeat (first | (with_reducible first | exact HB.out | apply below_alloc | apply pw_below_drewN | apply below_drew1 | refine below_set ?_ GE251.out) | exact HB.out)⟩
   ·replace c17 := Bool.eq_false_iff.mpr c17
    subst c17
    have H1 : (some false) = some r := by rw [if_neg (show ¬ (false = true) by decide)] at H; exact H
    clear H
    have H := H1
    clear H1
    obtain rfl := Option.some.inj H
    go_enter Try.func65, Try.ntmps65
    go_wp2_with (first | ((with_reducible refine gate_dst (N := 1) rfl ?_); refine box_event ?hg (N := 1) ?hd (cs := #[.int .i64 a0_0, .int .i64 a0_1, .int .i64 a0_2, .int .i64 a0_3, .int .i64 a0_4]) (t := 34) ?hr ?_; (case hd => rfl); (case hg => rfl); (case hr => first | (go_simp; done) | (go_simp; rfl)); intro gb251 hg w29 hbox hb; have n0_ := Gv.a0 (below_step Gv.bw hb); have n1_ := Gv.a0 (hbox); have n2_ := Gv.a0 ((Gv.ble hg Gv.bw : w.heap.size ≤ gb251)); have n3_ := Gv.a0 ((Gv.ble hg Gv.bw : w.heap.size ≤ gb251)); clear HB; have HB := n0_; have BK251 := n1_; have GW251 := n2_; have GE251 := n3_; clear n0_ n1_ n2_ n3_; clear hb hbox hg; obtain ⟨hcz30_0, hcz30_1, hcz30_2, hcz30_3, hcz30_4⟩ := Gv.c5 BK251.out; obtain ⟨hfz30_0, hfz30_1, hfz30_2, hfz30_3, hfz30_4⟩ := Gv.f5 BK251.out) | ((with_reducible refine gate_callee (f := 75) rfl ?_); refine goesL_ (some 29) rfl rfl Try.func75 (by kernel_rfl) rfl #[.int .i64 a0_1] rfl Gv.lm ?_; (with_reducible refine (impl_isLong.calls a0_1 false _ A16.out).mono ?_); rintro e w' ⟨rfl, ⟨nd, rfl⟩⟩; refine ⟨_, rfl, ?_⟩))
    go_ret
    exact ⟨by first | rfl | (simp [errW_none, errW_some] <;> rfl) | (simp [*, errW_none, errW_some] <;> rfl), by repeat (first | (with_reducible first | exact HB.out | apply below_alloc | apply pw_below_drewN | apply below_drew1 | refine below_set ?_ GE251.out) | exact HB.out)⟩
  ·rw [if_neg c15] at H
   have c15b0 : (a0_0 == 6) = false := beq_eq_false_iff_ne.mpr c15
   have c15b1 : (a0_0 != 6) = true := bne_iff_ne.mpr c15
   obtain rfl := Option.some.inj H
   go_enter Try.func65, Try.ntmps65
   go_wp2_with (first | ((with_reducible refine gate_dst (N := 1) rfl ?_); refine box_event ?hg (N := 1) ?hd (cs := #[.int .i64 a0_0, .int .i64 a0_1, .int .i64 a0_2, .int .i64 a0_3, .int .i64 a0_4]) (t := 34) ?hr ?_; (case hd => rfl); (case hg => rfl); (case hr => first | (go_simp; done) | (go_simp; rfl)); intro gb251 hg w31 hbox hb; have n0_ := Gv.a0 (below_step Gv.bw hb); have n1_ := Gv.a0 (hbox); have n2_ := Gv.a0 ((Gv.ble hg Gv.bw : w.heap.size ≤ gb251)); have n3_ := Gv.a0 ((Gv.ble hg Gv.bw : w.heap.size ≤ gb251)); clear HB; have HB := n0_; have BK251 := n1_; have GW251 := n2_; have GE251 := n3_; clear n0_ n1_ n2_ n3_; clear hb hbox hg; obtain ⟨hcz32_0, hcz32_1, hcz32_2, hcz32_3, hcz32_4⟩ := Gv.c5 BK251.out; obtain ⟨hfz32_0, hfz32_1, hfz32_2, hfz32_3, hfz32_4⟩ := Gv.f5 BK251.out))
   go_ret
   exact ⟨by first | rfl | (simp [errW_none, errW_some] <;> rfl) | (simp [*, errW_none, errW_some] <;> rfl), by repeat (first | (with_reducible first | exact HB.out | apply below_alloc | apply pw_below_drewN | apply below_drew1 | refine below_set ?_ GE251.out) | exact HB.out)⟩

/-! ### impl_bitsOf: function 66 -/
def impl_bitsOf.f (a0_0 : Int) (a0_1 : Int) (a0_2 : Int) (a0_3 : Int) (a0_4 : Int) : Option (Int) := if a0_0 = 4 then (some 32) else (some 128)
set_option maxHeartbeats 8000000 in
set_option maxRecDepth 100000 in
theorem impl_bitsOf.calls (a0_0 : Int) (a0_1 : Int) (a0_2 : Int) (a0_3 : Int) (a0_4 : Int) (r : Int) (w : World) (h : impl_bitsOf.f a0_0 a0_1 a0_2 a0_3 a0_4 = some r) :
  Calls Try.prog 66 #[.agg #[.int .i64 a0_0, .int .i64 a0_1, .int .i64 a0_2, .int .i64 a0_3, .int .i64 a0_4]] w fun e w' => e = .returned (.int .i64 r) ∧ Below w.heap.size w w' := by
 have hu34 := Try.underlying34
 have HB := Gv.a0 (Below.refl w.heap.size w)
 have H : (if a0_0 = 4 then (some 32) else (some 128)) = some r := h
 clear h
 by_cases c2 : a0_0 = 4
 ·rw [if_pos c2] at H
  have c2b0 : (a0_0 == 4) = true := beq_iff_eq.mpr c2
  have c2b1 : (a0_0 != 4) = false := bne_eq_false_iff_eq.mpr c2
  clear c2
  obtain rfl := Option.some.inj H
  go_enter Try.func66, Try.ntmps66
  go_wp2_with (first | ((with_reducible refine gate_dst (N := 1) rfl ?_); refine box_event ?hg (N := 1) ?hd (cs := #[.int .i64 a0_0, .int .i64 a0_1, .int .i64 a0_2, .int .i64 a0_3, .int .i64 a0_4]) (t := 34) ?hr ?_; (case hd => rfl); (case hg => rfl); (case hr => first | (go_simp; done) | (go_simp; rfl)); intro gb257 hg w3 hbox hb; have n0_ := Gv.a0 (below_step Gv.bw hb); have n1_ := Gv.a0 (hbox); have n2_ := Gv.a0 ((Gv.ble hg Gv.bw : w.heap.size ≤ gb257)); have n3_ := Gv.a0 ((Gv.ble hg Gv.bw : w.heap.size ≤ gb257)); clear HB; have HB := n0_; have BK257 := n1_; have GW257 := n2_; have GE257 := n3_; clear n0_ n1_ n2_ n3_; clear hb hbox hg; obtain ⟨hcz4_0, hcz4_1, hcz4_2, hcz4_3, hcz4_4⟩ := Gv.c5 BK257.out; obtain ⟨hfz4_0, hfz4_1, hfz4_2, hfz4_3, hfz4_4⟩ := Gv.f5 BK257.out))
  go_ret
  exact ⟨by first | rfl | (simp [errW_none, errW_some] <;> rfl) | (simp [*, errW_none, errW_some] <;> rfl), by repeat (first | (with_reducible first | exact HB.out | apply below_alloc | apply pw_below_drewN | apply below_drew1 | refine below_set ?_ GE257.out) | exact HB.out)⟩
 ·rw [if_neg c2] at H
  have c2b0 : (a0_0 == 4) = false := beq_eq_false_iff_ne.mpr c2
  have c2b1 : (a0_0 != 4) = true := bne_iff_ne.mpr c2
  obtain rfl := Option.some.inj H
  go_enter Try.func66, Try.ntmps66
  go_wp2_with (first | ((with_reducible refine gate_dst (N := 1) rfl ?_); refine box_event ?hg (N := 1) ?hd (cs := #[.int .i64 a0_0, .int .i64 a0_1, .int .i64 a0_2, .int .i64 a0_3, .int .i64 a0_4]) (t := 34) ?hr ?_; (case hd => rfl); (case hg => rfl); (case hr => first | (go_simp; done) | (go_simp; rfl)); intro gb257 hg w5 hbox hb; have n0_ := Gv.a0 (below_step Gv.bw hb); have n1_ := Gv.a0 (hbox); have n2_ := Gv.a0 ((Gv.ble hg Gv.bw : w.heap.size ≤ gb257)); have n3_ := Gv.a0 ((Gv.ble hg Gv.bw : w.heap.size ≤ gb257)); clear HB; have HB := n0_; have BK257 := n1_; have GW257 := n2_; have GE257 := n3_; clear n0_ n1_ n2_ n3_; clear hb hbox hg; obtain ⟨hcz6_0, hcz6_1, hcz6_2, hcz6_3, hcz6_4⟩ := Gv.c5 BK257.out; obtain ⟨hfz6_0, hfz6_1, hfz6_2, hfz6_3, hfz6_4⟩ := Gv.f5 BK257.out))
  go_ret
  exact ⟨by first | rfl | (simp [errW_none, errW_some] <;> rfl) | (simp [*, errW_none, errW_some] <;> rfl), by repeat (first | (with_reducible first | exact HB.out | apply below_alloc | apply pw_below_drewN | apply below_drew1 | refine below_set ?_ GE257.out) | exact HB.out)⟩

/-! ### impl_put: function 86 -/
def impl_put.l0 : Nat → Int → Int → List Int → Int → Int → Option (List Int)
 | 0, _, _, _, _, _ => none
 | k + 1, x0, x1, x5, x10, x11 => if x11 < x10 then (if 0 ≤ (wrap64 (8 * (wrap64 ((wrap64 (x1 - 1)) - x11)))) then (if 0 ≤ x11 then (if x11 < (x5.length : Int) then (impl_put.l0 k x0 x1 (x5.set (x11 : Int).toNat ((shr .i64 x0 (wrap64 (8 * (wrap64 ((wrap64 (x1 - 1)) - x11))))) % 256)) x10 (wrap64 (x11 + 1))) else (none)) else (none)) else (none)) else (some x5)
def impl_put.f (k : Nat) (a0 : Int) (a1 : Int) : Option (List Int) := if 0 ≤ a1 then (if (a1 : Int).toNat ≤ 281474976710656 then ((some (List.replicate (a1 : Int).toNat 0 : List Int)).bind fun y258 => (impl_put.l0 k a0 a1 y258 (y258.length : Int) 0)) else (none)) else (none)
theorem impl_put.mono_l : ∀ k, (∀ y0 y1 y2 y3 y4, LeO (impl_put.l0 k y0 y1 y2 y3 y4) (impl_put.l0 (k + 1) y0 y1 y2 y3 y4))
 | 0 => fun _ _ _ _ _ r h => by simp [impl_put.l0] at h
 | k + 1 => by
  have ih0 := impl_put.mono_l k
  ·intro y0 y1 y2 y3 y4
   unfold impl_put.l0
   repeat' first
   | (with_reducible exact ih0 _ _ _ _ _)
   | (with_reducible exact LeO.refl _)
   | (with_reducible exact LeO.none _)
   | (with_reducible refine LeO.ite ?_ ?_)
   | (with_reducible refine LeO.bind ?_ (fun _ => ?_))
   | exact ih0 _ _ _ _ _
   | exact LeO.none _
   | refine LeO.ite ?_ ?_
   | refine LeO.bind ?_ (fun _ => ?_)
theorem impl_put.mono : ∀ a0 a1 k, LeO (impl_put.f k a0 a1) (impl_put.f (k + 1) a0 a1) := by
 intro a0 a1 k
 have ih0 := impl_put.mono_l k
 unfold impl_put.f
 repeat' first
   | (with_reducible exact ih0 _ _ _ _ _)
   | (with_reducible exact LeO.refl _)
   | (with_reducible exact LeO.none _)
   | (with_reducible refine LeO.ite ?_ ?_)
   | (with_reducible refine LeO.bind ?_ (fun _ => ?_))
   | exact ih0 _ _ _ _ _
   | exact LeO.none _
   | refine LeO.ite ?_ ?_
   | refine LeO.bind ?_ (fun _ => ?_)
set_option maxHeartbeats 8000000 in
set_option maxRecDepth 100000 in
theorem impl_put.calls (k : Nat) (a0 : Int) (a1 : Int) (r : List Int) (w : World) (h : impl_put.f k a0 a1 = some r) :
  Calls Try.prog 86 #[.int .i64 a0, .int .i64 a1] w fun e w' => ∃ v0_ : Value, e = .returned (v0_) ∧ Kd.R (Kd.int .u8) 5 w' w.heap.size (fun _ => True) v0_ r ∧ Below w.heap.size w w' := by
 have HB := Gv.a0 (Below.refl w.heap.size w)
 have H : (if 0 ≤ a1 then (if (a1 : Int).toNat ≤ 281474976710656 then ((some (List.replicate (a1 : Int).toNat 0 : List Int)).bind fun y258 => (impl_put.l0 k a0 a1 y258 (y258.length : Int) 0)) else (none)) else (none)) = some r := h
 clear h
 by_cases c3 : 0 ≤ a1
 ·rw [if_pos c3] at H
  have c3b0 := eq_true c3
  have c3b1 : decide (0 ≤ a1) = true := decide_eq_true c3
  clear c3
  by_cases c4 : (a1 : Int).toNat ≤ 281474976710656
  ·rw [if_pos c4] at H
   have c4b0 := eq_true c4
   have c4b1 : decide ((a1 : Int).toNat ≤ 281474976710656) = true := decide_eq_true c4
   clear c4
   obtain ⟨y258, hy258⟩ : ∃ y_ : List Int, y_ = (List.replicate (a1 : Int).toNat 0) := ⟨_, rfl⟩
   replace H : (impl_put.l0 k a0 a1 y258 (y258.length : Int) 0) = some r := by first | (rw [hy258]; with_reducible exact H) | (have H2_ := (Option.bind_some _ _).symm.trans H; rw [hy258]; with_reducible exact H2_) | (have H2_ := (Option.bind_some _ _).symm.trans H; with_reducible exact H2_) | with_reducible exact H | (rw [hy258]; exact H) | exact H
   have Ny258 := Gv.a0 hy258
   clear hy258
   have H' := Gv.a0 H
   clear H
   go_enter Try.func86, Try.ntmps86
   go_wp2_with (first | ((with_reducible refine gate_dst (N := 8) rfl ?_); refine Kd.R_make (Kd.int .u8) _ 5 rfl (N := 8) rfl 80 _ _ rfl a1 rfl rfl Try.underlying80 (.int .u8 0) 1 info5 rfl (by decide) (by omega) 0 (ok := fun _ => True) (okp := fun _ => True) rfl (fun _ hk => hk) trivial (of_decide_eq_true (by first | (with_reducible assumption) | assumption)) (Nat.le_trans (Nat.mul_le_mul_right _ (of_decide_eq_true (by first | (with_reducible assumption) | assumption) : a1.toNat ≤ 281474976710656)) (by omega)) (Below.refl _ _) (Nat.le_refl _) ?_; intro v259 w5 ho6 hb hg_ hnew_; clear hg_ hnew_; (first | rw [← Ny258.out] at ho6 | (simp only [Int.reduceToNat] at ho6; rw [← Ny258.out] at ho6)); have n0_ := Gv.a0 (Kd.R_lower ho6 (below_size Gv.bw)); have n1_ := Gv.a0 (below_step Gv.bw hb); clear HB; have HO260 := n0_; have HB := n1_; clear n0_ n1_; clear hb ho6; obtain ⟨Ao7, co7, eo7⟩ := Kd.R_slice HO260.out; subst eo7))
   go_loopg [11] k (fun kq v11 w' => ∃ (x5_1 : List Int) (x11_1 : Int), v11 = .int .i64 x11_1 ∧ Aside0 (impl_put.l0 kq a0 a1 x5_1 (y258.length : Int) x11_1 = some r) ∧ Aside0 (kq ≤ k) ∧ Aside0 (Kd.R (Kd.int .u8) 5 w' w.heap.size (fun _ => True) (.slice Ao7 y258.length co7) x5_1) ∧ Aside0 (Below w.heap.size w w'))
   case atStart => exact ⟨(y258), (0), (by first | rfl | (simp; done) | (simp [Int.tdiv_eq_ediv_of_nonneg]; done) | (simp [*]; done)), H', ⟨Nat.le_refl _⟩, ⟨by (with_reducible repeat (first | apply Kd.R_alloc | apply Kd.R_drewN | apply Kd.R_drew)); exact HO260.out⟩, ⟨by repeat (first | (with_reducible first | exact HB.out | apply below_alloc | apply pw_below_drewN | apply below_drew1) | exact HB.out)⟩⟩
   case round =>
    clear H'
    try clear p2
    try clear c3
    try clear c3b0
    try clear c3b1
    try clear c4
    try clear c4b0
    try clear c4b1
    obtain ⟨x5_1, x11_1, rfl, HA, HK1, HO_5, HB⟩ := hrel
    have hl5_1 := (Kd.R_reads' HO_5.out).1
    rw [hl5_1] at HO_5
    (try simp only [hl5_1])
    cases gk with
    | zero => exact absurd HA.out (by simp [impl_put.l0])
    | succ k1 =>
     have H := HA.out
     clear HA
     simp only [impl_put.l0] at H
     by_cases c8 : x11_1 < (y258.length : Int)
     ·rw [if_pos c8] at H
      have c8b0 : decide (x11_1 < (y258.length : Int)) = true := decide_eq_true c8
      (try (have c8b9 := c8b0; rw [hl5_1] at c8b9))
      (try (have c8b8 := c8b0; rw [← hl5_1] at c8b8))
      clear c8
      obtain ⟨ji9, hji9⟩ : ∃ j_ : Int, (wrap64 (8 * (wrap64 ((wrap64 (a1 - 1)) - x11_1)))) = j_ := ⟨_, rfl⟩
      replace H : (if 0 ≤ (ji9) then (if 0 ≤ x11_1 then (if x11_1 < (x5_1.length : Int) then (impl_put.l0 k1 a0 a1 (x5_1.set (x11_1 : Int).toNat ((shr .i64 a0 (ji9)) % 256)) (y258.length : Int) (wrap64 (x11_1 + 1))) else (none)) else (none)) else (none)) = some r := by first | (rw [hji9] at H; exact H) | (simp only [hji9] at H ⊢; exact H)
      have hji9w : (IntKind.i64.wrap (8 * (wrap64 ((wrap64 (a1 - 1)) - x11_1)))) = ji9 := (i64_w _).trans hji9
      by_cases c10 : 0 ≤ (ji9)
      ·rw [if_pos c10] at H
       have c10b0 := eq_true c10
       have c10b1 : decide (0 ≤ (ji9)) = true := decide_eq_true c10
       clear c10
       obtain ⟨ji11, hji11⟩ : ∃ j_ : Int, (shr .i64 a0 (ji9)) = j_ := ⟨_, rfl⟩
       replace H : (if 0 ≤ x11_1 then (if x11_1 < (x5_1.length : Int) then (impl_put.l0 k1 a0 a1 (x5_1.set (x11_1 : Int).toNat ((ji11) % 256)) (y258.length : Int) (wrap64 (x11_1 + 1))) else (none)) else (none)) = some r := by first | (rw [hji11] at H; exact H) | (simp only [hji11] at H ⊢; exact H)
       have hji11_ : (a0 / 2 ^ min (ji9).toNat 64) = ji11 := hji11
       have hji11z : (ji9) ≤ 64 → (a0 / 2 ^ (ji9).toNat) = ji11 := shr_small hji11
       by_cases c12 : 0 ≤ x11_1
       ·rw [if_pos c12] at H
        have c12b0 : decide (0 ≤ x11_1) = true := decide_eq_true c12
        clear c12
        by_cases c13 : x11_1 < (x5_1.length : Int)
        ·rw [if_pos c13] at H
         have c13b0 : decide (x11_1 < (x5_1.length : Int)) = true := decide_eq_true c13
         clear c13
         obtain ⟨y261, hy261⟩ : ∃ y_ : List Int, y_ = (x5_1.set (x11_1 : Int).toNat ((ji11) % 256)) := ⟨_, rfl⟩
         replace H : (impl_put.l0 k1 a0 a1 y261 (y258.length : Int) (wrap64 (x11_1 + 1))) = some r := by first | (rw [hy261]; with_reducible exact H) | (have H2_ := (Option.bind_some _ _).symm.trans H; rw [hy261]; with_reducible exact H2_) | (have H2_ := (Option.bind_some _ _).symm.trans H; with_reducible exact H2_) | with_reducible exact H | (rw [hy261]; exact H) | exact H
         have Ny261 := Gv.a0 hy261
         clear hy261
         have H' := Gv.a0 H
         clear H
         have p14 : 0 ≤ (x11_1 : Int) := of_decide_eq_true (by first | (with_reducible assumption) | assumption)
         have q14 : (x11_1 : Int) < ((x5_1.length : Int) : Int) := of_decide_eq_true (by first | (with_reducible assumption) | assumption)
         obtain ⟨go14, co14, eo14, gb14, gl14, cl14, HG14⟩ := Kd.R_form HO_5.out (by omega)
         (first | cases eo14 | (injection eo14 with ea_ en_ ec_; (first | subst ea_ | (injection ea_ with ea_; subst ea_)); subst ec_; clear en_))
         have GB14 := Gv.a0 gb14
         have GG14 := Gv.a0 HG14
         clear gb14 gl14 HG14
         obtain ⟨hx14_0, hf14_0⟩ := Kd.R_celln 0 HO_5.out (x11_1 : Int) p14 q14
         replace p14 := eq_true p14
         replace q14 := eq_true q14
         have HP15 := Kd.R_putg HO_5.out (x11_1 : Int) ((ji11) % 256)
         go_wp2_with (first | ((with_reducible refine gate_store (t := 5) (p := 24) rfl ?_); refine store_event (t := 5) (p := 24) (v := ?vo_w16) (w1 := (wr.setCell ⟨go14, (x11_1 : Int).toNat, none⟩ (.int .u8 ((ji11) % 256)))) ?hg ?ho ?hn ?hr ?_; (case ho => rfl); (case hg => rfl); (case hn => rfl); (case hr => first | (go_simp; done) | (go_simp; rfl)); intro w16 hw; have hg : wr.grownBy w16 (some go14) := (by rw [hw]; exact HP15.2); have hp_ : Kd.R (Kd.int .u8) 5 w16 w.heap.size (fun _ => True) (.slice (some ⟨go14, 0, none⟩) x5_1.length co7) y261 := (by rw [hw, Ny261.out]; exact HP15.1); clear HP15; have n0_ := Gv.a0 (hp_); have n1_ := Gv.a0 ((by rw [hw]; exact below_set (HB.out) GB14.out : Below w.heap.size w w16)); clear HO_5; clear HB; have HO_5 := n0_; have HB := n1_; clear n0_ n1_; clear hg hw hp_))
         (try simp only [← hl5_1])
         go_roundg k1
         case measure => have := HK1.out; omega
         case rel => exact ⟨(y261), (wrap64 (x11_1 + 1)), (by first | rfl | (simp; done) | (simp [Int.tdiv_eq_ediv_of_nonneg]; done) | (simp [*]; done)), H', ⟨by have := HK1.out; omega⟩, ⟨by (try simp only [hl5_1]); (with_reducible repeat (first | apply Kd.R_alloc | apply Kd.R_drewN | apply Kd.R_drew)); exact HO_5.out⟩, ⟨by repeat (first | (with_reducible first | exact HB.out | apply below_alloc | apply pw_below_drewN | apply below_drew1) | exact HB.out)⟩⟩
        ·rw [if_neg c13] at H
         exact absurd H (by simp)
       ·rw [if_neg c12] at H
        exact absurd H (by simp)
      ·rw [if_neg c10] at H
       exact absurd H (by simp)
     ·rw [if_neg c8] at H
      have c8b0 : decide (x11_1 < (y258.length : Int)) = false := decide_eq_false c8
      (try (have c8b9 := c8b0; rw [hl5_1] at c8b9))
      (try (have c8b8 := c8b0; rw [← hl5_1] at c8b8))
      clear c8
      obtain rfl := Option.some.inj H
      go_wp2
      go_ret
      exact ⟨_, by first | rfl | (simp [errW_none, errW_some] <;> rfl) | (simp [*, errW_none, errW_some] <;> rfl), by (with_reducible repeat (first | apply Kd.R_alloc | apply Kd.R_drewN | apply Kd.R_drew)); exact HO_5.out, by repeat (first | (with_reducible first | exact HB.out | apply below_alloc | apply pw_below_drewN | apply below_drew1) | exact HB.out)⟩
  ·rw [if_neg c4] at H
   exact absurd H (by simp)
 ·rw [if_neg c3] at H
  exact absurd H (by simp)

/-! ### impl_Put32: function 81 -/
def impl_Put32.f (k : Nat) (a0 : Int) : Option (List Int) := (impl_put.f k a0 4).bind fun t262 => (some t262)
theorem impl_Put32.mono : ∀ a0 k, LeO (impl_Put32.f k a0) (impl_Put32.f (k + 1) a0) := by
 intro a0 k
 unfold impl_Put32.f
 repeat' first
   | (with_reducible exact impl_put.mono _ _ _)
   | (with_reducible exact LeO.refl _)
   | (with_reducible exact LeO.none _)
   | (with_reducible refine LeO.ite ?_ ?_)
   | (with_reducible refine LeO.bind ?_ (fun _ => ?_))
   | exact impl_put.mono _ _ _
   | exact LeO.none _
   | refine LeO.ite ?_ ?_
   | refine LeO.bind ?_ (fun _ => ?_)
set_option maxHeartbeats 8000000 in
set_option maxRecDepth 100000 in
theorem impl_Put32.calls (k : Nat) (a0 : Int) (r : List Int) (w : World) (h : impl_Put32.f k a0 = some r) :
  Calls Try.prog 81 #[.int .i64 a0] w fun e w' => ∃ v0_ : Value, e = .returned (v0_) ∧ Kd.R (Kd.int .u8) 5 w' w.heap.size (fun _ => True) v0_ r ∧ Below w.heap.size w w' := by
 have HB := Gv.a0 (Below.refl w.heap.size w)
 have H : ((impl_put.f k a0 4).bind fun t262 => (some t262)) = some r := h
 clear h
 replace H := Option.bind_eq_some_iff.mp H
 obtain ⟨t262, A20, H⟩ := H
 replace H : (some t262) = some r := H
 have A2 := Gv.a0 A20
 clear A20
 obtain rfl := Option.some.inj H
 go_enter Try.func81, Try.ntmps81
 go_wp2_with (first | ((with_reducible refine gate_callee (f := 86) rfl ?_); refine goesL_ (some 4) rfl rfl Try.func86 (by kernel_rfl) rfl #[.int .i64 a0, .int .i64 4] rfl Gv.lm ?_; (with_reducible refine (impl_put.calls k a0 4 t262 _ A2.out).mono ?_); rintro e w3 ⟨v263, rfl, ho0, hb⟩; refine ⟨_, rfl, ?_⟩; have n0_ := Gv.a0 (Kd.R_lower ho0 (below_size Gv.bw)); have n1_ := Gv.a0 (below_step Gv.bw hb); clear HB; have HO264 := n0_; have HB := n1_; clear n0_ n1_; (try clear hb); (try clear hb2); (try clear hk); (try clear hi); (try clear ho0)))
 go_ret
 exact ⟨_, by first | rfl | (simp [errW_none, errW_some] <;> rfl) | (simp [*, errW_none, errW_some] <;> rfl), by (with_reducible repeat (first | apply Kd.R_alloc | apply Kd.R_drewN | apply Kd.R_drew)); exact HO264.out, by repeat (first | (with_reducible first | exact HB.out | apply below_alloc | apply pw_below_drewN | apply below_drew1) | exact HB.out)⟩

/-! ### slices_Grow_byte_byte: function 87 -/
def slices_Grow_byte_byte.f (a0 : Int) : Option (List Int) := if 0 ≤ a0 ∧ a0 ≤ 1099511627776 then some ([] : List Int) else none
set_option maxHeartbeats 8000000 in
set_option maxRecDepth 100000 in
theorem slices_Grow_byte_byte.calls (a0 : Int) (r : List Int) (w : World) (h : slices_Grow_byte_byte.f a0 = some r) :
  Calls Try.prog 87 #[.slice none 0 0, .int .i64 a0] w fun e w' => ∃ v0_ : Value, e = .returned (v0_) ∧ Kd.R (Kd.int .u8) 5 w' w.heap.size (fun _ => True) v0_ r ∧ Below w.heap.size w w' := by
 unfold slices_Grow_byte_byte.f at h
 by_cases hn : 0 ≤ a0 ∧ a0 ≤ 1099511627776
 rotate_left
 ·rw [if_neg hn] at h
  cases h
 rw [if_pos hn] at h
 obtain rfl := Option.some.inj h
 clear h
 by_cases h0 : a0 = 0
 ·subst h0
  go_enter Try.func87, Try.ntmps87
  go_wp2
  go_ret
  exact ⟨_, rfl, Kd.R_nil _ _ _ _ _, Below.refl _ w⟩
 obtain ⟨n, rfl⟩ : ∃ n : Nat, a0 = n := ⟨a0.toNat, by omega⟩
 have hi := info5
 rw [Option.map_eq_some_iff] at hi
 obtain ⟨i, hi, hz⟩ := hi
 simp only [Prod.mk.injEq] at hz
 obtain ⟨hz, hs, hb⟩ := hz
 have hrz : ∀ ty, (Builtin.append_ #[80, 3] ty #[.slice none 0 0, .int .i64 (n : Int)]).run Try.prog w = _ := fun ty =>
  Lib.run_append_nil_zeros w 80 3 ty 5 i (.int .u8 0) .i64 .i64 Try.underlying80 Try.underlying3 hi hz n (by omega) (by omega) (by omega) (by rw [hb]; omega)
 have hG1 : n ≤ grownCap w n 0 5 := grownCap_ge w _ _ _
 have hG2 : grownCap w n 0 5 ≤ maxLen := grownCap_le_maxLen w n 0 5 (by unfold maxLen; omega)
 obtain ⟨G, hG⟩ : ∃ G, G = grownCap w n 0 5 := ⟨_, rfl⟩
 rw [← hG] at hrz hG1 hG2
 have h1 : ¬ ((n : Int) < 0) := by omega
 have h2 : wrap64 ((0 : Int) - 0) = 0 := by unfold wrap64; omega
 have h3 : wrap64 ((n : Int) - 0) = n := by unfold wrap64; omega
 have h4 : (n : Int) > 0 := by omega
 have hG63 : G ≤ 9223372036854775807 := by unfold maxLen at hG2; omega
 have hsz : (Builtin.zeroCells (Value.int .u8 0).cells n ++ Builtin.zeroCells (Value.int .u8 0).cells (G - n)).size = G * 1 := by
  rw [Array.size_append, size_zeroCells, size_zeroCells, show (Value.int .u8 0).cells.size = 1 from rfl]
  omega
 clear hG hz hs hb hi
 go_enter Try.func87, Try.ntmps87
 go_wp2_with (at_builtin; refine Lib.wpList_append_run _ rfl _ _ _ _ rfl _ _ rfl rfl _ _ (hrz _) ?_)
 go_ret
 refine ⟨_, rfl, ⟨fun _ _ => trivial, [], ⟨by simp, .inr ⟨w.heap.size, G, _, rfl, Nat.le_refl _, heap_alloc_new _ _, Nat.zero_le _, hG2, hsz, by simp⟩⟩, Reps.none _ _⟩, (below_alloc (below_drew1 (Below.refl _ w)) _)⟩

/-! ### slices_Concat_byte_byte: function 82 -/
mutual
def slices_Concat_byte_byte.l0 : Nat → List (List Int) → Int → List (List Int) → Int → Int → Option (List Int)
 | 0, _, _, _, _, _ => none
 | k + 1, x0, x3, x9, x10, x11 => if x11 < x10 then (if 0 ≤ x11 then (if x11 < (x9.length : Int) then (if (wrap64 (x3 + ((rd_L8 x9 x11).length : Int))) < 0 then (none) else (slices_Concat_byte_byte.l0 k x0 (wrap64 (x3 + ((rd_L8 x9 x11).length : Int))) x9 x10 (wrap64 (x11 + 1)))) else (none)) else (none)) else ((slices_Grow_byte_byte.f x3).bind fun t269 => (slices_Concat_byte_byte.l1 k t269 x0 (x0.length : Int) 0))
def slices_Concat_byte_byte.l1 : Nat → List Int → List (List Int) → Int → Int → Option (List Int)
 | 0, _, _, _, _ => none
 | k + 1, x6, x25, x26, x27 => if x27 < x26 then (if 0 ≤ x27 then (if x27 < (x25.length : Int) then (if x6.length + (rd_L8 x25 x27).length < 140737488355328 then (slices_Concat_byte_byte.l1 k (x6 ++ (rd_L8 x25 x27)) x25 x26 (wrap64 (x27 + 1))) else (none)) else (none)) else (none)) else (some x6)
end
def slices_Concat_byte_byte.f (k : Nat) (l0 : List (List Int)) : Option (List Int) := slices_Concat_byte_byte.l0 k l0 0 l0 (l0.length : Int) 0
theorem slices_Concat_byte_byte.mono_l : ∀ k, (∀ y0 y1 y2 y3 y4, LeO (slices_Concat_byte_byte.l0 k y0 y1 y2 y3 y4) (slices_Concat_byte_byte.l0 (k + 1) y0 y1 y2 y3 y4)) ∧ (∀ y0 y1 y2 y3, LeO (slices_Concat_byte_byte.l1 k y0 y1 y2 y3) (slices_Concat_byte_byte.l1 (k + 1) y0 y1 y2 y3))
 | 0 => ⟨fun _ _ _ _ _ r h => by simp [slices_Concat_byte_byte.l0] at h, fun _ _ _ _ r h => by simp [slices_Concat_byte_byte.l1] at h⟩
 | k + 1 => by
  obtain ⟨ih0, ih1⟩ := slices_Concat_byte_byte.mono_l k
  refine ⟨?_, ?_⟩
  ·intro y0 y1 y2 y3 y4
   unfold slices_Concat_byte_byte.l0
   repeat' first
   | (with_reducible exact ih0 _ _ _ _ _)
   | (with_reducible exact ih1 _ _ _ _)
   | (with_reducible exact LeO.refl _)
   | (with_reducible exact LeO.none _)
   | (with_reducible refine LeO.ite ?_ ?_)
   | (with_reducible refine LeO.bind ?_ (fun _ => ?_))
   | exact ih0 _ _ _ _ _
   | exact ih1 _ _ _ _
   | exact LeO.none _
   | refine LeO.ite ?_ ?_
   | refine LeO.bind ?_ (fun _ => ?_)
  ·intro y0 y1 y2 y3
   unfold slices_Concat_byte_byte.l1
   repeat' first
   | (with_reducible exact ih0 _ _ _ _ _)
   | (with_reducible exact ih1 _ _ _ _)
   | (with_reducible exact LeO.refl _)
   | (with_reducible exact LeO.none _)
   | (with_reducible refine LeO.ite ?_ ?_)
   | (with_reducible refine LeO.bind ?_ (fun _ => ?_))
   | exact ih0 _ _ _ _ _
   | exact ih1 _ _ _ _
   | exact LeO.none _
   | refine LeO.ite ?_ ?_
   | refine LeO.bind ?_ (fun _ => ?_)
theorem slices_Concat_byte_byte.mono : ∀ a0 k, LeO (slices_Concat_byte_byte.f k a0) (slices_Concat_byte_byte.f (k + 1) a0) := by
 intro a0 k
 obtain ⟨ih0, ih1⟩ := slices_Concat_byte_byte.mono_l k
 unfold slices_Concat_byte_byte.f
 repeat' first
   | (with_reducible exact ih0 _ _ _ _ _)
   | (with_reducible exact ih1 _ _ _ _)
   | (with_reducible exact LeO.refl _)
   | (with_reducible exact LeO.none _)
   | (with_reducible refine LeO.ite ?_ ?_)
   | (with_reducible refine LeO.bind ?_ (fun _ => ?_))
   | exact ih0 _ _ _ _ _
   | exact ih1 _ _ _ _
   | exact LeO.none _
   | refine LeO.ite ?_ ?_
   | refine LeO.bind ?_ (fun _ => ?_)
set_option maxHeartbeats 8000000 in
set_option maxRecDepth 100000 in
theorem slices_Concat_byte_byte.calls (k : Nat) (A0 : Option Addr) (c0 : Nat) (l0 : List (List Int)) (r : List Int) (w : World) (hr0 : Kd.C (Kd.slice 5 (Kd.int .u8)) w A0 l0.length l0) (hc0 : l0.length ≤ c0) (h : slices_Concat_byte_byte.f k l0 = some r) :
  Calls Try.prog 82 #[.slice A0 l0.length c0] w fun e w' => ∃ v0_ : Value, e = .returned (v0_) ∧ Kd.R (Kd.int .u8) 5 w' w.heap.size (fun _ => True) v0_ r ∧ Below w.heap.size w w' := by
 have HR0 := Gv.a0 hr0
 have HC0 := Gv.a0 hc0
 clear hr0 hc0
 have HB := Gv.a0 (Below.refl w.heap.size w)
 have H : (slices_Concat_byte_byte.l0 k l0 0 l0 (l0.length : Int) 0) = some r := h
 clear h
 have H' := Gv.a0 H
 clear H
 go_enter Try.func82, Try.ntmps82
 go_wp2
 go_loopg [3, 11] k (fun kq v3 v11 w' => ∃ (x3_1 : Int) (x11_1 : Int), v3 = .int .i64 x3_1 ∧ v11 = .int .i64 x11_1 ∧ Aside0 (slices_Concat_byte_byte.l0 kq l0 x3_1 l0 (l0.length : Int) x11_1 = some r) ∧ Aside0 (kq ≤ k) ∧ Aside0 (Below w.heap.size w w'))
 case atStart => exact ⟨(0), (0), (by first | rfl | (simp; done) | (simp [Int.tdiv_eq_ediv_of_nonneg]; done) | (simp [*]; done)), (by first | rfl | (simp; done) | (simp [Int.tdiv_eq_ediv_of_nonneg]; done) | (simp [*]; done)), H', ⟨Nat.le_refl _⟩, ⟨by repeat (first | (with_reducible first | exact HB.out | apply below_alloc | apply pw_below_drewN | apply below_drew1) | exact HB.out)⟩⟩
 case round =>
  clear H'
  obtain ⟨x3_1, x11_1, rfl, rfl, HA, HK1, HB⟩ := hrel
  cases gk with
  | zero => exact absurd HA.out (by simp [slices_Concat_byte_byte.l0])
  | succ k1 =>
   have H := HA.out
   clear HA
   simp only [slices_Concat_byte_byte.l0] at H
   by_cases c2 : x11_1 < (l0.length : Int)
   ·rw [if_pos c2] at H
    have c2b0 : decide (x11_1 < (l0.length : Int)) = true := decide_eq_true c2
    clear c2
    by_cases c3 : 0 ≤ x11_1
    ·rw [if_pos c3] at H
     have c3b0 : decide (0 ≤ x11_1) = true := decide_eq_true c3
     clear c3
     by_cases c4 : x11_1 < (l0.length : Int)
     ·rw [if_pos c4] at H
      have c4b0 : decide (x11_1 < (l0.length : Int)) = true := decide_eq_true c4
      clear c4
      by_cases c5 : (wrap64 (x3_1 + ((rd_L8 l0 x11_1).length : Int))) < 0
      ·rw [if_pos c5] at H
       exact absurd H (by simp)
      ·rw [if_neg c5] at H
       have c5b0 : decide ((wrap64 (x3_1 + ((rd_L8 l0 x11_1).length : Int))) < 0) = false := decide_eq_false c5
       clear c5
       have H' := Gv.a0 H
       clear H
       have p268 : 0 ≤ (x11_1 : Int) := of_decide_eq_true (by first | (with_reducible assumption) | assumption)
       have q268 : x11_1 < (l0.length : Int) := of_decide_eq_true (by first | (with_reducible assumption) | assumption)
       obtain ⟨ad268, A268_0, c268_0, e268, hx268_0, hl268_0, hi268_0⟩ := at_L8 HR0.out x11_1 p268 q268
       cases e268
       replace hx268_0 := Gv.bx HB.out hx268_0
       have HR268_0 := Gv.a0 hi268_0
       have HC268_0 := Gv.a0 hl268_0
       clear hi268_0 hl268_0
       replace p268 := eq_true p268
       replace q268 := eq_true q268
       go_wp2
       go_roundg k1
       case measure => have := HK1.out; omega
       case rel => exact ⟨(wrap64 (x3_1 + ((rd_L8 l0 x11_1).length : Int))), (wrap64 (x11_1 + 1)), (by first | rfl | (simp; done) | (simp [Int.tdiv_eq_ediv_of_nonneg]; done) | (simp [*]; done)), (by first | rfl | (simp; done) | (simp [Int.tdiv_eq_ediv_of_nonneg]; done) | (simp [*]; done)), H', ⟨by have := HK1.out; omega⟩, ⟨by repeat (first | (with_reducible first | exact HB.out | apply below_alloc | apply pw_below_drewN | apply below_drew1) | exact HB.out)⟩⟩
     ·rw [if_neg c4] at H
      exact absurd H (by simp)
    ·rw [if_neg c3] at H
     exact absurd H (by simp)
   ·rw [if_neg c2] at H
    have c2b0 : decide (x11_1 < (l0.length : Int)) = false := decide_eq_false c2
    clear c2
    replace H := Option.bind_eq_some_iff.mp H
    obtain ⟨t269, A60, H⟩ := H
    replace H : (slices_Concat_byte_byte.l1 k1 t269 l0 (l0.length : Int) 0) = some r := H
    have A6 := Gv.a0 A60
    clear A60
    have H' := Gv.a0 H
    clear H
    go_wp2_with (first | ((with_reducible refine gate_callee (f := 87) rfl ?_); refine goesL_ (some 24) rfl rfl Try.func87 (by kernel_rfl) rfl #[.slice none 0 0, .int .i64 x3_1] rfl Gv.lm ?_; (with_reducible refine (slices_Grow_byte_byte.calls x3_1 t269 _ A6.out).mono ?_); rintro e w7 ⟨v270, rfl, ho0, hb⟩; refine ⟨_, rfl, ?_⟩; have n0_ := Gv.a0 (Kd.R_lower ho0 (below_size Gv.bw)); have n1_ := Gv.a0 (below_step Gv.bw hb); clear HB; have HO271 := n0_; have HB := n1_; clear n0_ n1_; (try clear hb); (try clear hb2); (try clear hk); (try clear hi); (try clear ho0)))
    go_loopg [6, 27] k1 (fun kq v6 v27 w' => ∃ (x6_2 : List Int) (x27_2 : Int), v27 = .int .i64 x27_2 ∧ Aside0 (slices_Concat_byte_byte.l1 kq x6_2 l0 (l0.length : Int) x27_2 = some r) ∧ Aside0 (kq ≤ k1) ∧ Aside0 (Kd.R (Kd.int .u8) 5 w' w.heap.size (fun _ => True) v6 x6_2) ∧ Aside0 (Below w.heap.size w w'))
    case atStart => exact ⟨(t269), (0), (by first | rfl | (simp; done) | (simp [Int.tdiv_eq_ediv_of_nonneg]; done) | (simp [*]; done)), H', ⟨Nat.le_refl _⟩, ⟨by (with_reducible repeat (first | apply Kd.R_alloc | apply Kd.R_drewN | apply Kd.R_drew)); exact HO271.out⟩, ⟨by repeat (first | (with_reducible first | exact HB.out | apply below_alloc | apply pw_below_drewN | apply below_drew1) | exact HB.out)⟩⟩
    case round =>
     clear H'
     try clear c2
     try clear c2b0
     try clear p2
     try clear q2
     try clear hx2
     try clear c3
     try clear c3b0
     try clear c4
     try clear c4b0
     try clear c5
     try clear c5b0
     try clear p6
     try clear hx268_0
     try clear p268
     try clear q268
     obtain ⟨x6_2, x27_2, rfl, HA, HK2, HO_6, HB⟩ := hrel
     cases gk with
     | zero => exact absurd HA.out (by simp [slices_Concat_byte_byte.l1])
     | succ k2 =>
      have H := HA.out
      clear HA
      simp only [slices_Concat_byte_byte.l1] at H
      by_cases c8 : x27_2 < (l0.length : Int)
      ·rw [if_pos c8] at H
       have c8b0 : decide (x27_2 < (l0.length : Int)) = true := decide_eq_true c8
       clear c8
       by_cases c9 : 0 ≤ x27_2
       ·rw [if_pos c9] at H
        have c9b0 : decide (0 ≤ x27_2) = true := decide_eq_true c9
        clear c9
        by_cases c10 : x27_2 < (l0.length : Int)
        ·rw [if_pos c10] at H
         have c10b0 : decide (x27_2 < (l0.length : Int)) = true := decide_eq_true c10
         clear c10
         by_cases c11 : x6_2.length + (rd_L8 l0 x27_2).length < 140737488355328
         ·rw [if_pos c11] at H
          have LMc11 := Gv.a0 c11
          clear c11
          obtain ⟨y273, hy273⟩ : ∃ y_ : List Int, y_ = (x6_2 ++ (rd_L8 l0 x27_2)) := ⟨_, rfl⟩
          replace H : (slices_Concat_byte_byte.l1 k2 y273 l0 (l0.length : Int) (wrap64 (x27_2 + 1))) = some r := by first | (rw [hy273]; with_reducible exact H) | (have H2_ := (Option.bind_some _ _).symm.trans H; rw [hy273]; with_reducible exact H2_) | (have H2_ := (Option.bind_some _ _).symm.trans H; with_reducible exact H2_) | with_reducible exact H | (rw [hy273]; exact H) | exact H
          have Ny273 := Gv.a0 hy273
          clear hy273
          have H' := Gv.a0 H
          clear H
          have p272 : 0 ≤ (x27_2 : Int) := of_decide_eq_true (by first | (with_reducible assumption) | assumption)
          have q272 : x27_2 < (l0.length : Int) := of_decide_eq_true (by first | (with_reducible assumption) | assumption)
          obtain ⟨ad272, A272_0, c272_0, e272, hx272_0, hl272_0, hi272_0⟩ := at_L8 HR0.out x27_2 p272 q272
          cases e272
          replace hx272_0 := Gv.bx HB.out hx272_0
          have HR272_0 := Gv.a0 hi272_0
          have HC272_0 := Gv.a0 hl272_0
          clear hi272_0 hl272_0
          replace p272 := eq_true p272
          replace q272 := eq_true q272
          go_wp2_with (first | ((with_reducible refine gate_builtin (b := .append) (xs := #[.tmp 31, .tmp 32]) rfl ?_); at_builtin; refine Kd.R_append_rows (Kd.int .u8) (w0 := w) w.heap.size rfl (.tmp 31) (.tmp 32) 80 5 (.int .u8 0) 1 rfl Try.underlying80 info5 rfl (by decide) (by omega) u6 x6_2 (rd_L8 l0 x27_2) _ _ _ (fun _ => True) (fun _ => False) rfl rfl ?aO ?aR (fun _ _ h => h) (fun _ h => h.elim) ?aF ?aB ?aS ?aL ?_; (case aR => repeat (first | exact (Kd.C_below HR272_0.out HB.out) | (with_reducible refine Kd.C_alloc ?_ _) | (with_reducible refine Kd.C_drewN ?_ _) | (with_reducible refine Kd.C_drew ?_))); (case aB => exact Gv.bw); (case aF => exact (fun _ _ => trivial)); (case aO => exact (Gv.kr HO_6.out)); (case aS => exact (below_size Gv.bw)); (case aL => have := LMc11.out; omega); intro v274 w12 ho hb hg hat; rw [← Ny273.out] at ho; have n0_ := Gv.a0 (hb); have n1_ := Gv.a0 (ho); clear HB; clear HO_6; have HB := n0_; have HO275 := n1_; clear n0_ n1_; clear ho hb hg hat))
          go_roundg k2
          case measure => have := HK1.out; have := HK2.out; omega
          case rel => exact ⟨(y273), (wrap64 (x27_2 + 1)), (by first | rfl | (simp; done) | (simp [Int.tdiv_eq_ediv_of_nonneg]; done) | (simp [*]; done)), H', ⟨by have := HK1.out; have := HK2.out; omega⟩, ⟨by (with_reducible repeat (first | apply Kd.R_alloc | apply Kd.R_drewN | apply Kd.R_drew)); exact HO275.out⟩, ⟨by repeat (first | (with_reducible first | exact HB.out | apply below_alloc | apply pw_below_drewN | apply below_drew1) | exact HB.out)⟩⟩
         ·rw [if_neg c11] at H
          exact absurd H (by simp)
        ·rw [if_neg c10] at H
         exact absurd H (by simp)
       ·rw [if_neg c9] at H
        exact absurd H (by simp)
      ·rw [if_neg c8] at H
       have c8b0 : decide (x27_2 < (l0.length : Int)) = false := decide_eq_false c8
       clear c8
       obtain rfl := Option.some.inj H
       go_wp2
       go_ret
       exact ⟨_, by first | rfl | (simp [errW_none, errW_some] <;> rfl) | (simp [*, errW_none, errW_some] <;> rfl), by (with_reducible repeat (first | apply Kd.R_alloc | apply Kd.R_drewN | apply Kd.R_drew)); exact HO_6.out, by repeat (first | (with_reducible first | exact HB.out | apply below_alloc | apply pw_below_drewN | apply below_drew1) | exact HB.out)⟩

/-! ### impl_AddrBytes: function 76 -/
def impl_AddrBytes.f (k : Nat) (a0_0 : Int) (a0_1 : Int) (a0_2 : Int) (a0_3 : Int) (a0_4 : Int) : Option (List Int) := (impl_AddrOk.f a0_0 a0_1 a0_2 a0_3 a0_4).bind fun t277 => (if t277 = true then (if a0_0 = 4 then ((impl_Put32.f k a0_4).bind fun t278 => (some t278)) else ((impl_Put32.f k a0_1).bind fun t281 => ((impl_Put32.f k a0_2).bind fun t284 => ((impl_Put32.f k a0_3).bind fun t287 => ((impl_Put32.f k a0_4).bind fun t290 => ((slices_Concat_byte_byte.f k (([t281, t284, t287, t290] : List (List Int)))).bind fun t296 => (some t296))))))) else (some ([] : List Int)))
theorem impl_AddrBytes.mono : ∀ a0 a1 a2 a3 a4 k, LeO (impl_AddrBytes.f k a0 a1 a2 a3 a4) (impl_AddrBytes.f (k + 1) a0 a1 a2 a3 a4) := by
 intro a0 a1 a2 a3 a4 k
 unfold impl_AddrBytes.f
 repeat' first
   | (with_reducible exact impl_Put32.mono _ _)
   | (with_reducible exact slices_Concat_byte_byte.mono _ _)
   | (with_reducible exact LeO.refl _)
   | (with_reducible exact LeO.none _)
   | (with_reducible refine LeO.ite ?_ ?_)
   | (with_reducible refine LeO.bind ?_ (fun _ => ?_))
   | exact impl_Put32.mono _ _
   | exact slices_Concat_byte_byte.mono _ _
   | exact LeO.none _
   | refine LeO.ite ?_ ?_
   | refine LeO.bind ?_ (fun _ => ?_)
def impl_AddrBytes.T5 : Bool × List (List Nat × List Nat) := (true, [([], []), ([0], [0]), ([1], [1]), ([], []), ([3], [3]), ([4, 2], [4]), ([], []), ([6], [6]), ([7, 5], [7]), ([], []), ([9], [9]), ([10, 8], [10]), ([2, 5, 8, 11], [2, 5, 8, 11]), ([12, 11], [12]), ([13, 13, 0, 1, 2, 3, 4, 5, 6, 7, 8, 9, 10, 11, 12, 13], [13])])
def impl_AddrBytes.B5 : List Nat := [0, 1, 3, 0, 8, 31, 0, 64, 255, 0, 512, 2047, 4095, 8191, 16383]
theorem impl_AddrBytes.tab5 : rtab .any (opsOf Try.f76 5) = impl_AddrBytes.T5 := by kernel_rfl
theorem impl_AddrBytes.bits5 : waitsOk impl_AddrBytes.T5.2 impl_AddrBytes.B5 = true := by kernel_rfl
set_option maxHeartbeats 8000000 in
set_option maxRecDepth 100000 in
theorem impl_AddrBytes.calls (k : Nat) (a0_0 : Int) (a0_1 : Int) (a0_2 : Int) (a0_3 : Int) (a0_4 : Int) (r : List Int) (w : World) (h : impl_AddrBytes.f k a0_0 a0_1 a0_2 a0_3 a0_4 = some r) :
  Calls Try.prog 76 #[.agg #[.int .i64 a0_0, .int .i64 a0_1, .int .i64 a0_2, .int .i64 a0_3, .int .i64 a0_4]] w fun e w' => ∃ v0_ : Value, e = .returned (v0_) ∧ Kd.R (Kd.int .u8) 5 w' w.heap.size (fun _ => True) v0_ r ∧ Below w.heap.size w w' := by
 have hu34 := Try.underlying34
 have HB := Gv.a0 (Below.refl w.heap.size w)
 have H : ((impl_AddrOk.f a0_0 a0_1 a0_2 a0_3 a0_4).bind fun t277 => (if t277 = true then (if a0_0 = 4 then ((impl_Put32.f k a0_4).bind fun t278 => (some t278)) else ((impl_Put32.f k a0_1).bind fun t281 => ((impl_Put32.f k a0_2).bind fun t284 => ((impl_Put32.f k a0_3).bind fun t287 => ((impl_Put32.f k a0_4).bind fun t290 => ((slices_Concat_byte_byte.f k (([t281, t284, t287, t290] : List (List Int)))).bind fun t296 => (some t296))))))) else (some ([] : List Int)))) = some r := h
 clear h
 replace H := Option.bind_eq_some_iff.mp H
 obtain ⟨t277, A20, H⟩ := H
 replace H : (if t277 = true then (if a0_0 = 4 then ((impl_Put32.f k a0_4).bind fun t278 => (some t278)) else ((impl_Put32.f k a0_1).bind fun t281 => ((impl_Put32.f k a0_2).bind fun t284 => ((impl_Put32.f k a0_3).bind fun t287 => ((impl_Put32.f k a0_4).bind fun t290 => ((slices_Concat_byte_byte.f k (([t281, t284, t287, t290] : List (List Int)))).bind fun t296 => (some t296))))))) else (some ([] : List Int))) = some r := H
 have A2 := Gv.a0 A20
 clear A20
 by_cases c3 : t277 = true
 ·subst c3
  have H1 : (if a0_0 = 4 then ((impl_Put32.f k a0_4).bind fun t278 => (some t278)) else ((impl_Put32.f k a0_1).bind fun t281 => ((impl_Put32.f k a0_2).bind fun t284 => ((impl_Put32.f k a0_3).bind fun t287 => ((impl_Put32.f k a0_4).bind fun t290 => ((slices_Concat_byte_byte.f k (([t281, t284, t287, t290] : List (List Int)))).bind fun t296 => (some t296))))))) = some r := by rw [if_pos rfl] at H; exact H
  clear H
  have H := H1
  clear H1
  by_cases c4 : a0_0 = 4
  ·rw [if_pos c4] at H
   have c4b0 : (a0_0 == 4) = true := beq_iff_eq.mpr c4
   have c4b1 : (a0_0 != 4) = false := bne_eq_false_iff_eq.mpr c4
   clear c4
   replace H := Option.bind_eq_some_iff.mp H
   obtain ⟨t278, A50, H⟩ := H
   replace H : (some t278) = some r := H
   have A5 := Gv.a0 A50
   clear A50
   obtain rfl := Option.some.inj H
   go_enter Try.func76, Try.ntmps76
   go_wp2_with (first | ((with_reducible refine gate_dst (N := 1) rfl ?_); refine box_event ?hg (N := 1) ?hd (cs := #[.int .i64 a0_0, .int .i64 a0_1, .int .i64 a0_2, .int .i64 a0_3, .int .i64 a0_4]) (t := 34) ?hr ?_; (case hd => rfl); (case hg => rfl); (case hr => first | (go_simp; done) | (go_simp; rfl)); intro gb276 hg w6 hbox hb; have n0_ := Gv.a0 (below_step Gv.bw hb); have n1_ := Gv.a0 (hbox); have n2_ := Gv.a0 ((Gv.ble hg Gv.bw : w.heap.size ≤ gb276)); have n3_ := Gv.a0 ((Gv.ble hg Gv.bw : w.heap.size ≤ gb276)); clear HB; have HB := n0_; have BK276 := n1_; have GW276 := n2_; have GE276 := n3_; clear n0_ n1_ n2_ n3_; clear hb hbox hg; obtain ⟨hcz7_0, hcz7_1, hcz7_2, hcz7_3, hcz7_4⟩ := Gv.c5 BK276.out; obtain ⟨hfz7_0, hfz7_1, hfz7_2, hfz7_3, hfz7_4⟩ := Gv.f5 BK276.out) | ((with_reducible refine gate_callee (f := 65) rfl ?_); refine goesL_ (some 5) rfl rfl Try.func65 (by kernel_rfl) rfl #[.agg #[.int .i64 a0_0, .int .i64 a0_1, .int .i64 a0_2, .int .i64 a0_3, .int .i64 a0_4]] rfl Gv.lm ?_; (with_reducible refine (impl_AddrOk.calls a0_0 a0_1 a0_2 a0_3 a0_4 true _ A2.out).mono ?_); rintro e w8 ⟨rfl, hb⟩; refine ⟨_, rfl, ?_⟩; have n0_ := Gv.a0 (Gv.bb BK276.out hb); have n1_ := Gv.a0 (below_step Gv.bw hb); clear BK276; clear HB; have BK276 := n0_; have HB := n1_; clear n0_ n1_; (try clear hb); (try clear hb2); (try clear hk); (try clear hi); obtain ⟨hcz9_0, hcz9_1, hcz9_2, hcz9_3, hcz9_4⟩ := Gv.c5 BK276.out; obtain ⟨hfz9_0, hfz9_1, hfz9_2, hfz9_3, hfz9_4⟩ := Gv.f5 BK276.out) | ((with_reducible refine gate_callee (f := 81) rfl ?_); refine goesL_ (some 13) rfl rfl Try.func81 (by kernel_rfl) rfl #[.int .i64 a0_4] rfl Gv.lm ?_; (with_reducible refine (impl_Put32.calls k a0_4 t278 _ A5.out).mono ?_); rintro e w10 ⟨v279, rfl, ho0, hb⟩; refine ⟨_, rfl, ?_⟩; have n0_ := Gv.a0 (Kd.R_lower ho0 (below_size Gv.bw)); have n1_ := Gv.a0 (Gv.bb BK276.out hb); have n2_ := Gv.a0 (below_step Gv.bw hb); clear BK276; clear HB; have HO280 := n0_; have BK276 := n1_; have HB := n2_; clear n0_ n1_ n2_; (try clear hb); (try clear hb2); (try clear hk); (try clear hi); (try clear ho0)))
   go_ret
   exact ⟨_, by first | rfl | (simp [errW_none, errW_some] <;> rfl) | (simp [*, errW_none, errW_some] <;> rfl), by (with_reducible repeat (first | apply Kd.R_alloc | apply Kd.R_drewN | apply Kd.R_drew)); exact HO280.out, by repeat (first | (with_reducible first | exact HB.out | apply below_alloc | apply pw_below_drewN | apply below_drew1 | refine below_set ?_ GE276.out) | exact HB.out)⟩
  ·rw [if_neg c4] at H
   have c4b0 : (a0_0 == 4) = false := beq_eq_false_iff_ne.mpr c4
   have c4b1 : (a0_0 != 4) = true := bne_iff_ne.mpr c4
   replace H := Option.bind_eq_some_iff.mp H
   obtain ⟨t281, A110, H⟩ := H
   replace H : ((impl_Put32.f k a0_2).bind fun t284 => ((impl_Put32.f k a0_3).bind fun t287 => ((impl_Put32.f k a0_4).bind fun t290 => ((slices_Concat_byte_byte.f k (([t281, t284, t287, t290] : List (List Int)))).bind fun t296 => (some t296))))) = some r := H
   have A11 := Gv.a0 A110
   clear A110
   replace H := Option.bind_eq_some_iff.mp H
   obtain ⟨t284, A120, H⟩ := H
   replace H : ((impl_Put32.f k a0_3).bind fun t287 => ((impl_Put32.f k a0_4).bind fun t290 => ((slices_Concat_byte_byte.f k (([t281, t284, t287, t290] : List (List Int)))).bind fun t296 => (some t296)))) = some r := H
   have A12 := Gv.a0 A120
   clear A120
   replace H := Option.bind_eq_some_iff.mp H
   obtain ⟨t287, A130, H⟩ := H
   replace H : ((impl_Put32.f k a0_4).bind fun t290 => ((slices_Concat_byte_byte.f k (([t281, t284, t287, t290] : List (List Int)))).bind fun t296 => (some t296))) = some r := H
   have A13 := Gv.a0 A130
   clear A130
   replace H := Option.bind_eq_some_iff.mp H
   obtain ⟨t290, A140, H⟩ := H
   replace H : ((slices_Concat_byte_byte.f k (([t281, t284, t287, t290] : List (List Int)))).bind fun t296 => (some t296)) = some r := H
   have A14 := Gv.a0 A140
   clear A140
   obtain ⟨y293, hy293⟩ : ∃ y_ : List (List Int), y_ = (([t281, t284, t287, t290] : List (List Int))) := ⟨_, rfl⟩
   replace H : ((slices_Concat_byte_byte.f k y293).bind fun t296 => (some t296)) = some r := by first | (rw [hy293]; with_reducible exact H) | (have H2_ := (Option.bind_some _ _).symm.trans H; rw [hy293]; with_reducible exact H2_) | (have H2_ := (Option.bind_some _ _).symm.trans H; with_reducible exact H2_) | with_reducible exact H | (rw [hy293]; exact H) | exact H
   have Ny293 := Gv.a0 hy293
   clear hy293
   replace H := Option.bind_eq_some_iff.mp H
   obtain ⟨t296, A150, H⟩ := H
   replace H : (some t296) = some r := H
   have A15 := Gv.a0 A150
   clear A150
   obtain rfl := Option.some.inj H
   go_enter Try.func76, Try.ntmps76
   try go_wp2_with (first | ((with_reducible refine gate_dst (N := 1) rfl ?_); refine box_event ?hg (N := 1) ?hd (cs := #[.int .i64 a0_0, .int .i64 a0_1, .int .i64 a0_2, .int .i64 a0_3, .int .i64 a0_4]) (t := 34) ?hr ?_; (case hd => rfl); (case hg => rfl); (case hr => first | (go_simp; done) | (go_simp; rfl)); intro gb276 hg w16 hbox hb; have n0_ := Gv.a0 (below_step Gv.bw hb); have n1_ := Gv.a0 (hbox); have n2_ := Gv.a0 ((Gv.ble hg Gv.bw : w.heap.size ≤ gb276)); have n3_ := Gv.a0 ((Gv.ble hg Gv.bw : w.heap.size ≤ gb276)); clear HB; have HB := n0_; have BK276 := n1_; have GW276 := n2_; have GE276 := n3_; clear n0_ n1_ n2_ n3_; clear hb hbox hg; obtain ⟨hcz17_0, hcz17_1, hcz17_2, hcz17_3, hcz17_4⟩ := Gv.c5 BK276.out; obtain ⟨hfz17_0, hfz17_1, hfz17_2, hfz17_3, hfz17_4⟩ := Gv.f5 BK276.out) | ((with_reducible refine gate_callee (f := 65) rfl ?_); refine goesL_ (some 5) rfl rfl Try.func65 (by kernel_rfl) rfl #[.agg #[.int .i64 a0_0, .int .i64 a0_1, .int .i64 a0_2, .int .i64 a0_3, .int .i64 a0_4]] rfl Gv.lm ?_; (with_reducible refine (impl_AddrOk.calls a0_0 a0_1 a0_2 a0_3 a0_4 true _ A2.out).mono ?_); rintro e w18 ⟨rfl, hb⟩; refine ⟨_, rfl, ?_⟩; have n0_ := Gv.a0 (Gv.bb BK276.out hb); have n1_ := Gv.a0 (below_step Gv.bw hb); clear BK276; clear HB; have BK276 := n0_; have HB := n1_; clear n0_ n1_; (try clear hb); (try clear hb2); (try clear hk); (try clear hi); obtain ⟨hcz19_0, hcz19_1, hcz19_2, hcz19_3, hcz19_4⟩ := Gv.c5 BK276.out; obtain ⟨hfz19_0, hfz19_1, hfz19_2, hfz19_3, hfz19_4⟩ := Gv.f5 BK276.out))
   have n0_ := Gv.a0 (blk_drew BK276.out)
   have n1_ := Gv.a0 (below_drew1 HB.out)
   clear BK276
   clear HB
   have BK276 := n0_
   have HB := n1_
   clear n0_ n1_
   refine start_ (n := 15) (S := fun w' => w'.cell? ⟨gb276, 0, none⟩ = some (.int .i64 a0_0) ∧ w'.cell? ⟨gb276, 1, none⟩ = some (.int .i64 a0_1) ∧ w'.cell? ⟨gb276, 2, none⟩ = some (.int .i64 a0_2) ∧ w'.cell? ⟨gb276, 3, none⟩ = some (.int .i64 a0_3) ∧ w'.cell? ⟨gb276, 4, none⟩ = some (.int .i64 a0_4)) (ds := []) #[false, false, false, false, false, false, false, false, false, false, false, false, false, false, false] (by kernel_rfl) rfl rfl ⟨(blk_cell BK276.out 0).trans rfl, (blk_cell BK276.out 1).trans rfl, (blk_cell BK276.out 2).trans rfl, (blk_cell BK276.out 3).trans rfl, (blk_cell BK276.out 4).trans rfl⟩ (fun hHeld => ?_); refine with_tabW impl_AddrBytes.tab5 impl_AddrBytes.bits5 (fun HT_ HW_ => ?_)
   generalize w18.drew = w20 at BK276 HB hHeld ⊢
   refine Gv.pu 0 (some 14) HT_ ?_
   refine Gv.pu 3 (some 17) HT_ ?_
   refine Gv.pu 6 (some 20) HT_ ?_
   refine Gv.pu 9 (some 23) HT_ ?_
   refine take_ (i := 1) (N := some 15) (v := ?_) (a' := ?_) #[true, true, false, true, false, false, true, false, false, true, false, false, false, false, false] rfl rfl (take_ofW HT_.out HW_.out (by kernel_rfl)) (fun _ _ _ h => h) (Or.inl ⟨by rfl, ?_⟩) hHeld ?_ ?_
   rotate_left
   ·rintro w' ⟨s0, s1, s2, s3, s4⟩
    go_simp
    with_reducible rfl
   rotate_left
   ·simp only [Act.put, List.setIfInBounds_toArray, List.set_cons_zero, List.set_cons_succ, i64_w, i32_w]
    rfl
   refine take_ (i := 4) (N := some 18) (v := ?_) (a' := ?_) #[true, true, false, true, true, false, true, false, false, true, false, false, false, false, false] rfl rfl (take_ofW HT_.out HW_.out (by kernel_rfl)) (fun _ _ _ h => h) (Or.inl ⟨by rfl, ?_⟩) hHeld ?_ ?_
   rotate_left
   ·rintro w' ⟨s0, s1, s2, s3, s4⟩
    go_simp
    with_reducible rfl
   rotate_left
   ·simp only [Act.put, List.setIfInBounds_toArray, List.set_cons_zero, List.set_cons_succ, i64_w, i32_w]
    rfl
   refine take_ (i := 7) (N := some 21) (v := ?_) (a' := ?_) #[true, true, false, true, true, false, true, true, false, true, false, false, false, false, false] rfl rfl (take_ofW HT_.out HW_.out (by kernel_rfl)) (fun _ _ _ h => h) (Or.inl ⟨by rfl, ?_⟩) hHeld ?_ ?_
   rotate_left
   ·rintro w' ⟨s0, s1, s2, s3, s4⟩
    go_simp
    with_reducible rfl
   rotate_left
   ·simp only [Act.put, List.setIfInBounds_toArray, List.set_cons_zero, List.set_cons_succ, i64_w, i32_w]
    rfl
   refine take_ (i := 10) (N := some 24) (v := ?_) (a' := ?_) #[true, true, false, true, true, false, true, true, false, true, true, false, false, false, false] rfl rfl (take_ofW HT_.out HW_.out (by kernel_rfl)) (fun _ _ _ h => h) (Or.inl ⟨by rfl, ?_⟩) hHeld ?_ ?_
   rotate_left
   ·rintro w' ⟨s0, s1, s2, s3, s4⟩
    go_simp
    with_reducible rfl
   rotate_left
   ·simp only [Act.put, List.setIfInBounds_toArray, List.set_cons_zero, List.set_cons_succ, i64_w, i32_w]
    rfl
   refine one_ (i := 2) (N := some 16) #[true, true, true, true, true, false, true, true, false, true, true, false, false, false, false] rfl rfl (one_of HT_.out (by kernel_rfl)) (by decide) (fun K hK => ?_)
   refine goes_ Try.func81 (by kernel_rfl) rfl #[.int .i64 a0_1] (by rfl) rfl rfl Gv.lm ?_
   with_reducible refine (impl_Put32.calls k a0_1 t281 _ A11.out).mono ?_
   rintro e w21 ⟨v282, rfl, ho0, hb⟩
   refine ⟨_, rfl, ?_⟩
   have n0_ := Gv.a0 (Kd.R_lower ho0 (below_size Gv.bw))
   have n1_ := Gv.a0 (Gv.bb BK276.out hb)
   have n2_ := Gv.a0 (below_step Gv.bw hb)
   clear BK276
   clear HB
   have HO283 := n0_
   have BK276 := n1_
   have HB := n2_
   clear n0_ n1_ n2_
   (try clear hb)
   (try clear hb2)
   (try clear hk)
   (try clear hi)
   (try clear ho0)
   refine hK.out _ _ ⟨(blk_cell BK276.out 0).trans rfl, (blk_cell BK276.out 1).trans rfl, (blk_cell BK276.out 2).trans rfl, (blk_cell BK276.out 3).trans rfl, (blk_cell BK276.out 4).trans rfl⟩ (fun hHeld => ?_)
   clear hK K
   refine norm_ (a' := ?_) ?_ ?_
   rotate_left
   ·show Act.put _ (some 16) _ = _
    simp only [Act.put, List.setIfInBounds_toArray, List.set_cons_zero, List.set_cons_succ, i64_w, i32_w]
    rfl
   refine one_ (i := 5) (N := some 19) #[true, true, true, true, true, true, true, true, false, true, true, false, false, false, false] rfl rfl (one_of HT_.out (by kernel_rfl)) (by decide) (fun K hK => ?_)
   refine goes_ Try.func81 (by kernel_rfl) rfl #[.int .i64 a0_2] (by rfl) rfl rfl Gv.lm ?_
   with_reducible refine (impl_Put32.calls k a0_2 t284 _ A12.out).mono ?_
   rintro e w22 ⟨v285, rfl, ho0, hb⟩
   refine ⟨_, rfl, ?_⟩
   have n0_ := Gv.a0 (Kd.R_elder' (Gv.kr HO283.out) (Kd.R_base ho0) hb)
   have n1_ := Gv.a0 (Kd.R_lower (Kd.R_new' ho0 (Kd.R_lt (Gv.kr HO283.out))) (below_size Gv.bw))
   have n2_ := Gv.a0 (Gv.bb BK276.out hb)
   have n3_ := Gv.a0 (below_step Gv.bw hb)
   clear HO283
   clear BK276
   clear HB
   have HO283 := n0_
   have HO286 := n1_
   have BK276 := n2_
   have HB := n3_
   clear n0_ n1_ n2_ n3_
   (try clear hb)
   (try clear hb2)
   (try clear hk)
   (try clear hi)
   (try clear ho0)
   refine hK.out _ _ ⟨(blk_cell BK276.out 0).trans rfl, (blk_cell BK276.out 1).trans rfl, (blk_cell BK276.out 2).trans rfl, (blk_cell BK276.out 3).trans rfl, (blk_cell BK276.out 4).trans rfl⟩ (fun hHeld => ?_)
   clear hK K
   refine norm_ (a' := ?_) ?_ ?_
   rotate_left
   ·show Act.put _ (some 19) _ = _
    simp only [Act.put, List.setIfInBounds_toArray, List.set_cons_zero, List.set_cons_succ, i64_w, i32_w]
    rfl
   refine one_ (i := 8) (N := some 22) #[true, true, true, true, true, true, true, true, true, true, true, false, false, false, false] rfl rfl (one_of HT_.out (by kernel_rfl)) (by decide) (fun K hK => ?_)
   refine goes_ Try.func81 (by kernel_rfl) rfl #[.int .i64 a0_3] (by rfl) rfl rfl Gv.lm ?_
   with_reducible refine (impl_Put32.calls k a0_3 t287 _ A13.out).mono ?_
   rintro e w23 ⟨v288, rfl, ho0, hb⟩
   refine ⟨_, rfl, ?_⟩
   have n0_ := Gv.a0 (Kd.R_elder' (Gv.kr HO283.out) (Kd.R_base ho0) hb)
   have n1_ := Gv.a0 (Kd.R_elder' (Gv.kr HO286.out) (Kd.R_base ho0) hb)
   have n2_ := Gv.a0 (Kd.R_lower (Kd.R_new' (Kd.R_new' ho0 (Kd.R_lt (Gv.kr HO283.out))) (Kd.R_lt (Gv.kr HO286.out))) (below_size Gv.bw))
   have n3_ := Gv.a0 (Gv.bb BK276.out hb)
   have n4_ := Gv.a0 (below_step Gv.bw hb)
   clear HO283
   clear HO286
   clear BK276
   clear HB
   have HO283 := n0_
   have HO286 := n1_
   have HO289 := n2_
   have BK276 := n3_
   have HB := n4_
   clear n0_ n1_ n2_ n3_ n4_
   (try clear hb)
   (try clear hb2)
   (try clear hk)
   (try clear hi)
   (try clear ho0)
   refine hK.out _ _ ⟨(blk_cell BK276.out 0).trans rfl, (blk_cell BK276.out 1).trans rfl, (blk_cell BK276.out 2).trans rfl, (blk_cell BK276.out 3).trans rfl, (blk_cell BK276.out 4).trans rfl⟩ (fun hHeld => ?_)
   clear hK K
   refine norm_ (a' := ?_) ?_ ?_
   rotate_left
   ·show Act.put _ (some 22) _ = _
    simp only [Act.put, List.setIfInBounds_toArray, List.set_cons_zero, List.set_cons_succ, i64_w, i32_w]
    rfl
   refine one_ (i := 11) (N := some 25) #[true, true, true, true, true, true, true, true, true, true, true, true, false, false, false] rfl rfl (one_of HT_.out (by kernel_rfl)) (by decide) (fun K hK => ?_)
   refine goes_ Try.func81 (by kernel_rfl) rfl #[.int .i64 a0_4] (by rfl) rfl rfl Gv.lm ?_
   with_reducible refine (impl_Put32.calls k a0_4 t290 _ A14.out).mono ?_
   rintro e w24 ⟨v291, rfl, ho0, hb⟩
   refine ⟨_, rfl, ?_⟩
   have n0_ := Gv.a0 (Kd.R_elder' (Gv.kr HO283.out) (Kd.R_base ho0) hb)
   have n1_ := Gv.a0 (Kd.R_elder' (Gv.kr HO286.out) (Kd.R_base ho0) hb)
   have n2_ := Gv.a0 (Kd.R_elder' (Gv.kr HO289.out) (Kd.R_base ho0) hb)
   have n3_ := Gv.a0 (Kd.R_lower (Kd.R_new' (Kd.R_new' (Kd.R_new' ho0 (Kd.R_lt (Gv.kr HO283.out))) (Kd.R_lt (Gv.kr HO286.out))) (Kd.R_lt (Gv.kr HO289.out))) (below_size Gv.bw))
   have n4_ := Gv.a0 (Gv.bb BK276.out hb)
   have n5_ := Gv.a0 (below_step Gv.bw hb)
   clear HO283
   clear HO286
   clear HO289
   clear BK276
   clear HB
   have HO283 := n0_
   have HO286 := n1_
   have HO289 := n2_
   have HO292 := n3_
   have BK276 := n4_
   have HB := n5_
   clear n0_ n1_ n2_ n3_ n4_ n5_
   (try clear hb)
   (try clear hb2)
   (try clear hk)
   (try clear hi)
   (try clear ho0)
   obtain ⟨Ao25, co25, eo25⟩ := Kd.R_slice HO283.out
   (first | subst eo25 | (injection eo25 with f1_ f2_ f3_; have f4_ := f1_.symm; have f5_ := f3_.symm; clear f1_ f2_ f3_; subst f4_; subst f5_))
   obtain ⟨Ao26, co26, eo26⟩ := Kd.R_slice HO286.out
   (first | subst eo26 | (injection eo26 with f1_ f2_ f3_; have f4_ := f1_.symm; have f5_ := f3_.symm; clear f1_ f2_ f3_; subst f4_; subst f5_))
   obtain ⟨Ao27, co27, eo27⟩ := Kd.R_slice HO289.out
   (first | subst eo27 | (injection eo27 with f1_ f2_ f3_; have f4_ := f1_.symm; have f5_ := f3_.symm; clear f1_ f2_ f3_; subst f4_; subst f5_))
   obtain ⟨Ao28, co28, eo28⟩ := Kd.R_slice HO292.out
   (first | subst eo28 | (injection eo28 with f1_ f2_ f3_; have f4_ := f1_.symm; have f5_ := f3_.symm; clear f1_ f2_ f3_; subst f4_; subst f5_))
   refine hK.out _ _ ⟨(blk_cell BK276.out 0).trans rfl, (blk_cell BK276.out 1).trans rfl, (blk_cell BK276.out 2).trans rfl, (blk_cell BK276.out 3).trans rfl, (blk_cell BK276.out 4).trans rfl⟩ (fun hHeld => ?_)
   clear hK K
   refine norm_ (a' := ?_) ?_ ?_
   rotate_left
   ·show Act.put _ (some 25) _ = _
    simp only [Act.put, List.setIfInBounds_toArray, List.set_cons_zero, List.set_cons_succ, i64_w, i32_w]
    rfl
   refine one_ (i := 12) (N := some 26) #[true, true, true, true, true, true, true, true, true, true, true, true, true, false, false] rfl rfl (one_of HT_.out (by kernel_rfl)) (by decide) (fun K hK => ?_)
   refine Kd.N_lit_step (Kd.slice 5 (Kd.int .u8)) _ 80 ?hg (N' := 26) ?hd (xs := ([t281, t284, t287, t290] : List (List Int))) (inner := [.slice Ao25 t281.length co25, .slice Ao26 t284.length co26, .slice Ao27 t287.length co27, .slice Ao28 t290.length co28]) (ok := (fun k_ => k_ ≠ gb276)) (okp := (fun k_ => k_ ≠ gb276)) ?hr ?hp (fun _ hk => hk) ((show ∀ k_, w24.heap.size ≤ k_ → (fun k_ => k_ ≠ gb276) k_ from fun k_ hk => Kd.freshB (g := gb276) (o := .cells #[.int .i64 a0_0, .int .i64 a0_1, .int .i64 a0_2, .int .i64 a0_3, .int .i64 a0_4] 34 (0, 0)) Gv.bk k_ hk) _ (Nat.le_refl _)) (Below.refl _ _) (Nat.le_refl _) (by simp) ?_; (case hd => rfl); (case hg => rfl); (case hr => first | (go_simp; done) | (go_simp; rfl)); (case hp => exact (Reps.one (show Kd.FK (Kd.slice 5 (Kd.int .u8)) _ _ t281 [.slice Ao25 t281.length co25] from (Kd.FK_slice_mk (Kd.R_reads' (Kd.R_mono (ok' := (fun k_ => k_ ≠ gb276)) (Kd.R_types (HO283.out) BK276.out (by decide)) (fun k_ hk => hk.2))).2.1 (Kd.R_F (Kd.R_mono (ok' := (fun k_ => k_ ≠ gb276)) (Kd.R_types (HO283.out) BK276.out (by decide)) (fun k_ hk => hk.2))))) (Reps.one (show Kd.FK (Kd.slice 5 (Kd.int .u8)) _ _ t284 [.slice Ao26 t284.length co26] from (Kd.FK_slice_mk (Kd.R_reads' (Kd.R_mono (ok' := (fun k_ => k_ ≠ gb276)) (Kd.R_types (HO286.out) BK276.out (by decide)) (fun k_ hk => hk.2))).2.1 (Kd.R_F (Kd.R_mono (ok' := (fun k_ => k_ ≠ gb276)) (Kd.R_types (HO286.out) BK276.out (by decide)) (fun k_ hk => hk.2))))) (Reps.one (show Kd.FK (Kd.slice 5 (Kd.int .u8)) _ _ t287 [.slice Ao27 t287.length co27] from (Kd.FK_slice_mk (Kd.R_reads' (Kd.R_mono (ok' := (fun k_ => k_ ≠ gb276)) (Kd.R_types (HO289.out) BK276.out (by decide)) (fun k_ hk => hk.2))).2.1 (Kd.R_F (Kd.R_mono (ok' := (fun k_ => k_ ≠ gb276)) (Kd.R_types (HO289.out) BK276.out (by decide)) (fun k_ hk => hk.2))))) (Reps.one (show Kd.FK (Kd.slice 5 (Kd.int .u8)) _ _ t290 [.slice Ao28 t290.length co28] from (Kd.FK_slice_mk (Kd.R_reads' (Kd.R_mono (ok' := (fun k_ => k_ ≠ gb276)) (Kd.R_types (HO292.out) BK276.out (by decide)) (fun k_ hk => hk.2))).2.1 (Kd.R_F (Kd.R_mono (ok' := (fun k_ => k_ ≠ gb276)) (Kd.R_types (HO292.out) BK276.out (by decide)) (fun k_ hk => hk.2))))) (Reps.none _ _))))))
   intro v294 w29 ho30 hb hg_ hnew_
   clear hg_ hnew_
   (first | rw [← Ny293.out] at ho30 | (simp only [Int.reduceToNat] at ho30; rw [← Ny293.out] at ho30))
   have n0_ := Gv.a0 (Kd.N_lower ho30 (below_size Gv.bw))
   have n1_ := Gv.a0 (Gv.bb BK276.out hb)
   have n2_ := Gv.a0 (below_step Gv.bw hb)
   clear BK276
   clear HB
   clear HO283
   clear HO286
   clear HO289
   clear HO292
   have HO295 := n0_
   have BK276 := n1_
   have HB := n2_
   clear n0_ n1_ n2_
   clear hb ho30
   obtain ⟨Ao31, co31, eo31⟩ := Kd.N_slice HO295.out
   (first | subst eo31 | (injection eo31 with f1_ f2_ f3_; have f4_ := f1_.symm; have f5_ := f3_.symm; clear f1_ f2_ f3_; subst f4_; subst f5_))
   refine hK.out _ _ ⟨(blk_cell BK276.out 0).trans rfl, (blk_cell BK276.out 1).trans rfl, (blk_cell BK276.out 2).trans rfl, (blk_cell BK276.out 3).trans rfl, (blk_cell BK276.out 4).trans rfl⟩ (fun hHeld => ?_)
   clear hK K
   refine norm_ (a' := ?_) ?_ ?_
   rotate_left
   ·show Act.put _ (some 26) _ = _
    simp only [Act.put, List.setIfInBounds_toArray, List.set_cons_zero, List.set_cons_succ, i64_w, i32_w]
    rfl
   refine one_ (i := 13) (N := some 27) #[true, true, true, true, true, true, true, true, true, true, true, true, true, true, false] rfl rfl (one_of HT_.out (by kernel_rfl)) (by decide) (fun K hK => ?_)
   refine goes_ Try.func82 (by kernel_rfl) rfl #[.slice Ao31 y293.length co31] (by rfl) rfl rfl Gv.lm ?_
   with_reducible refine (slices_Concat_byte_byte.calls k _ _ y293 t296 _ ?side1 ?side2 A15.out).mono ?_
   (case side1 => repeat (first | exact (Kd.N_reads' HO295.out).2.2 | (with_reducible refine Kd.C_alloc ?_ _) | (with_reducible refine Kd.C_drewN ?_ _) | (with_reducible refine Kd.C_drew ?_)))
   (case side2 => exact (Kd.N_reads' HO295.out).2.1)
   rintro e w32 ⟨v297, rfl, ho0, hb⟩
   refine ⟨_, rfl, ?_⟩
   have n0_ := Gv.a0 (Kd.N_elder' (by (with_reducible repeat (first | apply Kd.N_alloc | apply Kd.N_drewN | apply Kd.N_drew)); exact HO295.out) (Kd.R_base ho0) hb)
   have n1_ := Gv.a0 (Kd.R_lower ho0 (below_size Gv.bw))
   have n2_ := Gv.a0 (Gv.bb BK276.out hb)
   have n3_ := Gv.a0 (below_step Gv.bw hb)
   clear HO295
   clear BK276
   clear HB
   have HO295 := n0_
   have HO298 := n1_
   have BK276 := n2_
   have HB := n3_
   clear n0_ n1_ n2_ n3_
   (try clear hb)
   (try clear hb2)
   (try clear hk)
   (try clear hi)
   (try clear ho0)
   refine hK.out _ _ ⟨(blk_cell BK276.out 0).trans rfl, (blk_cell BK276.out 1).trans rfl, (blk_cell BK276.out 2).trans rfl, (blk_cell BK276.out 3).trans rfl, (blk_cell BK276.out 4).trans rfl⟩ (fun hHeld => ?_)
   clear hK K
   refine norm_ (a' := ?_) ?_ ?_
   rotate_left
   ·show Act.put _ (some 27) _ = _
    simp only [Act.put, List.setIfInBounds_toArray, List.set_cons_zero, List.set_cons_succ, i64_w, i32_w]
    rfl
   refine Gv.pu 14 (some 2) HT_ ?_
   refine done_ (done_of HT_.out (by kernel_rfl)) ?_
   try go_wp2
   go_ret
   exact ⟨_, by first | rfl | (simp [errW_none, errW_some] <;> rfl) | (simp [*, errW_none, errW_some] <;> rfl), by (with_reducible repeat (first | apply Kd.R_alloc | apply Kd.R_drewN | apply Kd.R_drew)); exact HO298.out, by repeat (first | (with_reducible first | exact HB.out | apply below_alloc | apply pw_below_drewN | apply below_drew1 | refine below_set ?_ GE276.out) | exact HB.out)⟩
 ·replace c3 := Bool.eq_false_iff.mpr c3
  subst c3
  have H1 : (some ([] : List Int)) = some r := by rw [if_neg (show ¬ (false = true) by decide)] at H; exact H
  clear H
  have H := H1
  clear H1
  obtain rfl := Option.some.inj H
  go_enter Try.func76, Try.ntmps76
  go_wp2_with (first | ((with_reducible refine gate_dst (N := 1) rfl ?_); refine box_event ?hg (N := 1) ?hd (cs := #[.int .i64 a0_0, .int .i64 a0_1, .int .i64 a0_2, .int .i64 a0_3, .int .i64 a0_4]) (t := 34) ?hr ?_; (case hd => rfl); (case hg => rfl); (case hr => first | (go_simp; done) | (go_simp; rfl)); intro gb276 hg w33 hbox hb; have n0_ := Gv.a0 (below_step Gv.bw hb); have n1_ := Gv.a0 (hbox); have n2_ := Gv.a0 ((Gv.ble hg Gv.bw : w.heap.size ≤ gb276)); have n3_ := Gv.a0 ((Gv.ble hg Gv.bw : w.heap.size ≤ gb276)); clear HB; have HB := n0_; have BK276 := n1_; have GW276 := n2_; have GE276 := n3_; clear n0_ n1_ n2_ n3_; clear hb hbox hg; obtain ⟨hcz34_0, hcz34_1, hcz34_2, hcz34_3, hcz34_4⟩ := Gv.c5 BK276.out; obtain ⟨hfz34_0, hfz34_1, hfz34_2, hfz34_3, hfz34_4⟩ := Gv.f5 BK276.out) | ((with_reducible refine gate_callee (f := 65) rfl ?_); refine goesL_ (some 5) rfl rfl Try.func65 (by kernel_rfl) rfl #[.agg #[.int .i64 a0_0, .int .i64 a0_1, .int .i64 a0_2, .int .i64 a0_3, .int .i64 a0_4]] rfl Gv.lm ?_; (with_reducible refine (impl_AddrOk.calls a0_0 a0_1 a0_2 a0_3 a0_4 false _ A2.out).mono ?_); rintro e w35 ⟨rfl, hb⟩; refine ⟨_, rfl, ?_⟩; have n0_ := Gv.a0 (Gv.bb BK276.out hb); have n1_ := Gv.a0 (below_step Gv.bw hb); clear BK276; clear HB; have BK276 := n0_; have HB := n1_; clear n0_ n1_; (try clear hb); (try clear hb2); (try clear hk); (try clear hi)))
  go_ret
  exact ⟨_, by first | rfl | (simp [errW_none, errW_some] <;> rfl) | (simp [*, errW_none, errW_some] <;> rfl), by first | exact Kd.R_nil _ _ _ _ _ | exact Kd.N_nil _ _ _ _ _ | exact Kd.V_nil _ _ _ _ _ | exact Kd.Q_nil _ _ _ _ _ | exact Kd.S_nil _ _ _ _ _, by repeat (first | (with_reducible first | exact HB.out | apply below_alloc | apply pw_below_drewN | apply below_drew1 | refine below_set ?_ GE276.out) | exact HB.out)⟩

end Go.Proofs.Ytbihbbkdciebhaa.PRo
