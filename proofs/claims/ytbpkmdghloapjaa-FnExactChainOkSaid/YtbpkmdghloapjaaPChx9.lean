/- Plain Lean functions of a law's Go functions, their contracts, by a program of this session (wip/pr.py over the kit's print). -/
import Derived.Test.YtbpkmdghloapjaaPChx0
import Derived.Test.YtbpkmdghloapjaaPChx4
import Derived.Test.YtbpkmdghloapjaaPChx6
import Derived.Test.YtbpkmdghloapjaaPChx8
namespace Go.Proofs.Ytbpkmdghloapjaa.PCh
open Go.RowKit Go.Proofs.YtbpkmdghloapjaaW.PrintWords Go.Proofs.YtbpkmdghloapjaaW.PrintLast Go.Proofs.YtbpkmdghloapjaaW.PrintMore
attribute [local go_sem] max2_int min2_int max_two min_two max_three min_three max_four min_four   -- for this text's walks alone
set_option linter.unusedVariables false
set_option linter.unusedSimpArgs false

/-! ### laws_eqModuleS: function 20 -/
def laws_eqModuleS.l0 : Nat → List (S38) → List (S38) → Int → Option (Bool)
 | 0, _, _, _ => none
 | k + 1, x0, x1, x5 => if x5 < (x0.length : Int) then (if 0 ≤ x5 then (if x5 < (x1.length : Int) then ((laws_eqModule.f ((rd_T38 x0 x5).f0) ((rd_T38 x0 x5).f1.f0.f0) ((rd_T38 x0 x5).f1.f0.f1) ((rd_T38 x0 x5).f1.f0.f2) ((rd_T38 x0 x5).f1.f0.f3) ((rd_T38 x0 x5).f1.f0.f4) ((rd_T38 x0 x5).f1.f1) ((rd_T38 x0 x5).f2.f0.f0) ((rd_T38 x0 x5).f2.f0.f1) ((rd_T38 x0 x5).f2.f0.f2) ((rd_T38 x0 x5).f2.f0.f3) ((rd_T38 x0 x5).f2.f0.f4) ((rd_T38 x0 x5).f2.f1) ((rd_T38 x0 x5).f3) ((rd_T38 x0 x5).f4) ((rd_T38 x0 x5).f5) ((rd_T38 x0 x5).f6) ((rd_T38 x1 x5).f0) ((rd_T38 x1 x5).f1.f0.f0) ((rd_T38 x1 x5).f1.f0.f1) ((rd_T38 x1 x5).f1.f0.f2) ((rd_T38 x1 x5).f1.f0.f3) ((rd_T38 x1 x5).f1.f0.f4) ((rd_T38 x1 x5).f1.f1) ((rd_T38 x1 x5).f2.f0.f0) ((rd_T38 x1 x5).f2.f0.f1) ((rd_T38 x1 x5).f2.f0.f2) ((rd_T38 x1 x5).f2.f0.f3) ((rd_T38 x1 x5).f2.f0.f4) ((rd_T38 x1 x5).f2.f1) ((rd_T38 x1 x5).f3) ((rd_T38 x1 x5).f4) ((rd_T38 x1 x5).f5) ((rd_T38 x1 x5).f6)).bind fun t370 => (if t370 = true then (laws_eqModuleS.l0 k x0 x1 (wrap64 (x5 + 1))) else (none))) else (none)) else (none)) else (some true)
def laws_eqModuleS.f (k : Nat) (l0 : List (S38)) (l1 : List (S38)) : Option (Bool) := if (l0.length : Int) = (l1.length : Int) then (laws_eqModuleS.l0 k l0 l1 0) else (none)
theorem laws_eqModuleS.mono_l : ∀ k, (∀ y0 y1 y2, LeO (laws_eqModuleS.l0 k y0 y1 y2) (laws_eqModuleS.l0 (k + 1) y0 y1 y2))
 | 0 => fun _ _ _ r h => by simp [laws_eqModuleS.l0] at h
 | k + 1 => by
  have ih0 := laws_eqModuleS.mono_l k
  ·intro y0 y1 y2
   unfold laws_eqModuleS.l0
   repeat' first
   | (with_reducible exact ih0 _ _ _)
   | (with_reducible exact LeO.refl _)
   | (with_reducible exact LeO.none _)
   | (with_reducible refine LeO.ite ?_ ?_)
   | (with_reducible refine LeO.bind ?_ (fun _ => ?_))
   | exact ih0 _ _ _
   | exact LeO.none _
   | refine LeO.ite ?_ ?_
   | refine LeO.bind ?_ (fun _ => ?_)
theorem laws_eqModuleS.mono : ∀ a0 a1 k, LeO (laws_eqModuleS.f k a0 a1) (laws_eqModuleS.f (k + 1) a0 a1) := by
 intro a0 a1 k
 have ih0 := laws_eqModuleS.mono_l k
 unfold laws_eqModuleS.f
 repeat' first
   | (with_reducible exact ih0 _ _ _)
   | (with_reducible exact LeO.refl _)
   | (with_reducible exact LeO.none _)
   | (with_reducible refine LeO.ite ?_ ?_)
   | (with_reducible refine LeO.bind ?_ (fun _ => ?_))
   | exact ih0 _ _ _
   | exact LeO.none _
   | refine LeO.ite ?_ ?_
   | refine LeO.bind ?_ (fun _ => ?_)
def laws_eqModuleS.T6 : Bool × List (List Nat × List Nat) := (true, [([], []), ([], []), ([0, 1], [0, 1]), ([2], [2]), ([], []), ([], []), ([4, 5], [4, 5]), ([6], [6]), ([3, 7], [3, 7]), ([8], [8])])
def laws_eqModuleS.B6 : List Nat := [0, 0, 3, 7, 0, 0, 48, 112, 255, 511]
theorem laws_eqModuleS.tab6 : rtab .any (opsOf Try.f20 6) = laws_eqModuleS.T6 := by kernel_rfl
theorem laws_eqModuleS.bits6 : waitsOk laws_eqModuleS.T6.2 laws_eqModuleS.B6 = true := by kernel_rfl
set_option maxHeartbeats 8000000 in
set_option maxRecDepth 100000 in
theorem laws_eqModuleS.calls (k : Nat) (A0 : Option Addr) (c0 : Nat) (l0 : List (S38)) (A1 : Option Addr) (c1 : Nat) (l1 : List (S38)) (r : Bool) (w : World) (hr0 : Kd.C k38 w A0 l0.length l0) (hc0 : l0.length ≤ c0) (hr1 : Kd.C k38 w A1 l1.length l1) (hc1 : l1.length ≤ c1) (h : laws_eqModuleS.f k l0 l1 = some r) :
  Calls Try.prog 20 #[.slice A0 l0.length c0, .slice A1 l1.length c1] w fun e w' => e = .returned (.bool r) ∧ Below w.heap.size w w' := by
 have hu38 := Try.underlying38
 have HR0 := Gv.a0 hr0
 have HC0 := Gv.a0 hc0
 clear hr0 hc0
 have HR1 := Gv.a0 hr1
 have HC1 := Gv.a0 hc1
 clear hr1 hc1
 have HB := Gv.a0 (Below.refl w.heap.size w)
 have H : (if (l0.length : Int) = (l1.length : Int) then (laws_eqModuleS.l0 k l0 l1 0) else (none)) = some r := h
 clear h
 by_cases c3 : (l0.length : Int) = (l1.length : Int)
 ·rw [if_pos c3] at H
  have c3b0 : ((l0.length : Int) == (l1.length : Int)) = true := beq_iff_eq.mpr c3
  have c3b1 : ((l0.length : Int) != (l1.length : Int)) = false := bne_eq_false_iff_eq.mpr c3
  have c3b2 : (l0.length == l1.length) = true := by first | simpa using c3 | (simp at c3 ⊢; omega)
  clear c3
  have H' := Gv.a0 H
  clear H
  go_enter Try.func20, Try.ntmps20
  go_wp2
  go_loopg [5] k (fun kq v5 w' => ∃ (x5_1 : Int), v5 = .int .i64 x5_1 ∧ Aside0 (laws_eqModuleS.l0 kq l0 l1 x5_1 = some r) ∧ Aside0 (kq ≤ k) ∧ Aside0 (Below w.heap.size w w'))
  case atStart => exact ⟨(0), (by first | rfl | (simp; done) | (simp [Int.tdiv_eq_ediv_of_nonneg]; done) | (simp [*]; done)), H', ⟨Nat.le_refl _⟩, ⟨by repeat (first | (with_reducible first | exact HB.out | apply below_alloc | apply pw_below_drewN | apply below_drew1) | exact HB.out)⟩⟩
  case round =>
   clear H'
   try clear c1
   try clear c2
   try clear p2
   try clear c3
   try clear c3b0
   try clear c3b1
   try clear c3b2
   obtain ⟨x5_1, rfl, HA, HK1, HB⟩ := hrel
   cases gk with
   | zero => exact absurd HA.out (by simp [laws_eqModuleS.l0])
   | succ k1 =>
    have H := HA.out
    clear HA
    simp only [laws_eqModuleS.l0] at H
    by_cases c4 : x5_1 < (l0.length : Int)
    ·rw [if_pos c4] at H
     have c4b0 : decide (x5_1 < (l0.length : Int)) = true := decide_eq_true c4
     clear c4
     by_cases c5 : 0 ≤ x5_1
     ·rw [if_pos c5] at H
      have c5b0 : decide (0 ≤ x5_1) = true := decide_eq_true c5
      clear c5
      by_cases c6 : x5_1 < (l1.length : Int)
      ·rw [if_pos c6] at H
       have c6b0 : decide (x5_1 < (l1.length : Int)) = true := decide_eq_true c6
       clear c6
       replace H := Option.bind_eq_some_iff.mp H
       obtain ⟨t370, A70, H⟩ := H
       replace H : (if t370 = true then (laws_eqModuleS.l0 k1 l0 l1 (wrap64 (x5_1 + 1))) else (none)) = some r := H
       have A7 := Gv.a0 A70
       clear A70
       by_cases c8 : t370 = true
       ·subst c8
        have H1 : (laws_eqModuleS.l0 k1 l0 l1 (wrap64 (x5_1 + 1))) = some r := by rw [if_pos rfl] at H; exact H
        clear H
        have H := H1
        clear H1
        have H' := Gv.a0 H
        clear H
        try go_wp2
        have n0_ := Gv.a0 (below_drew1 HB.out)
        clear HB
        have HB := n0_
        clear n0_
        have p368 : 0 ≤ (x5_1 : Int) := of_decide_eq_true (by first | (with_reducible assumption) | assumption)
        have q368 : x5_1 < (l0.length : Int) := of_decide_eq_true (by first | (with_reducible assumption) | assumption)
        obtain ⟨ad368, e368, hx368_0, hx368_1, hx368_2, hx368_3, hx368_4, hx368_5, hx368_6, hx368_7, hx368_8, hx368_9, hx368_10, hx368_11, hx368_12, hx368_13, hx368_14, hx368_15, hx368_16⟩ := at_T38 HR0.out x5_1 p368 q368
        have hw368_16 := hx368_16
        have hw368_15 := hx368_15
        have hw368_14 := hx368_14
        have hw368_13 := hx368_13
        have hw368_12 := hx368_12
        have hw368_11 := hx368_11
        have hw368_10 := hx368_10
        have hw368_9 := hx368_9
        have hw368_8 := hx368_8
        have hw368_7 := hx368_7
        have hw368_6 := hx368_6
        have hw368_5 := hx368_5
        have hw368_4 := hx368_4
        have hw368_3 := hx368_3
        have hw368_2 := hx368_2
        have hw368_1 := hx368_1
        have hw368_0 := hx368_0
        cases e368
        replace hx368_0 := Gv.bx HB.out hx368_0
        replace hx368_1 := Gv.bx HB.out hx368_1
        replace hx368_2 := Gv.bx HB.out hx368_2
        replace hx368_3 := Gv.bx HB.out hx368_3
        replace hx368_4 := Gv.bx HB.out hx368_4
        replace hx368_5 := Gv.bx HB.out hx368_5
        replace hx368_6 := Gv.bx HB.out hx368_6
        replace hx368_7 := Gv.bx HB.out hx368_7
        replace hx368_8 := Gv.bx HB.out hx368_8
        replace hx368_9 := Gv.bx HB.out hx368_9
        replace hx368_10 := Gv.bx HB.out hx368_10
        replace hx368_11 := Gv.bx HB.out hx368_11
        replace hx368_12 := Gv.bx HB.out hx368_12
        replace hx368_13 := Gv.bx HB.out hx368_13
        replace hx368_14 := Gv.bx HB.out hx368_14
        replace hx368_15 := Gv.bx HB.out hx368_15
        replace hx368_16 := Gv.bx HB.out hx368_16
        replace p368 := eq_true p368
        replace q368 := eq_true q368
        have p369 : 0 ≤ (x5_1 : Int) := of_decide_eq_true (by first | (with_reducible assumption) | assumption)
        have q369 : x5_1 < (l1.length : Int) := of_decide_eq_true (by first | (with_reducible assumption) | assumption)
        obtain ⟨ad369, e369, hx369_0, hx369_1, hx369_2, hx369_3, hx369_4, hx369_5, hx369_6, hx369_7, hx369_8, hx369_9, hx369_10, hx369_11, hx369_12, hx369_13, hx369_14, hx369_15, hx369_16⟩ := at_T38 HR1.out x5_1 p369 q369
        have hw369_16 := hx369_16
        have hw369_15 := hx369_15
        have hw369_14 := hx369_14
        have hw369_13 := hx369_13
        have hw369_12 := hx369_12
        have hw369_11 := hx369_11
        have hw369_10 := hx369_10
        have hw369_9 := hx369_9
        have hw369_8 := hx369_8
        have hw369_7 := hx369_7
        have hw369_6 := hx369_6
        have hw369_5 := hx369_5
        have hw369_4 := hx369_4
        have hw369_3 := hx369_3
        have hw369_2 := hx369_2
        have hw369_1 := hx369_1
        have hw369_0 := hx369_0
        cases e369
        replace hx369_0 := Gv.bx HB.out hx369_0
        replace hx369_1 := Gv.bx HB.out hx369_1
        replace hx369_2 := Gv.bx HB.out hx369_2
        replace hx369_3 := Gv.bx HB.out hx369_3
        replace hx369_4 := Gv.bx HB.out hx369_4
        replace hx369_5 := Gv.bx HB.out hx369_5
        replace hx369_6 := Gv.bx HB.out hx369_6
        replace hx369_7 := Gv.bx HB.out hx369_7
        replace hx369_8 := Gv.bx HB.out hx369_8
        replace hx369_9 := Gv.bx HB.out hx369_9
        replace hx369_10 := Gv.bx HB.out hx369_10
        replace hx369_11 := Gv.bx HB.out hx369_11
        replace hx369_12 := Gv.bx HB.out hx369_12
        replace hx369_13 := Gv.bx HB.out hx369_13
        replace hx369_14 := Gv.bx HB.out hx369_14
        replace hx369_15 := Gv.bx HB.out hx369_15
        replace hx369_16 := Gv.bx HB.out hx369_16
        replace p369 := eq_true p369
        replace q369 := eq_true q369
        refine start_ (n := 10) (S := fun w' => w'.cell? (ad368.add ((x5_1).toNat * 17)) = some (.int .i64 ((rd_T38 l0 x5_1).f0)) ∧ w'.cell? ⟨(ad368.add ((x5_1).toNat * 17)).block, (ad368.add ((x5_1).toNat * 17)).off + 1, none⟩ = some (.int .i64 ((rd_T38 l0 x5_1).f1.f0.f0)) ∧ w'.cell? ⟨(ad368.add ((x5_1).toNat * 17)).block, (ad368.add ((x5_1).toNat * 17)).off + 2, none⟩ = some (.int .i64 ((rd_T38 l0 x5_1).f1.f0.f1)) ∧ w'.cell? ⟨(ad368.add ((x5_1).toNat * 17)).block, (ad368.add ((x5_1).toNat * 17)).off + 3, none⟩ = some (.int .i64 ((rd_T38 l0 x5_1).f1.f0.f2)) ∧ w'.cell? ⟨(ad368.add ((x5_1).toNat * 17)).block, (ad368.add ((x5_1).toNat * 17)).off + 4, none⟩ = some (.int .i64 ((rd_T38 l0 x5_1).f1.f0.f3)) ∧ w'.cell? ⟨(ad368.add ((x5_1).toNat * 17)).block, (ad368.add ((x5_1).toNat * 17)).off + 5, none⟩ = some (.int .i64 ((rd_T38 l0 x5_1).f1.f0.f4)) ∧ w'.cell? ⟨(ad368.add ((x5_1).toNat * 17)).block, (ad368.add ((x5_1).toNat * 17)).off + 6, none⟩ = some (.int .i64 ((rd_T38 l0 x5_1).f1.f1)) ∧ w'.cell? ⟨(ad368.add ((x5_1).toNat * 17)).block, (ad368.add ((x5_1).toNat * 17)).off + 7, none⟩ = some (.int .i64 ((rd_T38 l0 x5_1).f2.f0.f0)) ∧ w'.cell? ⟨(ad368.add ((x5_1).toNat * 17)).block, (ad368.add ((x5_1).toNat * 17)).off + 8, none⟩ = some (.int .i64 ((rd_T38 l0 x5_1).f2.f0.f1)) ∧ w'.cell? ⟨(ad368.add ((x5_1).toNat * 17)).block, (ad368.add ((x5_1).toNat * 17)).off + 9, none⟩ = some (.int .i64 ((rd_T38 l0 x5_1).f2.f0.f2)) ∧ w'.cell? ⟨(ad368.add ((x5_1).toNat * 17)).block, (ad368.add ((x5_1).toNat * 17)).off + 10, none⟩ = some (.int .i64 ((rd_T38 l0 x5_1).f2.f0.f3)) ∧ w'.cell? ⟨(ad368.add ((x5_1).toNat * 17)).block, (ad368.add ((x5_1).toNat * 17)).off + 11, none⟩ = some (.int .i64 ((rd_T38 l0 x5_1).f2.f0.f4)) ∧ w'.cell? ⟨(ad368.add ((x5_1).toNat * 17)).block, (ad368.add ((x5_1).toNat * 17)).off + 12, none⟩ = some (.int .i64 ((rd_T38 l0 x5_1).f2.f1)) ∧ w'.cell? ⟨(ad368.add ((x5_1).toNat * 17)).block, (ad368.add ((x5_1).toNat * 17)).off + 13, none⟩ = some (.int .i64 ((rd_T38 l0 x5_1).f3)) ∧ w'.cell? ⟨(ad368.add ((x5_1).toNat * 17)).block, (ad368.add ((x5_1).toNat * 17)).off + 14, none⟩ = some (.int .i64 ((rd_T38 l0 x5_1).f4)) ∧ w'.cell? ⟨(ad368.add ((x5_1).toNat * 17)).block, (ad368.add ((x5_1).toNat * 17)).off + 15, none⟩ = some (.int .i64 ((rd_T38 l0 x5_1).f5)) ∧ w'.cell? ⟨(ad368.add ((x5_1).toNat * 17)).block, (ad368.add ((x5_1).toNat * 17)).off + 16, none⟩ = some (.int .i64 ((rd_T38 l0 x5_1).f6)) ∧ w'.cell? (ad369.add ((x5_1).toNat * 17)) = some (.int .i64 ((rd_T38 l1 x5_1).f0)) ∧ w'.cell? ⟨(ad369.add ((x5_1).toNat * 17)).block, (ad369.add ((x5_1).toNat * 17)).off + 1, none⟩ = some (.int .i64 ((rd_T38 l1 x5_1).f1.f0.f0)) ∧ w'.cell? ⟨(ad369.add ((x5_1).toNat * 17)).block, (ad369.add ((x5_1).toNat * 17)).off + 2, none⟩ = some (.int .i64 ((rd_T38 l1 x5_1).f1.f0.f1)) ∧ w'.cell? ⟨(ad369.add ((x5_1).toNat * 17)).block, (ad369.add ((x5_1).toNat * 17)).off + 3, none⟩ = some (.int .i64 ((rd_T38 l1 x5_1).f1.f0.f2)) ∧ w'.cell? ⟨(ad369.add ((x5_1).toNat * 17)).block, (ad369.add ((x5_1).toNat * 17)).off + 4, none⟩ = some (.int .i64 ((rd_T38 l1 x5_1).f1.f0.f3)) ∧ w'.cell? ⟨(ad369.add ((x5_1).toNat * 17)).block, (ad369.add ((x5_1).toNat * 17)).off + 5, none⟩ = some (.int .i64 ((rd_T38 l1 x5_1).f1.f0.f4)) ∧ w'.cell? ⟨(ad369.add ((x5_1).toNat * 17)).block, (ad369.add ((x5_1).toNat * 17)).off + 6, none⟩ = some (.int .i64 ((rd_T38 l1 x5_1).f1.f1)) ∧ w'.cell? ⟨(ad369.add ((x5_1).toNat * 17)).block, (ad369.add ((x5_1).toNat * 17)).off + 7, none⟩ = some (.int .i64 ((rd_T38 l1 x5_1).f2.f0.f0)) ∧ w'.cell? ⟨(ad369.add ((x5_1).toNat * 17)).block, (ad369.add ((x5_1).toNat * 17)).off + 8, none⟩ = some (.int .i64 ((rd_T38 l1 x5_1).f2.f0.f1)) ∧ w'.cell? ⟨(ad369.add ((x5_1).toNat * 17)).block, (ad369.add ((x5_1).toNat * 17)).off + 9, none⟩ = some (.int .i64 ((rd_T38 l1 x5_1).f2.f0.f2)) ∧ w'.cell? ⟨(ad369.add ((x5_1).toNat * 17)).block, (ad369.add ((x5_1).toNat * 17)).off + 10, none⟩ = some (.int .i64 ((rd_T38 l1 x5_1).f2.f0.f3)) ∧ w'.cell? ⟨(ad369.add ((x5_1).toNat * 17)).block, (ad369.add ((x5_1).toNat * 17)).off + 11, none⟩ = some (.int .i64 ((rd_T38 l1 x5_1).f2.f0.f4)) ∧ w'.cell? ⟨(ad369.add ((x5_1).toNat * 17)).block, (ad369.add ((x5_1).toNat * 17)).off + 12, none⟩ = some (.int .i64 ((rd_T38 l1 x5_1).f2.f1)) ∧ w'.cell? ⟨(ad369.add ((x5_1).toNat * 17)).block, (ad369.add ((x5_1).toNat * 17)).off + 13, none⟩ = some (.int .i64 ((rd_T38 l1 x5_1).f3)) ∧ w'.cell? ⟨(ad369.add ((x5_1).toNat * 17)).block, (ad369.add ((x5_1).toNat * 17)).off + 14, none⟩ = some (.int .i64 ((rd_T38 l1 x5_1).f4)) ∧ w'.cell? ⟨(ad369.add ((x5_1).toNat * 17)).block, (ad369.add ((x5_1).toNat * 17)).off + 15, none⟩ = some (.int .i64 ((rd_T38 l1 x5_1).f5)) ∧ w'.cell? ⟨(ad369.add ((x5_1).toNat * 17)).block, (ad369.add ((x5_1).toNat * 17)).off + 16, none⟩ = some (.int .i64 ((rd_T38 l1 x5_1).f6))) (ds := []) #[false, false, false, false, false, false, false, false, false, false] (by kernel_rfl) rfl rfl ⟨(Gv.bx HB.out hw368_0), (Gv.bx HB.out hw368_1), (Gv.bx HB.out hw368_2), (Gv.bx HB.out hw368_3), (Gv.bx HB.out hw368_4), (Gv.bx HB.out hw368_5), (Gv.bx HB.out hw368_6), (Gv.bx HB.out hw368_7), (Gv.bx HB.out hw368_8), (Gv.bx HB.out hw368_9), (Gv.bx HB.out hw368_10), (Gv.bx HB.out hw368_11), (Gv.bx HB.out hw368_12), (Gv.bx HB.out hw368_13), (Gv.bx HB.out hw368_14), (Gv.bx HB.out hw368_15), (Gv.bx HB.out hw368_16), (Gv.bx HB.out hw369_0), (Gv.bx HB.out hw369_1), (Gv.bx HB.out hw369_2), (Gv.bx HB.out hw369_3), (Gv.bx HB.out hw369_4), (Gv.bx HB.out hw369_5), (Gv.bx HB.out hw369_6), (Gv.bx HB.out hw369_7), (Gv.bx HB.out hw369_8), (Gv.bx HB.out hw369_9), (Gv.bx HB.out hw369_10), (Gv.bx HB.out hw369_11), (Gv.bx HB.out hw369_12), (Gv.bx HB.out hw369_13), (Gv.bx HB.out hw369_14), (Gv.bx HB.out hw369_15), (Gv.bx HB.out hw369_16)⟩ (fun hHeld => ?_); refine with_tabW laws_eqModuleS.tab6 laws_eqModuleS.bits6 (fun HT_ HW_ => ?_)
        generalize wr.drew = w9 at HB hx368_0 hx368_1 hx368_10 hx368_11 hx368_12 hx368_13 hx368_14 hx368_15 hx368_16 hx368_2 hx368_3 hx368_4 hx368_5 hx368_6 hx368_7 hx368_8 hx368_9 hx369_0 hx369_1 hx369_10 hx369_11 hx369_12 hx369_13 hx369_14 hx369_15 hx369_16 hx369_2 hx369_3 hx369_4 hx369_5 hx369_6 hx369_7 hx369_8 hx369_9 hHeld ⊢
        refine Gv.pu 0 (some 17) HT_ ?_
        refine Gv.pu 1 (some 18) HT_ ?_
        refine Gv.pu 2 (some 19) HT_ ?_
        refine Gv.pu 4 (some 21) HT_ ?_
        refine Gv.pu 5 (some 22) HT_ ?_
        refine Gv.pu 6 (some 23) HT_ ?_
        refine take_ (i := 3) (N := some 20) (v := ?_) (a' := ?_) #[true, true, true, true, true, true, true, false, false, false] rfl rfl (take_ofW HT_.out HW_.out (by kernel_rfl)) (fun _ _ _ h => h) (Or.inl ⟨by rfl, ?_⟩) hHeld ?_ ?_
        rotate_left
        ·rintro w' ⟨s0, s1, s2, s3, s4, s5, s6, s7, s8, s9, s10, s11, s12, s13, s14, s15, s16, s17, s18, s19, s20, s21, s22, s23, s24, s25, s26, s27, s28, s29, s30, s31, s32, s33⟩
         first | ((refine Gv.load_run (t := 38) (A := ad368.add ((x5_1).toNat * 17)) (cs := [_, _, _, _, _, _, _, _, _, _, _, _, _, _, _, _, _]) (x := ?x_) ?ho_ ?hx_ ⟨s0, s1, s2, s3, s4, s5, s6, s7, s8, s9, s10, s11, s12, s13, s14, s15, s16, trivial⟩ Try.underlying38 rfl (by kernel_rfl)); (case ho_ => rfl); (case hx_ => rfl)) | ((refine Gv.load_run (t := 38) (A := ad369.add ((x5_1).toNat * 17)) (cs := [_, _, _, _, _, _, _, _, _, _, _, _, _, _, _, _, _]) (x := ?x_) ?ho_ ?hx_ ⟨s17, s18, s19, s20, s21, s22, s23, s24, s25, s26, s27, s28, s29, s30, s31, s32, s33, trivial⟩ Try.underlying38 rfl (by kernel_rfl)); (case ho_ => rfl); (case hx_ => rfl)) | (go_simp; with_reducible rfl)
        rotate_left
        ·simp only [Act.put, List.setIfInBounds_toArray, List.set_cons_zero, List.set_cons_succ, i64_w, i32_w]
         rfl
        refine take_ (i := 7) (N := some 24) (v := ?_) (a' := ?_) #[true, true, true, true, true, true, true, true, false, false] rfl rfl (take_ofW HT_.out HW_.out (by kernel_rfl)) (fun _ _ _ h => h) (Or.inl ⟨by rfl, ?_⟩) hHeld ?_ ?_
        rotate_left
        ·rintro w' ⟨s0, s1, s2, s3, s4, s5, s6, s7, s8, s9, s10, s11, s12, s13, s14, s15, s16, s17, s18, s19, s20, s21, s22, s23, s24, s25, s26, s27, s28, s29, s30, s31, s32, s33⟩
         first | ((refine Gv.load_run (t := 38) (A := ad368.add ((x5_1).toNat * 17)) (cs := [_, _, _, _, _, _, _, _, _, _, _, _, _, _, _, _, _]) (x := ?x_) ?ho_ ?hx_ ⟨s0, s1, s2, s3, s4, s5, s6, s7, s8, s9, s10, s11, s12, s13, s14, s15, s16, trivial⟩ Try.underlying38 rfl (by kernel_rfl)); (case ho_ => rfl); (case hx_ => rfl)) | ((refine Gv.load_run (t := 38) (A := ad369.add ((x5_1).toNat * 17)) (cs := [_, _, _, _, _, _, _, _, _, _, _, _, _, _, _, _, _]) (x := ?x_) ?ho_ ?hx_ ⟨s17, s18, s19, s20, s21, s22, s23, s24, s25, s26, s27, s28, s29, s30, s31, s32, s33, trivial⟩ Try.underlying38 rfl (by kernel_rfl)); (case ho_ => rfl); (case hx_ => rfl)) | (go_simp; with_reducible rfl)
        rotate_left
        ·simp only [Act.put, List.setIfInBounds_toArray, List.set_cons_zero, List.set_cons_succ, i64_w, i32_w]
         rfl
        refine one_ (i := 8) (N := some 25) #[true, true, true, true, true, true, true, true, true, false] rfl rfl (one_of HT_.out (by kernel_rfl)) (by decide) (fun K hK => ?_)
        refine goes_ Try.func48 (by kernel_rfl) rfl #[.agg #[.int .i64 ((rd_T38 l0 x5_1).f0), .int .i64 ((rd_T38 l0 x5_1).f1.f0.f0), .int .i64 ((rd_T38 l0 x5_1).f1.f0.f1), .int .i64 ((rd_T38 l0 x5_1).f1.f0.f2), .int .i64 ((rd_T38 l0 x5_1).f1.f0.f3), .int .i64 ((rd_T38 l0 x5_1).f1.f0.f4), .int .i64 ((rd_T38 l0 x5_1).f1.f1), .int .i64 ((rd_T38 l0 x5_1).f2.f0.f0), .int .i64 ((rd_T38 l0 x5_1).f2.f0.f1), .int .i64 ((rd_T38 l0 x5_1).f2.f0.f2), .int .i64 ((rd_T38 l0 x5_1).f2.f0.f3), .int .i64 ((rd_T38 l0 x5_1).f2.f0.f4), .int .i64 ((rd_T38 l0 x5_1).f2.f1), .int .i64 ((rd_T38 l0 x5_1).f3), .int .i64 ((rd_T38 l0 x5_1).f4), .int .i64 ((rd_T38 l0 x5_1).f5), .int .i64 ((rd_T38 l0 x5_1).f6)], .agg #[.int .i64 ((rd_T38 l1 x5_1).f0), .int .i64 ((rd_T38 l1 x5_1).f1.f0.f0), .int .i64 ((rd_T38 l1 x5_1).f1.f0.f1), .int .i64 ((rd_T38 l1 x5_1).f1.f0.f2), .int .i64 ((rd_T38 l1 x5_1).f1.f0.f3), .int .i64 ((rd_T38 l1 x5_1).f1.f0.f4), .int .i64 ((rd_T38 l1 x5_1).f1.f1), .int .i64 ((rd_T38 l1 x5_1).f2.f0.f0), .int .i64 ((rd_T38 l1 x5_1).f2.f0.f1), .int .i64 ((rd_T38 l1 x5_1).f2.f0.f2), .int .i64 ((rd_T38 l1 x5_1).f2.f0.f3), .int .i64 ((rd_T38 l1 x5_1).f2.f0.f4), .int .i64 ((rd_T38 l1 x5_1).f2.f1), .int .i64 ((rd_T38 l1 x5_1).f3), .int .i64 ((rd_T38 l1 x5_1).f4), .int .i64 ((rd_T38 l1 x5_1).f5), .int .i64 ((rd_T38 l1 x5_1).f6)]] (by rfl) rfl rfl Gv.lm ?_
        with_reducible refine (laws_eqModule.calls ((rd_T38 l0 x5_1).f0) ((rd_T38 l0 x5_1).f1.f0.f0) ((rd_T38 l0 x5_1).f1.f0.f1) ((rd_T38 l0 x5_1).f1.f0.f2) ((rd_T38 l0 x5_1).f1.f0.f3) ((rd_T38 l0 x5_1).f1.f0.f4) ((rd_T38 l0 x5_1).f1.f1) ((rd_T38 l0 x5_1).f2.f0.f0) ((rd_T38 l0 x5_1).f2.f0.f1) ((rd_T38 l0 x5_1).f2.f0.f2) ((rd_T38 l0 x5_1).f2.f0.f3) ((rd_T38 l0 x5_1).f2.f0.f4) ((rd_T38 l0 x5_1).f2.f1) ((rd_T38 l0 x5_1).f3) ((rd_T38 l0 x5_1).f4) ((rd_T38 l0 x5_1).f5) ((rd_T38 l0 x5_1).f6) ((rd_T38 l1 x5_1).f0) ((rd_T38 l1 x5_1).f1.f0.f0) ((rd_T38 l1 x5_1).f1.f0.f1) ((rd_T38 l1 x5_1).f1.f0.f2) ((rd_T38 l1 x5_1).f1.f0.f3) ((rd_T38 l1 x5_1).f1.f0.f4) ((rd_T38 l1 x5_1).f1.f1) ((rd_T38 l1 x5_1).f2.f0.f0) ((rd_T38 l1 x5_1).f2.f0.f1) ((rd_T38 l1 x5_1).f2.f0.f2) ((rd_T38 l1 x5_1).f2.f0.f3) ((rd_T38 l1 x5_1).f2.f0.f4) ((rd_T38 l1 x5_1).f2.f1) ((rd_T38 l1 x5_1).f3) ((rd_T38 l1 x5_1).f4) ((rd_T38 l1 x5_1).f5) ((rd_T38 l1 x5_1).f6) true _ A7.out).mono ?_
        rintro e w10 ⟨rfl, hb⟩
        refine ⟨_, rfl, ?_⟩
        have n0_ := Gv.a0 (below_step Gv.bw hb)
        clear HB
        have HB := n0_
        clear n0_
        (try clear hb)
        (try clear hb2)
        (try clear hk)
        (try clear hi)
        refine hK.out _ _ ⟨(Gv.bx HB.out hw368_0), (Gv.bx HB.out hw368_1), (Gv.bx HB.out hw368_2), (Gv.bx HB.out hw368_3), (Gv.bx HB.out hw368_4), (Gv.bx HB.out hw368_5), (Gv.bx HB.out hw368_6), (Gv.bx HB.out hw368_7), (Gv.bx HB.out hw368_8), (Gv.bx HB.out hw368_9), (Gv.bx HB.out hw368_10), (Gv.bx HB.out hw368_11), (Gv.bx HB.out hw368_12), (Gv.bx HB.out hw368_13), (Gv.bx HB.out hw368_14), (Gv.bx HB.out hw368_15), (Gv.bx HB.out hw368_16), (Gv.bx HB.out hw369_0), (Gv.bx HB.out hw369_1), (Gv.bx HB.out hw369_2), (Gv.bx HB.out hw369_3), (Gv.bx HB.out hw369_4), (Gv.bx HB.out hw369_5), (Gv.bx HB.out hw369_6), (Gv.bx HB.out hw369_7), (Gv.bx HB.out hw369_8), (Gv.bx HB.out hw369_9), (Gv.bx HB.out hw369_10), (Gv.bx HB.out hw369_11), (Gv.bx HB.out hw369_12), (Gv.bx HB.out hw369_13), (Gv.bx HB.out hw369_14), (Gv.bx HB.out hw369_15), (Gv.bx HB.out hw369_16)⟩ (fun hHeld => ?_)
        clear hK K
        refine norm_ (a' := ?_) ?_ ?_
        rotate_left
        ·show Act.put _ (some 25) _ = _
         simp only [Act.put, List.setIfInBounds_toArray, List.set_cons_zero, List.set_cons_succ, i64_w, i32_w]
         rfl
        refine Gv.pu 9 (some 26) HT_ ?_
        refine done_ (done_of HT_.out (by kernel_rfl)) ?_
        try go_wp2
        go_roundg k1
        case measure => have := HK1.out; omega
        case rel => exact ⟨(wrap64 (x5_1 + 1)), (by first | rfl | (simp; done) | (simp [Int.tdiv_eq_ediv_of_nonneg]; done) | (simp [*]; done)), H', ⟨by have := HK1.out; omega⟩, ⟨by repeat (first | (with_reducible first | exact HB.out | apply below_alloc | apply pw_below_drewN | apply below_drew1) | exact HB.out)⟩⟩
       ·replace c8 := Bool.eq_false_iff.mpr c8
        subst c8
        have H1 : (none) = some r := by rw [if_neg (show ¬ (false = true) by decide)] at H; exact H
        clear H
        have H := H1
        clear H1
        exact absurd H (by simp)
      ·rw [if_neg c6] at H
       exact absurd H (by simp)
     ·rw [if_neg c5] at H
      exact absurd H (by simp)
    ·rw [if_neg c4] at H
     have c4b0 : decide (x5_1 < (l0.length : Int)) = false := decide_eq_false c4
     clear c4
     obtain rfl := Option.some.inj H
     go_wp2
     go_ret
     exact ⟨by first | rfl | (simp [errW_none, errW_some] <;> rfl) | (simp [*, errW_none, errW_some] <;> rfl), by repeat (first | (with_reducible first | exact HB.out | apply below_alloc | apply pw_below_drewN | apply below_drew1) | exact HB.out)⟩
 ·rw [if_neg c3] at H
  exact absurd H (by simp)

/-! ### laws_FnExactChainOk: function 5 -/
def laws_FnExactChainOk.f (k : Nat) (l0 : List (S35)) : Option (Bool) := (laws_szModuleS.f l0 1048576).bind fun t371 => (if t371 < 0 then (some true) else ((laws_toModuleS.f k l0).bind fun t372 => ((spec_ChainOk.f k t372).bind fun t375 => ((laws_toModuleS.f k l0).bind fun t376 => ((impl_ChainOk.f k t376).bind fun t379 => (if (t379 != t375) = true then (none) else ((laws_toModuleS.f k l0).bind fun t380 => ((laws_eqModuleS.f k t376 t380).bind fun t383 => (if t383 = true then (some true) else (none))))))))))
theorem laws_FnExactChainOk.mono : ∀ a0 k, LeO (laws_FnExactChainOk.f k a0) (laws_FnExactChainOk.f (k + 1) a0) := by
 intro a0 k
 unfold laws_FnExactChainOk.f
 repeat' first
   | (with_reducible exact impl_ChainOk.mono _ _)
   | (with_reducible exact laws_eqModuleS.mono _ _ _)
   | (with_reducible exact laws_toModuleS.mono _ _)
   | (with_reducible exact spec_ChainOk.mono _ _)
   | (with_reducible exact LeO.refl _)
   | (with_reducible exact LeO.none _)
   | (with_reducible refine LeO.ite ?_ ?_)
   | (with_reducible refine LeO.bind ?_ (fun _ => ?_))
   | exact impl_ChainOk.mono _ _
   | exact laws_eqModuleS.mono _ _ _
   | exact laws_toModuleS.mono _ _
   | exact spec_ChainOk.mono _ _
   | exact LeO.none _
   | refine LeO.ite ?_ ?_
   | refine LeO.bind ?_ (fun _ => ?_)
set_option maxHeartbeats 8000000 in
set_option maxRecDepth 100000 in
theorem laws_FnExactChainOk.calls (k : Nat) (A0 : Option Addr) (c0 : Nat) (l0 : List (S35)) (r : Bool) (w : World) (hr0 : Kd.C k35 w A0 l0.length l0) (hc0 : l0.length ≤ c0) (h : laws_FnExactChainOk.f k l0 = some r) :
  Calls Try.prog 5 #[.slice A0 l0.length c0] w fun e w' => e = .returned (.bool r) ∧ Below w.heap.size w w' := by
 have HR0 := Gv.a0 hr0
 have HC0 := Gv.a0 hc0
 clear hr0 hc0
 have HB := Gv.a0 (Below.refl w.heap.size w)
 have H : ((laws_szModuleS.f l0 1048576).bind fun t371 => (if t371 < 0 then (some true) else ((laws_toModuleS.f k l0).bind fun t372 => ((spec_ChainOk.f k t372).bind fun t375 => ((laws_toModuleS.f k l0).bind fun t376 => ((impl_ChainOk.f k t376).bind fun t379 => (if (t379 != t375) = true then (none) else ((laws_toModuleS.f k l0).bind fun t380 => ((laws_eqModuleS.f k t376 t380).bind fun t383 => (if t383 = true then (some true) else (none))))))))))) = some r := h
 clear h
 replace H := Option.bind_eq_some_iff.mp H
 obtain ⟨t371, A20, H⟩ := H
 replace H : (if t371 < 0 then (some true) else ((laws_toModuleS.f k l0).bind fun t372 => ((spec_ChainOk.f k t372).bind fun t375 => ((laws_toModuleS.f k l0).bind fun t376 => ((impl_ChainOk.f k t376).bind fun t379 => (if (t379 != t375) = true then (none) else ((laws_toModuleS.f k l0).bind fun t380 => ((laws_eqModuleS.f k t376 t380).bind fun t383 => (if t383 = true then (some true) else (none)))))))))) = some r := H
 have A2 := Gv.a0 A20
 clear A20
 by_cases c3 : t371 < 0
 ·rw [if_pos c3] at H
  have c3b0 : decide (t371 < 0) = true := decide_eq_true c3
  clear c3
  obtain rfl := Option.some.inj H
  go_enter Try.func5, Try.ntmps5
  go_wp2_with (first | ((with_reducible refine gate_callee (f := 16) rfl ?_); refine goesL_ (some 9) rfl rfl Try.func16 (by kernel_rfl) rfl #[.slice A0 l0.length c0, .int .i64 1048576] rfl Gv.lm ?_; (with_reducible refine (laws_szModuleS.calls _ _ l0 1048576 t371 _ ?side1 ?side2 A2.out).mono ?_); (case side1 => repeat (first | exact HR0.out | (with_reducible refine Kd.C_alloc ?_ _) | (with_reducible refine Kd.C_drewN ?_ _) | (with_reducible refine Kd.C_drew ?_))); (case side2 => exact HC0.out); rintro e w' ⟨rfl, ⟨nd, rfl⟩⟩; refine ⟨_, rfl, ?_⟩))
  go_ret
  exact ⟨by first | rfl | (simp [errW_none, errW_some] <;> rfl) | (simp [*, errW_none, errW_some] <;> rfl), by repeat (first | (with_reducible first | exact HB.out | apply below_alloc | apply pw_below_drewN | apply below_drew1) | exact HB.out)⟩
 ·rw [if_neg c3] at H
  have c3b0 : decide (t371 < 0) = false := decide_eq_false c3
  clear c3
  replace H := Option.bind_eq_some_iff.mp H
  obtain ⟨t372, A40, H⟩ := H
  replace H : ((spec_ChainOk.f k t372).bind fun t375 => ((laws_toModuleS.f k l0).bind fun t376 => ((impl_ChainOk.f k t376).bind fun t379 => (if (t379 != t375) = true then (none) else ((laws_toModuleS.f k l0).bind fun t380 => ((laws_eqModuleS.f k t376 t380).bind fun t383 => (if t383 = true then (some true) else (none)))))))) = some r := H
  have A4 := Gv.a0 A40
  clear A40
  replace H := Option.bind_eq_some_iff.mp H
  obtain ⟨t375, A50, H⟩ := H
  replace H : ((laws_toModuleS.f k l0).bind fun t376 => ((impl_ChainOk.f k t376).bind fun t379 => (if (t379 != t375) = true then (none) else ((laws_toModuleS.f k l0).bind fun t380 => ((laws_eqModuleS.f k t376 t380).bind fun t383 => (if t383 = true then (some true) else (none))))))) = some r := H
  have A5 := Gv.a0 A50
  clear A50
  replace H := Option.bind_eq_some_iff.mp H
  obtain ⟨t376, A60, H⟩ := H
  replace H : ((impl_ChainOk.f k t376).bind fun t379 => (if (t379 != t375) = true then (none) else ((laws_toModuleS.f k l0).bind fun t380 => ((laws_eqModuleS.f k t376 t380).bind fun t383 => (if t383 = true then (some true) else (none)))))) = some r := H
  have A6 := Gv.a0 A60
  clear A60
  replace H := Option.bind_eq_some_iff.mp H
  obtain ⟨t379, A70, H⟩ := H
  replace H : (if (t379 != t375) = true then (none) else ((laws_toModuleS.f k l0).bind fun t380 => ((laws_eqModuleS.f k t376 t380).bind fun t383 => (if t383 = true then (some true) else (none))))) = some r := H
  have A7 := Gv.a0 A70
  clear A70
  by_cases c8 : (t379 != t375) = true
  ·rw [if_pos c8] at H
   exact absurd H (by simp)
  ·rw [if_neg c8] at H
   have c8b0 : (t379 != t375) = false := by simpa using c8
   (try (have c8b1 : decide (t379 = t375) = true := by simpa using c8))
   (try (have c8b2 : (t379 == t375) = true := by simpa using c8))
   clear c8
   replace H := Option.bind_eq_some_iff.mp H
   obtain ⟨t380, A90, H⟩ := H
   replace H : ((laws_eqModuleS.f k t376 t380).bind fun t383 => (if t383 = true then (some true) else (none))) = some r := H
   have A9 := Gv.a0 A90
   clear A90
   replace H := Option.bind_eq_some_iff.mp H
   obtain ⟨t383, A100, H⟩ := H
   replace H : (if t383 = true then (some true) else (none)) = some r := H
   have A10 := Gv.a0 A100
   clear A100
   by_cases c11 : t383 = true
   ·subst c11
    have H1 : (some true) = some r := by rw [if_pos rfl] at H; exact H
    clear H
    have H := H1
    clear H1
    obtain rfl := Option.some.inj H
    go_enter Try.func5, Try.ntmps5
    go_wp2_with (first | ((with_reducible refine gate_callee (f := 16) rfl ?_); refine goesL_ (some 9) rfl rfl Try.func16 (by kernel_rfl) rfl #[.slice A0 l0.length c0, .int .i64 1048576] rfl Gv.lm ?_; (with_reducible refine (laws_szModuleS.calls _ _ l0 1048576 t371 _ ?side1 ?side2 A2.out).mono ?_); (case side1 => repeat (first | exact HR0.out | (with_reducible refine Kd.C_alloc ?_ _) | (with_reducible refine Kd.C_drewN ?_ _) | (with_reducible refine Kd.C_drew ?_))); (case side2 => exact HC0.out); rintro e w' ⟨rfl, ⟨nd, rfl⟩⟩; refine ⟨_, rfl, ?_⟩) | ((with_reducible refine gate_callee (f := 18) rfl ?_); refine goesL_ (some 13) rfl rfl Try.func18 (by kernel_rfl) rfl #[.slice A0 l0.length c0] rfl Gv.lm ?_; (with_reducible refine (laws_toModuleS.calls k _ _ l0 t372 _ ?side1 ?side2 A4.out).mono ?_); (case side1 => repeat (first | exact HR0.out | (with_reducible refine Kd.C_alloc ?_ _) | (with_reducible refine Kd.C_drewN ?_ _) | (with_reducible refine Kd.C_drew ?_))); (case side2 => exact HC0.out); rintro e w12 ⟨v373, rfl, ho0, hb⟩; refine ⟨_, rfl, ?_⟩; have n0_ := Gv.a0 (Kd.R_lower ho0 (below_size Gv.bw)); have n1_ := Gv.a0 (below_step Gv.bw hb); clear HB; have HO374 := n0_; have HB := n1_; clear n0_ n1_; (try clear hb); (try clear hb2); (try clear hk); (try clear hi); (try clear ho0); obtain ⟨Ao13, co13, eo13⟩ := Kd.R_slice HO374.out; subst eo13) | ((with_reducible refine gate_callee (f := 17) rfl ?_); refine goesL_ (some 14) rfl rfl Try.func17 (by kernel_rfl) rfl #[.slice Ao13 t372.length co13] rfl Gv.lm ?_; (with_reducible refine (spec_ChainOk.calls k _ _ t372 t375 _ ?side1 ?side2 A5.out).mono ?_); (case side1 => repeat (first | exact (Kd.R_reads' HO374.out).2.2 | (with_reducible refine Kd.C_alloc ?_ _) | (with_reducible refine Kd.C_drewN ?_ _) | (with_reducible refine Kd.C_drew ?_))); (case side2 => exact (Kd.R_reads' HO374.out).2.1); rintro e w14 ⟨rfl, hb⟩; refine ⟨_, rfl, ?_⟩; have n0_ := Gv.a0 (Kd.R_below (Gv.kr HO374.out) hb); have n1_ := Gv.a0 (below_step Gv.bw hb); clear HO374; clear HB; have HO374 := n0_; have HB := n1_; clear n0_ n1_; (try clear hb); (try clear hb2); (try clear hk); (try clear hi)) | ((with_reducible refine gate_callee (f := 18) rfl ?_); refine goesL_ (some 16) rfl rfl Try.func18 (by kernel_rfl) rfl #[.slice A0 l0.length c0] rfl Gv.lm ?_; (with_reducible refine (laws_toModuleS.calls k _ _ l0 t376 _ ?side1 ?side2 A6.out).mono ?_); (case side1 => repeat (first | exact (Kd.C_below HR0.out HB.out) | (with_reducible refine Kd.C_alloc ?_ _) | (with_reducible refine Kd.C_drewN ?_ _) | (with_reducible refine Kd.C_drew ?_))); (case side2 => exact HC0.out); rintro e w15 ⟨v377, rfl, ho0, hb⟩; refine ⟨_, rfl, ?_⟩; have n0_ := Gv.a0 (Kd.R_elder' (Gv.kr HO374.out) (Kd.R_base ho0) hb); have n1_ := Gv.a0 (Kd.R_lower (Kd.R_new' ho0 (Kd.R_lt (Gv.kr HO374.out))) (below_size Gv.bw)); have n2_ := Gv.a0 (below_step Gv.bw hb); clear HO374; clear HB; have HO374 := n0_; have HO378 := n1_; have HB := n2_; clear n0_ n1_ n2_; (try clear hb); (try clear hb2); (try clear hk); (try clear hi); (try clear ho0); obtain ⟨Ao16, co16, eo16⟩ := Kd.R_slice HO378.out; subst eo16) | ((with_reducible refine gate_callee (f := 19) rfl ?_); refine goesL_ (some 18) rfl rfl Try.func19 (by kernel_rfl) rfl #[.slice Ao16 t376.length co16] rfl Gv.lm ?_; (with_reducible refine (impl_ChainOk.calls k _ _ t376 t379 _ ?side1 ?side2 A7.out).mono ?_); (case side1 => repeat (first | exact (Kd.R_reads' HO378.out).2.2 | (with_reducible refine Kd.C_alloc ?_ _) | (with_reducible refine Kd.C_drewN ?_ _) | (with_reducible refine Kd.C_drew ?_))); (case side2 => exact (Kd.R_reads' HO378.out).2.1); rintro e w17 ⟨rfl, hb⟩; refine ⟨_, rfl, ?_⟩; have n0_ := Gv.a0 (Kd.R_below (Gv.kr HO374.out) hb); have n1_ := Gv.a0 (Kd.R_below (Gv.kr HO378.out) hb); have n2_ := Gv.a0 (below_step Gv.bw hb); clear HO374; clear HO378; clear HB; have HO374 := n0_; have HO378 := n1_; have HB := n2_; clear n0_ n1_ n2_; (try clear hb); (try clear hb2); (try clear hk); (try clear hi)) | ((with_reducible refine gate_callee (f := 18) rfl ?_); refine goesL_ (some 24) rfl rfl Try.func18 (by kernel_rfl) rfl #[.slice A0 l0.length c0] rfl Gv.lm ?_; (with_reducible refine (laws_toModuleS.calls k _ _ l0 t380 _ ?side1 ?side2 A9.out).mono ?_); (case side1 => repeat (first | exact (Kd.C_below HR0.out HB.out) | (with_reducible refine Kd.C_alloc ?_ _) | (with_reducible refine Kd.C_drewN ?_ _) | (with_reducible refine Kd.C_drew ?_))); (case side2 => exact HC0.out); rintro e w18 ⟨v381, rfl, ho0, hb⟩; refine ⟨_, rfl, ?_⟩; have n0_ := Gv.a0 (Kd.R_elder' (Gv.kr HO374.out) (Kd.R_base ho0) hb); have n1_ := Gv.a0 (Kd.R_elder' (Gv.kr HO378.out) (Kd.R_base ho0) hb); have n2_ := Gv.a0 (Kd.R_lower (Kd.R_new' (Kd.R_new' ho0 (Kd.R_lt (Gv.kr HO374.out))) (Kd.R_lt (Gv.kr HO378.out))) (below_size Gv.bw)); have n3_ := Gv.a0 (below_step Gv.bw hb); clear HO374; clear HO378; clear HB; have HO374 := n0_; have HO378 := n1_; have HO382 := n2_; have HB := n3_; clear n0_ n1_ n2_ n3_; (try clear hb); (try clear hb2); (try clear hk); (try clear hi); (try clear ho0); obtain ⟨Ao19, co19, eo19⟩ := Kd.R_slice HO382.out; subst eo19) | ((with_reducible refine gate_callee (f := 20) rfl ?_); refine goesL_ (some 25) rfl rfl Try.func20 (by kernel_rfl) rfl #[.slice Ao16 t376.length co16, .slice Ao19 t380.length co19] rfl Gv.lm ?_; (with_reducible refine (laws_eqModuleS.calls k _ _ t376 _ _ t380 true _ ?side1 ?side2 ?side3 ?side4 A10.out).mono ?_); (case side1 => repeat (first | exact (Kd.R_reads' HO378.out).2.2 | (with_reducible refine Kd.C_alloc ?_ _) | (with_reducible refine Kd.C_drewN ?_ _) | (with_reducible refine Kd.C_drew ?_))); (case side2 => exact (Kd.R_reads' HO378.out).2.1); (case side3 => repeat (first | exact (Kd.R_reads' HO382.out).2.2 | (with_reducible refine Kd.C_alloc ?_ _) | (with_reducible refine Kd.C_drewN ?_ _) | (with_reducible refine Kd.C_drew ?_))); (case side4 => exact (Kd.R_reads' HO382.out).2.1); rintro e w20 ⟨rfl, hb⟩; refine ⟨_, rfl, ?_⟩; have n0_ := Gv.a0 (Kd.R_below (Gv.kr HO374.out) hb); have n1_ := Gv.a0 (Kd.R_below (Gv.kr HO378.out) hb); have n2_ := Gv.a0 (Kd.R_below (Gv.kr HO382.out) hb); have n3_ := Gv.a0 (below_step Gv.bw hb); clear HO374; clear HO378; clear HO382; clear HB; have HO374 := n0_; have HO378 := n1_; have HO382 := n2_; have HB := n3_; clear n0_ n1_ n2_ n3_; (try clear hb); (try clear hb2); (try clear hk); (try clear hi)))
    go_ret
    exact ⟨by first | rfl | (simp [errW_none, errW_some] <;> rfl) | (simp [*, errW_none, errW_some] <;> rfl), by repeat (first | (with_reducible first | exact HB.out | apply below_alloc | apply pw_below_drewN | apply below_drew1) | exact HB.out)⟩
   ·replace c11 := Bool.eq_false_iff.mpr c11
    subst c11
    have H1 : (none) = some r := by rw [if_neg (show ¬ (false = true) by decide)] at H; exact H
    clear H
    have H := H1
    clear H1
    exact absurd H (by simp)

end Go.Proofs.Ytbpkmdghloapjaa.PCh
