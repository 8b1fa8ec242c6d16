/- Plain Lean functions of a law's Go functions, their contracts, by a program of this session (wip/pr.py over the kit's print). -/
import Derived.Test.YtiokbmbdhejciaaPCrx0
import Derived.Test.YtiokbmbdhejciaaPCrx1
import Derived.Test.YtiokbmbdhejciaaPCrx2
import Derived.Test.YtiokbmbdhejciaaPCrx4
namespace Go.Proofs.Ytiokbmbdhejciaa.PCr
open Go.RowKit Go.Proofs.YtiokbmbdhejciaaW.PrintWords Go.Proofs.YtiokbmbdhejciaaW.PrintLast Go.Proofs.YtiokbmbdhejciaaW.PrintMore
attribute [local go_sem] max2_int min2_int max_two min_two max_three min_three max_four min_four   -- for this text's walks alone
set_option linter.unusedVariables false
set_option linter.unusedSimpArgs false

/-! ### laws_eqDeed: function 75 -/
def laws_eqDeed.f (a0_0 : Bool) (a0_1 : Int) (a0_2 : Int) (a0_3 : Int) (a1_0 : Bool) (a1_1 : Int) (a1_2 : Int) (a1_3 : Int) : Option (Bool) := if (a0_0 != a1_0) = true then (none) else ((laws_eqVec.f a0_1 a0_2 a0_3 a1_1 a1_2 a1_3).bind fun t321 => (if t321 = true then (some true) else (none)))
set_option maxHeartbeats 8000000 in
set_option maxRecDepth 100000 in
theorem laws_eqDeed.calls (a0_0 : Bool) (a0_1 : Int) (a0_2 : Int) (a0_3 : Int) (a1_0 : Bool) (a1_1 : Int) (a1_2 : Int) (a1_3 : Int) (r : Bool) (w : World) (h : laws_eqDeed.f a0_0 a0_1 a0_2 a0_3 a1_0 a1_1 a1_2 a1_3 = some r) :
  Calls Try.prog 75 #[.agg #[.bool a0_0, .int .i64 a0_1, .int .i64 a0_2, .int .i64 a0_3], .agg #[.bool a1_0, .int .i64 a1_1, .int .i64 a1_2, .int .i64 a1_3]] w fun e w' => e = .returned (.bool r) ∧ Below w.heap.size w w' := by
 have hu80 := Try.underlying80
 have hu26 := Try.underlying26
 have HB := Gv.a0 (Below.refl w.heap.size w)
 have H : (if (a0_0 != a1_0) = true then (none) else ((laws_eqVec.f a0_1 a0_2 a0_3 a1_1 a1_2 a1_3).bind fun t321 => (if t321 = true then (some true) else (none)))) = some r := h
 clear h
 by_cases c3 : (a0_0 != a1_0) = true
 ·rw [if_pos c3] at H
  exact absurd H (by simp)
 ·rw [if_neg c3] at H
  have c3b0 : (a0_0 != a1_0) = false := by simpa using c3
  (try (have c3b1 : decide (a0_0 = a1_0) = true := by simpa using c3))
  (try (have c3b2 : (a0_0 == a1_0) = true := by simpa using c3))
  clear c3
  replace H := Option.bind_eq_some_iff.mp H
  obtain ⟨t321, A40, H⟩ := H
  replace H : (if t321 = true then (some true) else (none)) = some r := H
  have A4 := Gv.a0 A40
  clear A40
  by_cases c5 : t321 = true
  ·subst c5
   have H1 : (some true) = some r := by rw [if_pos rfl] at H; exact H
   clear H
   have H := H1
   clear H1
   obtain rfl := Option.some.inj H
   go_enter Try.func75, Try.ntmps75
   go_wp2_with (first | ((with_reducible refine gate_dst (N := 2) rfl ?_); refine box_event ?hg (N := 2) ?hd (cs := #[.bool a0_0, .int .i64 a0_1, .int .i64 a0_2, .int .i64 a0_3]) (t := 80) ?hr ?_; (case hd => rfl); (case hg => rfl); (case hr => first | (go_simp; done) | (go_simp; rfl)); intro gb319 hg w6 hbox hb; have n0_ := Gv.a0 (below_step Gv.bw hb); have n1_ := Gv.a0 (hbox); have n2_ := Gv.a0 ((Gv.ble hg Gv.bw : w.heap.size ≤ gb319)); have n3_ := Gv.a0 ((Gv.ble hg Gv.bw : w.heap.size ≤ gb319)); clear HB; have HB := n0_; have BK319 := n1_; have GW319 := n2_; have GE319 := n3_; clear n0_ n1_ n2_ n3_; clear hb hbox hg) | ((with_reducible refine gate_dst (N := 3) rfl ?_); refine box_event ?hg (N := 3) ?hd (cs := #[.bool a1_0, .int .i64 a1_1, .int .i64 a1_2, .int .i64 a1_3]) (t := 80) ?hr ?_; (case hd => rfl); (case hg => rfl); (case hr => first | (go_simp; done) | (go_simp; rfl)); intro gb320 hg w7 hbox hb; have n0_ := Gv.a0 (Gv.bb BK319.out hb); have n1_ := Gv.a0 (below_step Gv.bw hb); have n2_ := Gv.a0 (hbox); have n3_ := Gv.a0 ((Gv.ble hg Gv.bw : w.heap.size ≤ gb320)); have n4_ := Gv.a0 ((Gv.ble hg Gv.bw : w.heap.size ≤ gb320)); have n5_ := Gv.a0 ((Gv.nlt hg (Gv.kb BK319.out) : gb319 ≠ gb320)); have n6_ := Gv.a0 ((Gv.ngt hg (Gv.kb BK319.out) : gb320 ≠ gb319)); clear BK319; clear HB; have BK319 := n0_; have HB := n1_; have BK320 := n2_; have GW320 := n3_; have GE320 := n4_; have NB319_320 := n5_; have NB320_319 := n6_; clear n0_ n1_ n2_ n3_ n4_ n5_ n6_; clear hb hbox hg; have hnb8 := NB319_320.out; have hnc8 := NB320_319.out; obtain ⟨hcz9_0, hcz9_1, hcz9_2, hcz9_3⟩ := Gv.c4 BK319.out; obtain ⟨hfz9_0, hfz9_1, hfz9_2, hfz9_3⟩ := Gv.f4 BK319.out; obtain ⟨hcz10_0, hcz10_1, hcz10_2, hcz10_3⟩ := Gv.c4 BK320.out; obtain ⟨hfz10_0, hfz10_1, hfz10_2, hfz10_3⟩ := Gv.f4 BK320.out) | ((with_reducible refine gate_callee (f := 14) rfl ?_); refine goesL_ (some 14) rfl rfl Try.func14 (by kernel_rfl) rfl #[.agg #[.int .i64 a0_1, .int .i64 a0_2, .int .i64 a0_3], .agg #[.int .i64 a1_1, .int .i64 a1_2, .int .i64 a1_3]] rfl Gv.lm ?_; (with_reducible refine (laws_eqVec.calls a0_1 a0_2 a0_3 a1_1 a1_2 a1_3 true _ A4.out).mono ?_); rintro e w11 ⟨rfl, hb⟩; refine ⟨_, rfl, ?_⟩; have n0_ := Gv.a0 (Gv.bb BK319.out hb); have n1_ := Gv.a0 (Gv.bb BK320.out hb); have n2_ := Gv.a0 (below_step Gv.bw hb); clear BK319; clear BK320; clear HB; have BK319 := n0_; have BK320 := n1_; have HB := n2_; clear n0_ n1_ n2_; (try clear hb); (try clear hb2); (try clear hk); (try clear hi)))
   go_ret
   exact ⟨Gv.rt, Gv.bw⟩
  ·replace c5 := Bool.eq_false_iff.mpr c5
   subst c5
   have H1 : (none) = some r := by rw [if_neg (show ¬ (false = true) by decide)] at H; exact H
   clear H
   have H := H1
   clear H1
   exact absurd H (by simp)

/-! ### laws_eqDeedS: function 35 -/
def laws_eqDeedS.l0 : Nat → List (S80) → List (S80) → Int → Option (Bool)
 | 0, _, _, _ => none
 | k + 1, x0, x1, x5 => if x5 < (x0.length : Int) then (if 0 ≤ x5 then (if x5 < (x1.length : Int) then ((laws_eqDeed.f ((rd_T80 x0 x5).f0) ((rd_T80 x0 x5).f1.f0) ((rd_T80 x0 x5).f1.f1) ((rd_T80 x0 x5).f1.f2) ((rd_T80 x1 x5).f0) ((rd_T80 x1 x5).f1.f0) ((rd_T80 x1 x5).f1.f1) ((rd_T80 x1 x5).f1.f2)).bind fun t324 => (if t324 = true then (laws_eqDeedS.l0 k x0 x1 (wrap64 (x5 + 1))) else (none))) else (none)) else (none)) else (some true)
def laws_eqDeedS.f (k : Nat) (l0 : List (S80)) (l1 : List (S80)) : Option (Bool) := if (l0.length : Int) = (l1.length : Int) then (laws_eqDeedS.l0 k l0 l1 0) else (none)
theorem laws_eqDeedS.mono_l : ∀ k, (∀ y0 y1 y2, LeO (laws_eqDeedS.l0 k y0 y1 y2) (laws_eqDeedS.l0 (k + 1) y0 y1 y2))
 | 0 => fun _ _ _ r h => by simp [laws_eqDeedS.l0] at h
 | k + 1 => by
  have ih0 := laws_eqDeedS.mono_l k
  ·intro y0 y1 y2
   unfold laws_eqDeedS.l0
   repeat' first
   | (with_reducible exact ih0 _ _ _)
   | (with_reducible exact LeO.refl _)
   | (with_reducible exact LeO.none _)
   | (with_reducible refine LeO.ite ?_ ?_)
   | (with_reducible refine LeO.bind ?_ (fun _ => ?_))
   | exact ih0 _ _ _
   | exact LeO.none _
   | refine LeO.ite ?_ ?_
   | refine LeO.bind ?_ (fun _ => ?_)
theorem laws_eqDeedS.mono : ∀ a0 a1 k, LeO (laws_eqDeedS.f k a0 a1) (laws_eqDeedS.f (k + 1) a0 a1) := by
 intro a0 a1 k
 have ih0 := laws_eqDeedS.mono_l k
 unfold laws_eqDeedS.f
 repeat' first
   | (with_reducible exact ih0 _ _ _)
   | (with_reducible exact LeO.refl _)
   | (with_reducible exact LeO.none _)
   | (with_reducible refine LeO.ite ?_ ?_)
   | (with_reducible refine LeO.bind ?_ (fun _ => ?_))
   | exact ih0 _ _ _
   | exact LeO.none _
   | refine LeO.ite ?_ ?_
   | refine LeO.bind ?_ (fun _ => ?_)
def laws_eqDeedS.T6 : Bool × List (List Nat × List Nat) := (true, [([], []), ([], []), ([0, 1], [0, 1]), ([2], [2]), ([], []), ([], []), ([4, 5], [4, 5]), ([6], [6]), ([3, 7], [3, 7]), ([8], [8])])
def laws_eqDeedS.B6 : List Nat := [0, 0, 3, 7, 0, 0, 48, 112, 255, 511]
theorem laws_eqDeedS.tab6 : rtab .any (opsOf Try.f35 6) = laws_eqDeedS.T6 := by kernel_rfl
theorem laws_eqDeedS.bits6 : waitsOk laws_eqDeedS.T6.2 laws_eqDeedS.B6 = true := by kernel_rfl
set_option maxHeartbeats 8000000 in
set_option maxRecDepth 100000 in
theorem laws_eqDeedS.calls (k : Nat) (A0 : Option Addr) (c0 : Nat) (l0 : List (S80)) (A1 : Option Addr) (c1 : Nat) (l1 : List (S80)) (r : Bool) (w : World) (hr0 : Kd.C k80 w A0 l0.length l0) (hc0 : l0.length ≤ c0) (hr1 : Kd.C k80 w A1 l1.length l1) (hc1 : l1.length ≤ c1) (h : laws_eqDeedS.f k l0 l1 = some r) :
  Calls Try.prog 35 #[.slice A0 l0.length c0, .slice A1 l1.length c1] w fun e w' => e = .returned (.bool r) ∧ Below w.heap.size w w' := by
 have hu80 := Try.underlying80
 have HR0 := Gv.a0 hr0
 have HC0 := Gv.a0 hc0
 clear hr0 hc0
 have HR1 := Gv.a0 hr1
 have HC1 := Gv.a0 hc1
 clear hr1 hc1
 have HB := Gv.a0 (Below.refl w.heap.size w)
 have H : (if (l0.length : Int) = (l1.length : Int) then (laws_eqDeedS.l0 k l0 l1 0) else (none)) = some r := h
 clear h
 by_cases c3 : (l0.length : Int) = (l1.length : Int)
 ·rw [if_pos c3] at H
  have c3b0 : ((l0.length : Int) == (l1.length : Int)) = true := beq_iff_eq.mpr c3
  have c3b1 : ((l0.length : Int) != (l1.length : Int)) = false := bne_eq_false_iff_eq.mpr c3
  have c3b2 : (l0.length == l1.length) = true := by first | simpa using c3 | (simp at c3 ⊢; omega)
  clear c3
  have H' := Gv.a0 H
  clear H
  go_enter Try.func35, Try.ntmps35
  go_wp2
  go_loopg [5] k (fun kq v5 w' => ∃ (x5_1 : Int), v5 = .int .i64 x5_1 ∧ Aside0 (laws_eqDeedS.l0 kq l0 l1 x5_1 = some r) ∧ Aside0 (kq ≤ k) ∧ Aside0 (Below w.heap.size w w'))
  case atStart => exact ⟨(0), Gv.rq, H', ⟨Nat.le_refl _⟩, ⟨Gv.bw⟩⟩
  case round =>
   clear H'
   try clear c1
   try clear p2
   try clear c3
   try clear c3b0
   try clear c3b1
   try clear c3b2
   obtain ⟨x5_1, rfl, HA, HK1, HB⟩ := hrel
   cases gk with
   | zero => exact absurd HA.out (by simp [laws_eqDeedS.l0])
   | succ k1 =>
    have H := HA.out
    clear HA
    simp only [laws_eqDeedS.l0] at H
    by_cases c4 : x5_1 < (l0.length : Int)
    ·rw [if_pos c4] at H
     have c4b0 : decide (x5_1 < (l0.length : Int)) = true := decide_eq_true c4
     clear c4
     by_cases c5 : 0 ≤ x5_1
     ·rw [if_pos c5] at H
      have c5b0 : decide (0 ≤ x5_1) = true := decide_eq_true c5
      clear c5
      by_cases c6 : x5_1 < (l1.length : Int)
      ·rw [if_pos c6] at H
       have c6b0 : decide (x5_1 < (l1.length : Int)) = true := decide_eq_true c6
       clear c6
       replace H := Option.bind_eq_some_iff.mp H
       obtain ⟨t324, A70, H⟩ := H
       replace H : (if t324 = true then (laws_eqDeedS.l0 k1 l0 l1 (wrap64 (x5_1 + 1))) else (none)) = some r := H
       have A7 := Gv.a0 A70
       clear A70
       by_cases c8 : t324 = true
       ·subst c8
        have H1 : (laws_eqDeedS.l0 k1 l0 l1 (wrap64 (x5_1 + 1))) = some r := by rw [if_pos rfl] at H; exact H
        clear H
        have H := H1
        clear H1
        have H' := Gv.a0 H
        clear H
        try go_wp2
        have n0_ := Gv.a0 (below_drew1 HB.out)
        clear HB
        have HB := n0_
        clear n0_
        have p322 : 0 ≤ (x5_1 : Int) := of_decide_eq_true (by first | (with_reducible assumption) | assumption)
        have q322 : x5_1 < (l0.length : Int) := of_decide_eq_true (by first | (with_reducible assumption) | assumption)
        obtain ⟨ad322, e322, hx322_0, hx322_1, hx322_2, hx322_3⟩ := at_T80 HR0.out x5_1 p322 q322
        have hw322_3 := hx322_3
        have hw322_2 := hx322_2
        have hw322_1 := hx322_1
        have hw322_0 := hx322_0
        cases e322
        replace hx322_0 := Gv.bx HB.out hx322_0
        replace hx322_1 := Gv.bx HB.out hx322_1
        replace hx322_2 := Gv.bx HB.out hx322_2
        replace hx322_3 := Gv.bx HB.out hx322_3
        replace p322 := eq_true p322
        replace q322 := eq_true q322
        have p323 : 0 ≤ (x5_1 : Int) := of_decide_eq_true (by first | (with_reducible assumption) | assumption)
        have q323 : x5_1 < (l1.length : Int) := of_decide_eq_true (by first | (with_reducible assumption) | assumption)
        obtain ⟨ad323, e323, hx323_0, hx323_1, hx323_2, hx323_3⟩ := at_T80 HR1.out x5_1 p323 q323
        have hw323_3 := hx323_3
        have hw323_2 := hx323_2
        have hw323_1 := hx323_1
        have hw323_0 := hx323_0
        cases e323
        replace hx323_0 := Gv.bx HB.out hx323_0
        replace hx323_1 := Gv.bx HB.out hx323_1
        replace hx323_2 := Gv.bx HB.out hx323_2
        replace hx323_3 := Gv.bx HB.out hx323_3
        replace p323 := eq_true p323
        replace q323 := eq_true q323
        refine start_ (n := 10) (S := fun w' => w'.cell? (ad322.add ((x5_1).toNat * 4)) = some (.bool ((rd_T80 l0 x5_1).f0)) ∧ w'.cell? ⟨(ad322.add ((x5_1).toNat * 4)).block, (ad322.add ((x5_1).toNat * 4)).off + 1, none⟩ = some (.int .i64 ((rd_T80 l0 x5_1).f1.f0)) ∧ w'.cell? ⟨(ad322.add ((x5_1).toNat * 4)).block, (ad322.add ((x5_1).toNat * 4)).off + 2, none⟩ = some (.int .i64 ((rd_T80 l0 x5_1).f1.f1)) ∧ w'.cell? ⟨(ad322.add ((x5_1).toNat * 4)).block, (ad322.add ((x5_1).toNat * 4)).off + 3, none⟩ = some (.int .i64 ((rd_T80 l0 x5_1).f1.f2)) ∧ w'.cell? (ad323.add ((x5_1).toNat * 4)) = some (.bool ((rd_T80 l1 x5_1).f0)) ∧ w'.cell? ⟨(ad323.add ((x5_1).toNat * 4)).block, (ad323.add ((x5_1).toNat * 4)).off + 1, none⟩ = some (.int .i64 ((rd_T80 l1 x5_1).f1.f0)) ∧ w'.cell? ⟨(ad323.add ((x5_1).toNat * 4)).block, (ad323.add ((x5_1).toNat * 4)).off + 2, none⟩ = some (.int .i64 ((rd_T80 l1 x5_1).f1.f1)) ∧ w'.cell? ⟨(ad323.add ((x5_1).toNat * 4)).block, (ad323.add ((x5_1).toNat * 4)).off + 3, none⟩ = some (.int .i64 ((rd_T80 l1 x5_1).f1.f2))) (ds := []) #[false, false, false, false, false, false, false, false, false, false] (by kernel_rfl) rfl rfl ⟨(Gv.bx HB.out hw322_0), (Gv.bx HB.out hw322_1), (Gv.bx HB.out hw322_2), (Gv.bx HB.out hw322_3), (Gv.bx HB.out hw323_0), (Gv.bx HB.out hw323_1), (Gv.bx HB.out hw323_2), (Gv.bx HB.out hw323_3)⟩ (fun hHeld => ?_); refine with_tabW laws_eqDeedS.tab6 laws_eqDeedS.bits6 (fun HT_ HW_ => ?_)
        generalize wr.drew = w9 at HB hx322_0 hx322_1 hx322_2 hx322_3 hx323_0 hx323_1 hx323_2 hx323_3 hHeld ⊢
        refine Gv.pu 0 (some 17) HT_ ?_
        refine Gv.pu 1 (some 18) HT_ ?_
        refine Gv.pu 2 (some 19) HT_ ?_
        refine Gv.pu 4 (some 21) HT_ ?_
        refine Gv.pu 5 (some 22) HT_ ?_
        refine Gv.pu 6 (some 23) HT_ ?_
        refine take_ (i := 3) (N := some 20) (v := ?_) (a' := ?_) #[true, true, true, true, true, true, true, false, false, false] rfl rfl (take_ofW HT_.out HW_.out (by kernel_rfl)) (fun _ _ _ h => h) (Or.inl ⟨by rfl, ?_⟩) hHeld ?_ ?_
        rotate_left
        ·rintro w' ⟨s0, s1, s2, s3, s4, s5, s6, s7⟩
         go_simp
         with_reducible rfl
        rotate_left
        ·simp only [Act.put, List.setIfInBounds_toArray, List.set_cons_zero, List.set_cons_succ, i64_w, i32_w]
         rfl
        refine take_ (i := 7) (N := some 24) (v := ?_) (a' := ?_) #[true, true, true, true, true, true, true, true, false, false] rfl rfl (take_ofW HT_.out HW_.out (by kernel_rfl)) (fun _ _ _ h => h) (Or.inl ⟨by rfl, ?_⟩) hHeld ?_ ?_
        rotate_left
        ·rintro w' ⟨s0, s1, s2, s3, s4, s5, s6, s7⟩
         go_simp
         with_reducible rfl
        rotate_left
        ·simp only [Act.put, List.setIfInBounds_toArray, List.set_cons_zero, List.set_cons_succ, i64_w, i32_w]
         rfl
        refine one_ (i := 8) (N := some 25) #[true, true, true, true, true, true, true, true, true, false] rfl rfl (one_of HT_.out (by kernel_rfl)) (by decide) (fun K hK => ?_)
        refine goes_ Try.func75 (by kernel_rfl) rfl #[.agg #[.bool ((rd_T80 l0 x5_1).f0), .int .i64 ((rd_T80 l0 x5_1).f1.f0), .int .i64 ((rd_T80 l0 x5_1).f1.f1), .int .i64 ((rd_T80 l0 x5_1).f1.f2)], .agg #[.bool ((rd_T80 l1 x5_1).f0), .int .i64 ((rd_T80 l1 x5_1).f1.f0), .int .i64 ((rd_T80 l1 x5_1).f1.f1), .int .i64 ((rd_T80 l1 x5_1).f1.f2)]] (by rfl) rfl rfl Gv.lm ?_
        with_reducible refine (laws_eqDeed.calls ((rd_T80 l0 x5_1).f0) ((rd_T80 l0 x5_1).f1.f0) ((rd_T80 l0 x5_1).f1.f1) ((rd_T80 l0 x5_1).f1.f2) ((rd_T80 l1 x5_1).f0) ((rd_T80 l1 x5_1).f1.f0) ((rd_T80 l1 x5_1).f1.f1) ((rd_T80 l1 x5_1).f1.f2) true _ A7.out).mono ?_
        rintro e w10 ⟨rfl, hb⟩
        refine ⟨_, rfl, ?_⟩
        have n0_ := Gv.a0 (below_step Gv.bw hb)
        clear HB
        have HB := n0_
        clear n0_
        (try clear hb)
        (try clear hb2)
        (try clear hk)
        (try clear hi)
        refine hK.out _ _ ⟨(Gv.bx HB.out hw322_0), (Gv.bx HB.out hw322_1), (Gv.bx HB.out hw322_2), (Gv.bx HB.out hw322_3), (Gv.bx HB.out hw323_0), (Gv.bx HB.out hw323_1), (Gv.bx HB.out hw323_2), (Gv.bx HB.out hw323_3)⟩ (fun hHeld => ?_)
        clear hK K
        refine norm_ (a' := ?_) ?_ ?_
        rotate_left
        ·show Act.put _ (some 25) _ = _
         simp only [Act.put, List.setIfInBounds_toArray, List.set_cons_zero, List.set_cons_succ, i64_w, i32_w]
         rfl
        refine Gv.pu 9 (some 26) HT_ ?_
        refine done_ (done_of HT_.out (by kernel_rfl)) ?_
        try go_wp2
        go_roundg k1
        case measure => have := HK1.out; omega
        case rel => exact ⟨(wrap64 (x5_1 + 1)), Gv.rq, H', ⟨by have := HK1.out; omega⟩, ⟨Gv.bw⟩⟩
       ·replace c8 := Bool.eq_false_iff.mpr c8
        subst c8
        have H1 : (none) = some r := by rw [if_neg (show ¬ (false = true) by decide)] at H; exact H
        clear H
        have H := H1
        clear H1
        exact absurd H (by simp)
      ·rw [if_neg c6] at H
       exact absurd H (by simp)
     ·rw [if_neg c5] at H
      exact absurd H (by simp)
    ·rw [if_neg c4] at H
     have c4b0 : decide (x5_1 < (l0.length : Int)) = false := decide_eq_false c4
     clear c4
     obtain rfl := Option.some.inj H
     go_wp2
     go_ret
     exact ⟨Gv.rt, Gv.bw⟩
 ·rw [if_neg c3] at H
  exact absurd H (by simp)

/-! ### laws_markDeedS: function 36 -/
def laws_markDeedS.f (l0 : List (S80)) (a1 : Int) : Option (Int × (List (S80))) := some (Gv.stepN (Gv.stepN Gv.nx 4) l0.length a1, Gv.mkL (fun a : Int => (⟨(Int.tmod (Gv.stepN Gv.nx 0 a) 3 == 0), (⟨(Gv.stepN Gv.nx 1 a), (Gv.stepN Gv.nx 2 a), (Gv.stepN Gv.nx 3 a)⟩ : S26)⟩ : S80)) (Gv.stepN Gv.nx 4) l0.length a1)
set_option maxHeartbeats 8000000 in
set_option maxRecDepth 100000 in
theorem laws_markDeedS.calls (P0_ : Nat → Prop) (u9000_ : Value) (l0 : List (S80)) (a1 : Int) (r1 : Int) (r2 : List (S80)) (w0 w : World) (hB : Below w0.heap.size w0 w) (ho0 : Kd.R k80 80 w w0.heap.size P0_ u9000_ l0) (h : laws_markDeedS.f l0 a1 = some (r1, r2)) :
  Calls Try.prog 36 #[u9000_, .int .i64 a1] w fun e w' => e = .returned (.int .i64 r1) ∧ Kd.R k80 80 w' w0.heap.size (fun k_ => (P0_ k_ ∨ w.heap.size ≤ k_)) u9000_ r2 ∧ Below w0.heap.size w0 w' ∧ Kept w w' (fun k_ => P0_ k_) := by
 obtain ⟨rfl, rfl⟩ := Prod.mk.inj (Option.some.inj h)
 clear h
 obtain ⟨hok, inner, ⟨hlen, ho⟩, hrep⟩ := ho0
 rcases ho with ⟨rfl, hz⟩ | ⟨g, cap, cur, rfl, hbase, hg, hnc, hcm, hsz, htk⟩
 ·have hl : l0 = [] := List.length_eq_zero_iff.1 hz
  subst hl
  have HB := Gv.a0 hB
  clear hrep hok hlen hB
  go_enter Try.func36, Try.ntmps36
  go_wp2
  go_loopg [1, 5] 0 (fun gg s1 s5 wr => s1 = .int .i64 a1 ∧ s5 = .int .i64 0 ∧ wr = w)
  case atStart => exact ⟨rfl, rfl, rfl⟩
  case round =>
   obtain ⟨rfl, rfl, rfl⟩ := hrel
   go_wp2_with fail
   go_ret
   exact ⟨rfl, Kd.R_nil _ _ _ _ _, HB.out, Kept.refl _ _⟩
 ·have hS : l0.length * 4 ≤ cap * 4 := Nat.mul_le_mul_right _ hnc
  have hN : inner.length = l0.length * 4 := hlen
  have hP : P0_ g := hok g rfl
  have hle : w0.heap.size ≤ g := hbase
  have hcap : cap ≤ 9223372036854775807 := by
   unfold maxLen at hcm
   omega
  have HM0 := Gv.a0 (show Gv.MK w0 w g 80 (l0.length * 4) (cap * 4) inner w [] 0 from ⟨rfl, ⟨cur, hg, hsz, htk⟩, fun _ _ => rfl, hB, Nat.le_refl _⟩)
  have HF := Gv.a0 (And.intro hnc (And.intro hcm hP))
  clear hok hlen hrep hbase hg hcm hsz htk hB hP hnc
  go_enter Try.func36, Try.ntmps36
  go_wp2
  go_loopg [1, 5] l0.length (fun gg s1 s5 wr => ∃ kk : Nat, kk ≤ l0.length ∧ l0.length - kk ≤ gg ∧ s1 = .int .i64 (Gv.stepN (Gv.stepN Gv.nx 4) kk a1) ∧ s5 = .int .i64 kk ∧ Aside0 (Gv.MK w0 w g 80 (l0.length * 4) (cap * 4) inner wr ((Gv.mkL (fun a : Int => (⟨(Int.tmod (Gv.stepN Gv.nx 0 a) 3 == 0), (⟨(Gv.stepN Gv.nx 1 a), (Gv.stepN Gv.nx 2 a), (Gv.stepN Gv.nx 3 a)⟩ : S26)⟩ : S80)) (Gv.stepN Gv.nx 4) kk a1).flatMap (fun x : S80 => ([.bool x.f0, .int .i64 x.f1.f0, .int .i64 x.f1.f1, .int .i64 x.f1.f2] : List Value))) (kk * 4)))
  case atStart => exact ⟨0, Nat.zero_le _, by omega, rfl, rfl, ⟨HM0.out⟩⟩
  case round =>
   obtain ⟨kk, hkk, hgg, rfl, rfl, HM⟩ := hrel
   obtain ⟨x_, hx_⟩ : ∃ x_, x_ = Gv.stepN (Gv.stepN Gv.nx 4) kk a1 := ⟨_, rfl⟩
   rw [← hx_]
   obtain ⟨done, hd_⟩ : ∃ d_, d_ = (Gv.mkL (fun a : Int => (⟨(Int.tmod (Gv.stepN Gv.nx 0 a) 3 == 0), (⟨(Gv.stepN Gv.nx 1 a), (Gv.stepN Gv.nx 2 a), (Gv.stepN Gv.nx 3 a)⟩ : S26)⟩ : S80)) (Gv.stepN Gv.nx 4) kk a1).flatMap (fun x : S80 => ([.bool x.f0, .int .i64 x.f1.f0, .int .i64 x.f1.f1, .int .i64 x.f1.f2] : List Value)) := ⟨_, rfl⟩
   rw [← hd_] at HM
   have HX := Gv.a0 hx_
   have HD := Gv.a0 hd_
   clear hx_ hd_
   by_cases hlt : kk < l0.length
   ·have hltz : (kk : Int) < (l0.length : Int) := by omega
    have hk0 : 0 ≤ (kk : Int) := by omega
    go_wp2_with (first | ((with_reducible refine gate_store (t := 3) rfl ?_); refine Gv.mark_event rfl rfl rfl rfl rfl (.inl ⟨_, _, rfl⟩) (by kernel_rfl) HM.out hS hN (by omega) (by omega) hle ?_; intro wm hM; have HM' := Gv.a0 hM; clear hM HM; have HM := HM'; clear HM') | ((with_reducible refine gate_store (t := 4) rfl ?_); refine Gv.mark_event rfl rfl rfl rfl rfl (.inr ⟨_, rfl⟩) (by kernel_rfl) HM.out hS hN (by omega) (by omega) hle ?_; intro wm hM; have HM' := Gv.a0 hM; clear hM HM; have HM := HM'; clear HM'))
    go_roundg (l0.length - (kk + 1))
    case measure => omega
    case rel =>
     refine ⟨kk + 1, by omega, by omega, by rw [Gv.stepN, ← HX.out]; rfl, by go_num, ⟨?_⟩⟩
     have hm := HM.out
     rw [HD.out] at hm
     rw [Gv.mkL, List.flatMap_append, ← HX.out, Nat.succ_mul]
     simp only [List.append_assoc, List.cons_append, List.nil_append] at hm
     exact hm
   ·have hk : kk = l0.length := by omega
    have hltz : ¬ (kk : Int) < (l0.length : Int) := by omega
    have HK := Gv.a0 hk
    clear hk
    go_wp2_with fail
    go_ret
    obtain ⟨h1, ⟨cur, h2, h3, h4⟩, h5, h6, h7⟩ := HM.out
    have hk := HK.out
    subst hk
    rw [HX.out]
    rw [HD.out, List.drop_eq_nil_of_le (by omega), List.append_nil] at h4
    refine ⟨rfl, ⟨fun k hk => ?_, _, ⟨?_, .inr ⟨g, cap, cur, ?_, hle, h2, ?_, HF.out.2.1, h3, ?_⟩⟩, Gv.mkL_reps _ _ _ (fun x => k80_mkM _ _ _ x) (fun _ => rfl) _⟩, h6, h7, fun i hi hni => h5 i (fun e => hni (by rw [e]; exact HF.out.2.2))⟩
    ·have : g = k := by simpa [Value.ownBlock] using hk
     subst this
     exact .inl HF.out.2.2
    ·rw [← HD.out, h1, Gv.mkL_length]; rfl
    ·rw [Gv.mkL_length]
    ·rw [Gv.mkL_length]; exact HF.out.1
    ·rw [Gv.mkL_length]; exact h4

/-! ### laws_markVecS: function 37 -/
def laws_markVecS.f (l0 : List (S26)) (a1 : Int) : Option (Int × (List (S26))) := some (Gv.stepN (Gv.stepN Gv.nx 3) l0.length a1, Gv.mkL (fun a : Int => (⟨(Gv.stepN Gv.nx 0 a), (Gv.stepN Gv.nx 1 a), (Gv.stepN Gv.nx 2 a)⟩ : S26)) (Gv.stepN Gv.nx 3) l0.length a1)
set_option maxHeartbeats 8000000 in
set_option maxRecDepth 100000 in
theorem laws_markVecS.calls (P0_ : Nat → Prop) (u9000_ : Value) (l0 : List (S26)) (a1 : Int) (r1 : Int) (r2 : List (S26)) (w0 w : World) (hB : Below w0.heap.size w0 w) (ho0 : Kd.R k26 26 w w0.heap.size P0_ u9000_ l0) (h : laws_markVecS.f l0 a1 = some (r1, r2)) :
  Calls Try.prog 37 #[u9000_, .int .i64 a1] w fun e w' => e = .returned (.int .i64 r1) ∧ Kd.R k26 26 w' w0.heap.size (fun k_ => (P0_ k_ ∨ w.heap.size ≤ k_)) u9000_ r2 ∧ Below w0.heap.size w0 w' ∧ Kept w w' (fun k_ => P0_ k_) := by
 obtain ⟨rfl, rfl⟩ := Prod.mk.inj (Option.some.inj h)
 clear h
 obtain ⟨hok, inner, ⟨hlen, ho⟩, hrep⟩ := ho0
 rcases ho with ⟨rfl, hz⟩ | ⟨g, cap, cur, rfl, hbase, hg, hnc, hcm, hsz, htk⟩
 ·have hl : l0 = [] := List.length_eq_zero_iff.1 hz
  subst hl
  have HB := Gv.a0 hB
  clear hrep hok hlen hB
  go_enter Try.func37, Try.ntmps37
  go_wp2
  go_loopg [1, 5] 0 (fun gg s1 s5 wr => s1 = .int .i64 a1 ∧ s5 = .int .i64 0 ∧ wr = w)
  case atStart => exact ⟨rfl, rfl, rfl⟩
  case round =>
   obtain ⟨rfl, rfl, rfl⟩ := hrel
   go_wp2_with fail
   go_ret
   exact ⟨rfl, Kd.R_nil _ _ _ _ _, HB.out, Kept.refl _ _⟩
 ·have hS : l0.length * 3 ≤ cap * 3 := Nat.mul_le_mul_right _ hnc
  have hN : inner.length = l0.length * 3 := hlen
  have hP : P0_ g := hok g rfl
  have hle : w0.heap.size ≤ g := hbase
  have hcap : cap ≤ 9223372036854775807 := by
   unfold maxLen at hcm
   omega
  have HM0 := Gv.a0 (show Gv.MK w0 w g 26 (l0.length * 3) (cap * 3) inner w [] 0 from ⟨rfl, ⟨cur, hg, hsz, htk⟩, fun _ _ => rfl, hB, Nat.le_refl _⟩)
  have HF := Gv.a0 (And.intro hnc (And.intro hcm hP))
  clear hok hlen hrep hbase hg hcm hsz htk hB hP hnc
  go_enter Try.func37, Try.ntmps37
  go_wp2
  go_loopg [1, 5] l0.length (fun gg s1 s5 wr => ∃ kk : Nat, kk ≤ l0.length ∧ l0.length - kk ≤ gg ∧ s1 = .int .i64 (Gv.stepN (Gv.stepN Gv.nx 3) kk a1) ∧ s5 = .int .i64 kk ∧ Aside0 (Gv.MK w0 w g 26 (l0.length * 3) (cap * 3) inner wr ((Gv.mkL (fun a : Int => (⟨(Gv.stepN Gv.nx 0 a), (Gv.stepN Gv.nx 1 a), (Gv.stepN Gv.nx 2 a)⟩ : S26)) (Gv.stepN Gv.nx 3) kk a1).flatMap (fun x : S26 => ([.int .i64 x.f0, .int .i64 x.f1, .int .i64 x.f2] : List Value))) (kk * 3)))
  case atStart => exact ⟨0, Nat.zero_le _, by omega, rfl, rfl, ⟨HM0.out⟩⟩
  case round =>
   obtain ⟨kk, hkk, hgg, rfl, rfl, HM⟩ := hrel
   obtain ⟨x_, hx_⟩ : ∃ x_, x_ = Gv.stepN (Gv.stepN Gv.nx 3) kk a1 := ⟨_, rfl⟩
   rw [← hx_]
   obtain ⟨done, hd_⟩ : ∃ d_, d_ = (Gv.mkL (fun a : Int => (⟨(Gv.stepN Gv.nx 0 a), (Gv.stepN Gv.nx 1 a), (Gv.stepN Gv.nx 2 a)⟩ : S26)) (Gv.stepN Gv.nx 3) kk a1).flatMap (fun x : S26 => ([.int .i64 x.f0, .int .i64 x.f1, .int .i64 x.f2] : List Value)) := ⟨_, rfl⟩
   rw [← hd_] at HM
   have HX := Gv.a0 hx_
   have HD := Gv.a0 hd_
   clear hx_ hd_
   by_cases hlt : kk < l0.length
   ·have hltz : (kk : Int) < (l0.length : Int) := by omega
    have hk0 : 0 ≤ (kk : Int) := by omega
    go_wp2_with (first | ((with_reducible refine gate_store (t := 3) rfl ?_); refine Gv.mark_event rfl rfl rfl rfl rfl (.inl ⟨_, _, rfl⟩) (by kernel_rfl) HM.out hS hN (by omega) (by omega) hle ?_; intro wm hM; have HM' := Gv.a0 hM; clear hM HM; have HM := HM'; clear HM'))
    go_roundg (l0.length - (kk + 1))
    case measure => omega
    case rel =>
     refine ⟨kk + 1, by omega, by omega, by rw [Gv.stepN, ← HX.out]; rfl, by go_num, ⟨?_⟩⟩
     have hm := HM.out
     rw [HD.out] at hm
     rw [Gv.mkL, List.flatMap_append, ← HX.out, Nat.succ_mul]
     simp only [List.append_assoc, List.cons_append, List.nil_append] at hm
     exact hm
   ·have hk : kk = l0.length := by omega
    have hltz : ¬ (kk : Int) < (l0.length : Int) := by omega
    have HK := Gv.a0 hk
    clear hk
    go_wp2_with fail
    go_ret
    obtain ⟨h1, ⟨cur, h2, h3, h4⟩, h5, h6, h7⟩ := HM.out
    have hk := HK.out
    subst hk
    rw [HX.out]
    rw [HD.out, List.drop_eq_nil_of_le (by omega), List.append_nil] at h4
    refine ⟨rfl, ⟨fun k hk => ?_, _, ⟨?_, .inr ⟨g, cap, cur, ?_, hle, h2, ?_, HF.out.2.1, h3, ?_⟩⟩, Gv.mkL_reps _ _ _ (fun x => k26_mkM _ _ _ x) (fun _ => rfl) _⟩, h6, h7, fun i hi hni => h5 i (fun e => hni (by rw [e]; exact HF.out.2.2))⟩
    ·have : g = k := by simpa [Value.ownBlock] using hk
     subst this
     exact .inl HF.out.2.2
    ·rw [← HD.out, h1, Gv.mkL_length]; rfl
    ·rw [Gv.mkL_length]
    ·rw [Gv.mkL_length]; exact HF.out.1
    ·rw [Gv.mkL_length]; exact h4

/-! ### laws_heldVecS: function 38 -/
def laws_heldVecS.f (l0 : List (S26)) (a1 : Int) : Option (Int) := Gv.heldL (fun (x : S26) (a : Int) => decide (x.f0 = Gv.stepN Gv.nx 0 a) && (decide (x.f1 = Gv.stepN Gv.nx 1 a) && (decide (x.f2 = Gv.stepN Gv.nx 2 a)))) (Gv.stepN Gv.nx 3) l0 a1
set_option maxHeartbeats 8000000 in
set_option maxRecDepth 100000 in
theorem laws_heldVecS.calls (A0 : Option Addr) (c0 : Nat) (l0 : List (S26)) (a1 : Int) (r : Int) (w : World) (hr0 : Kd.C k26 w A0 l0.length l0) (hc0 : l0.length ≤ c0) (h : laws_heldVecS.f l0 a1 = some r) :
  Calls Try.prog 38 #[.slice A0 l0.length c0, .int .i64 a1] w fun e w' => e = .returned (.int .i64 r) ∧ Below w.heap.size w w' := by
 have hlm := hr0.2.1
 have HR0 := Gv.a0 hr0
 have H0 := Gv.a0 h
 clear hr0 h hc0
 go_enter Try.func38, Try.ntmps38
 go_wp2
 go_loopg [1, 5] l0.length (fun gg s1 s5 wr => ∃ (kk : Nat) (x_ : Int), kk ≤ l0.length ∧ l0.length - kk ≤ gg ∧ s1 = .int .i64 x_ ∧ s5 = .int .i64 kk ∧ Aside0 (Gv.heldL (fun (x : S26) (a : Int) => decide (x.f0 = Gv.stepN Gv.nx 0 a) && (decide (x.f1 = Gv.stepN Gv.nx 1 a) && (decide (x.f2 = Gv.stepN Gv.nx 2 a)))) (Gv.stepN Gv.nx 3) (l0.drop kk) x_ = some r) ∧ Aside0 (Drawn0 w wr))
 case atStart => exact ⟨0, a1, Nat.zero_le _, by omega, rfl, rfl, ⟨H0.out⟩, ⟨Drawn0.refl w⟩⟩
 case round =>
  obtain ⟨kk, z0, hkk, hg, rfl, rfl, HN, HD⟩ := hrel
  by_cases hlt : kk < l0.length
  ·have hltz : (kk : Int) < (l0.length : Int) := by omega
   have hk0 : 0 ≤ (kk : Int) := by omega
   obtain ⟨ad, e1, hx0, hx1, hx2⟩ := at_T26 (Kd.C_below HR0.out HD.out.below) (kk : Int) hk0 hltz
   cases e1
   obtain ⟨y_, hy_⟩ : ∃ y_, y_ = rd_T26 l0 kk := ⟨_, rfl⟩
   rw [← hy_, Int.toNat_natCast] at hx0 hx1 hx2
   have hN := HN.out
   have hget : l0.drop kk = y_ :: l0.drop (kk + 1) := by
    rw [hy_, List.drop_eq_getElem_cons hlt]
    congr 1
    unfold rd_T26
    rw [Int.toNat_natCast, List.getD_eq_getElem?_getD, List.getElem?_eq_getElem hlt]
    rfl
   rw [hget, Gv.heldL] at hN
   clear hget hy_ HN
   by_cases hq : (fun (x : S26) (a : Int) => decide (x.f0 = Gv.stepN Gv.nx 0 a) && (decide (x.f1 = Gv.stepN Gv.nx 1 a) && (decide (x.f2 = Gv.stepN Gv.nx 2 a)))) y_ z0 = true
   ·rw [if_pos hq] at hN
    simp only [Bool.and_eq_true, decide_eq_true_eq] at hq
    obtain ⟨q0, q1, q2⟩ := hq
    have e0 : Gv.stepN Gv.nx 0 z0 = z0 := rfl
    obtain ⟨z1, hw1⟩ : ∃ z_, IntKind.i64.wrap (z0 + 1) = z_ := ⟨_, rfl⟩
    have e1 : Gv.stepN Gv.nx 1 z0 = z1 := by rw [Gv.stepN, e0]; first | exact hw1 | exact (i64_w _).symm.trans hw1
    obtain ⟨z2, hw2⟩ : ∃ z_, IntKind.i64.wrap (z1 + 1) = z_ := ⟨_, rfl⟩
    have e2 : Gv.stepN Gv.nx 2 z0 = z2 := by rw [Gv.stepN, e1]; first | exact hw2 | exact (i64_w _).symm.trans hw2
    obtain ⟨z3, hw3⟩ : ∃ z_, IntKind.i64.wrap (z2 + 1) = z_ := ⟨_, rfl⟩
    have e3 : Gv.stepN Gv.nx 3 z0 = z3 := by rw [Gv.stepN, e2]; first | exact hw3 | exact (i64_w _).symm.trans hw3
    rw [q0, e0] at hx0
    rw [q1, e1] at hx1
    rw [q2, e2] at hx2
    rw [e3] at hN
    have HN2 := Gv.a0 hN
    clear hN q0 q1 q2
    go_wp2_with fail
    go_roundg (l0.length - (kk + 1))
    case measure => omega
    case rel => exact ⟨kk + 1, z3, by omega, by omega, by simp [*], by go_num, HN2, HD⟩
   ·rw [if_neg hq] at hN
    cases hN
  ·have hltz : ¬ (kk : Int) < (l0.length : Int) := by omega
   have hN := HN.out
   rw [List.drop_eq_nil_of_le (by omega), Gv.heldL] at hN
   have HN2 := Gv.a0 (Option.some.inj hN)
   clear hN
   go_wp2_with fail
   go_ret
   exact ⟨by rw [← HN2.out]; rfl, by first | exact HD.out | exact HD.out.below⟩

/-! ### laws_FnExactCarryRun: function 10 -/
def laws_FnExactCarryRun.f (k : Nat) (l0 : List (S83)) : Option (Bool) := (laws_szDeedS.f l0 1048576).bind fun t327 => (if t327 < 0 then (some true) else ((laws_toDeedS.f k l0).bind fun t328 => ((spec_CarryRun.f k t328).bind fun bt331 => ((laws_toDeedS.f k l0).bind fun t339 => ((impl_CarryRun.f k t339).bind fun bt342 => ((laws_eqVecS.f k bt342.1 bt331.1).bind fun t350 => (if t350 = true then ((laws_eqVec.f bt342.2.1 bt342.2.2.1 bt342.2.2.2.1 bt331.2.1 bt331.2.2.1 bt331.2.2.2.1).bind fun t351 => (if t351 = true then (if bt342.2.2.2.2 = bt331.2.2.2.2 then ((laws_toDeedS.f k l0).bind fun t352 => ((laws_eqDeedS.f k t339 t352).bind fun t355 => (if t355 = true then ((laws_markDeedS.f t339 1).bind fun bt356 => (if bt356.1 < 0 then (none) else ((laws_eqVecS.f k bt342.1 bt331.1).bind fun t358 => (if t358 = true then ((laws_eqVec.f bt342.2.1 bt342.2.2.1 bt342.2.2.2.1 bt331.2.1 bt331.2.2.1 bt331.2.2.2.1).bind fun t359 => (if t359 = true then ((laws_markVecS.f bt342.1 1).bind fun bt360 => ((laws_heldVecS.f bt360.2 1).bind fun t362 => (if t362 < 0 then (none) else (if t362 = bt360.1 then ((laws_toDeedS.f k l0).bind fun t363 => ((impl_CarryRun.f k t363).bind fun bt366 => ((laws_eqVecS.f k bt366.1 bt331.1).bind fun t374 => (if t374 = true then ((laws_eqVec.f bt366.2.1 bt366.2.2.1 bt366.2.2.2.1 bt331.2.1 bt331.2.2.1 bt331.2.2.2.1).bind fun t375 => (if t375 = true then (if bt366.2.2.2.2 = bt331.2.2.2.2 then ((laws_heldVecS.f bt360.2 1).bind fun t376 => (if t376 < 0 then (none) else (if t376 = bt360.1 then (some true) else (none)))) else (none)) else (none))) else (none))))) else (none))))) else (none))) else (none))))) else (none)))) else (none)) else (none))) else (none))))))))
theorem laws_FnExactCarryRun.mono : ∀ a0 k, LeO (laws_FnExactCarryRun.f k a0) (laws_FnExactCarryRun.f (k + 1) a0) := by
 intro a0 k
 unfold laws_FnExactCarryRun.f
 repeat' first
   | (with_reducible exact impl_CarryRun.mono _ _)
   | (with_reducible exact laws_eqDeedS.mono _ _ _)
   | (with_reducible exact laws_eqVecS.mono _ _ _)
   | (with_reducible exact laws_toDeedS.mono _ _)
   | (with_reducible exact spec_CarryRun.mono _ _)
   | (with_reducible exact LeO.refl _)
   | (with_reducible exact LeO.none _)
   | (with_reducible refine LeO.ite ?_ ?_)
   | (with_reducible refine LeO.bind ?_ (fun _ => ?_))
   | exact impl_CarryRun.mono _ _
   | exact laws_eqDeedS.mono _ _ _
   | exact laws_eqVecS.mono _ _ _
   | exact laws_toDeedS.mono _ _
   | exact spec_CarryRun.mono _ _
   | exact LeO.none _
   | refine LeO.ite ?_ ?_
   | refine LeO.bind ?_ (fun _ => ?_)
set_option maxHeartbeats 8000000 in
set_option maxRecDepth 100000 in
theorem laws_FnExactCarryRun.calls (k : Nat) (A0 : Option Addr) (c0 : Nat) (l0 : List (S83)) (r : Bool) (w : World) (hr0 : Kd.C k83 w A0 l0.length l0) (hc0 : l0.length ≤ c0) (h : laws_FnExactCarryRun.f k l0 = some r) :
  Calls Try.prog 10 #[.slice A0 l0.length c0] w fun e w' => e = .returned (.bool r) ∧ Below w.heap.size w w' := by
 have hu26 := Try.underlying26
 have HR0 := Gv.a0 hr0
 have HC0 := Gv.a0 hc0
 clear hr0 hc0
 have HB := Gv.a0 (Below.refl w.heap.size w)
 have H : ((laws_szDeedS.f l0 1048576).bind fun t327 => (if t327 < 0 then (some true) else ((laws_toDeedS.f k l0).bind fun t328 => ((spec_CarryRun.f k t328).bind fun bt331 => ((laws_toDeedS.f k l0).bind fun t339 => ((impl_CarryRun.f k t339).bind fun bt342 => ((laws_eqVecS.f k bt342.1 bt331.1).bind fun t350 => (if t350 = true then ((laws_eqVec.f bt342.2.1 bt342.2.2.1 bt342.2.2.2.1 bt331.2.1 bt331.2.2.1 bt331.2.2.2.1).bind fun t351 => (if t351 = true then (if bt342.2.2.2.2 = bt331.2.2.2.2 then ((laws_toDeedS.f k l0).bind fun t352 => ((laws_eqDeedS.f k t339 t352).bind fun t355 => (if t355 = true then ((laws_markDeedS.f t339 1).bind fun bt356 => (if bt356.1 < 0 then (none) else ((laws_eqVecS.f k bt342.1 bt331.1).bind fun t358 => (if t358 = true then ((laws_eqVec.f bt342.2.1 bt342.2.2.1 bt342.2.2.2.1 bt331.2.1 bt331.2.2.1 bt331.2.2.2.1).bind fun t359 => (if t359 = true then ((laws_markVecS.f bt342.1 1).bind fun bt360 => ((laws_heldVecS.f bt360.2 1).bind fun t362 => (if t362 < 0 then (none) else (if t362 = bt360.1 then ((laws_toDeedS.f k l0).bind fun t363 => ((impl_CarryRun.f k t363).bind fun bt366 => ((laws_eqVecS.f k bt366.1 bt331.1).bind fun t374 => (if t374 = true then ((laws_eqVec.f bt366.2.1 bt366.2.2.1 bt366.2.2.2.1 bt331.2.1 bt331.2.2.1 bt331.2.2.2.1).bind fun t375 => (if t375 = true then (if bt366.2.2.2.2 = bt331.2.2.2.2 then ((laws_heldVecS.f bt360.2 1).bind fun t376 => (if t376 < 0 then (none) else (if t376 = bt360.1 then (some true) else (none)))) else (none)) else (none))) else (none))))) else (none))))) else (none))) else (none))))) else (none)))) else (none)) else (none))) else (none))))))))) = some r := h
 clear h
 replace H := Option.bind_eq_some_iff.mp H
 obtain ⟨t327, A20, H⟩ := H
 replace H : (if t327 < 0 then (some true) else ((laws_toDeedS.f k l0).bind fun t328 => ((spec_CarryRun.f k t328).bind fun bt331 => ((laws_toDeedS.f k l0).bind fun t339 => ((impl_CarryRun.f k t339).bind fun bt342 => ((laws_eqVecS.f k bt342.1 bt331.1).bind fun t350 => (if t350 = true then ((laws_eqVec.f bt342.2.1 bt342.2.2.1 bt342.2.2.2.1 bt331.2.1 bt331.2.2.1 bt331.2.2.2.1).bind fun t351 => (if t351 = true then (if bt342.2.2.2.2 = bt331.2.2.2.2 then ((laws_toDeedS.f k l0).bind fun t352 => ((laws_eqDeedS.f k t339 t352).bind fun t355 => (if t355 = true then ((laws_markDeedS.f t339 1).bind fun bt356 => (if bt356.1 < 0 then (none) else ((laws_eqVecS.f k bt342.1 bt331.1).bind fun t358 => (if t358 = true then ((laws_eqVec.f bt342.2.1 bt342.2.2.1 bt342.2.2.2.1 bt331.2.1 bt331.2.2.1 bt331.2.2.2.1).bind fun t359 => (if t359 = true then ((laws_markVecS.f bt342.1 1).bind fun bt360 => ((laws_heldVecS.f bt360.2 1).bind fun t362 => (if t362 < 0 then (none) else (if t362 = bt360.1 then ((laws_toDeedS.f k l0).bind fun t363 => ((impl_CarryRun.f k t363).bind fun bt366 => ((laws_eqVecS.f k bt366.1 bt331.1).bind fun t374 => (if t374 = true then ((laws_eqVec.f bt366.2.1 bt366.2.2.1 bt366.2.2.2.1 bt331.2.1 bt331.2.2.1 bt331.2.2.2.1).bind fun t375 => (if t375 = true then (if bt366.2.2.2.2 = bt331.2.2.2.2 then ((laws_heldVecS.f bt360.2 1).bind fun t376 => (if t376 < 0 then (none) else (if t376 = bt360.1 then (some true) else (none)))) else (none)) else (none))) else (none))))) else (none))))) else (none))) else (none))))) else (none)))) else (none)) else (none))) else (none)))))))) = some r := H
 have A2 := Gv.a0 A20
 clear A20
 by_cases c3 : t327 < 0
 ·rw [if_pos c3] at H
  have c3b0 : decide (t327 < 0) = true := decide_eq_true c3
  clear c3
  obtain rfl := Option.some.inj H
  go_enter Try.func10, Try.ntmps10
  go_wp2_with (first | ((with_reducible refine gate_callee (f := 30) rfl ?_); refine goesL_ (some 19) rfl rfl Try.func30 (by kernel_rfl) rfl #[.slice A0 l0.length c0, .int .i64 1048576] rfl Gv.lm ?_; (with_reducible refine (laws_szDeedS.calls _ _ l0 1048576 t327 _ ?side1 ?side2 A2.out).mono ?_); (case side1 => repeat (first | exact HR0.out | (with_reducible refine Kd.C_alloc ?_ _) | (with_reducible refine Kd.C_drewN ?_ _) | (with_reducible refine Kd.C_drew ?_))); (case side2 => exact HC0.out); rintro e w' ⟨rfl, ⟨nd, rfl⟩⟩; refine ⟨_, rfl, ?_⟩))
  go_ret
  exact ⟨Gv.rt, Gv.bw⟩
 ·rw [if_neg c3] at H
  have c3b0 : decide (t327 < 0) = false := decide_eq_false c3
  clear c3
  replace H := Option.bind_eq_some_iff.mp H
  obtain ⟨t328, A40, H⟩ := H
  replace H : ((spec_CarryRun.f k t328).bind fun bt331 => ((laws_toDeedS.f k l0).bind fun t339 => ((impl_CarryRun.f k t339).bind fun bt342 => ((laws_eqVecS.f k bt342.1 bt331.1).bind fun t350 => (if t350 = true then ((laws_eqVec.f bt342.2.1 bt342.2.2.1 bt342.2.2.2.1 bt331.2.1 bt331.2.2.1 bt331.2.2.2.1).bind fun t351 => (if t351 = true then (if bt342.2.2.2.2 = bt331.2.2.2.2 then ((laws_toDeedS.f k l0).bind fun t352 => ((laws_eqDeedS.f k t339 t352).bind fun t355 => (if t355 = true then ((laws_markDeedS.f t339 1).bind fun bt356 => (if bt356.1 < 0 then (none) else ((laws_eqVecS.f k bt342.1 bt331.1).bind fun t358 => (if t358 = true then ((laws_eqVec.f bt342.2.1 bt342.2.2.1 bt342.2.2.2.1 bt331.2.1 bt331.2.2.1 bt331.2.2.2.1).bind fun t359 => (if t359 = true then ((laws_markVecS.f bt342.1 1).bind fun bt360 => ((laws_heldVecS.f bt360.2 1).bind fun t362 => (if t362 < 0 then (none) else (if t362 = bt360.1 then ((laws_toDeedS.f k l0).bind fun t363 => ((impl_CarryRun.f k t363).bind fun bt366 => ((laws_eqVecS.f k bt366.1 bt331.1).bind fun t374 => (if t374 = true then ((laws_eqVec.f bt366.2.1 bt366.2.2.1 bt366.2.2.2.1 bt331.2.1 bt331.2.2.1 bt331.2.2.2.1).bind fun t375 => (if t375 = true then (if bt366.2.2.2.2 = bt331.2.2.2.2 then ((laws_heldVecS.f bt360.2 1).bind fun t376 => (if t376 < 0 then (none) else (if t376 = bt360.1 then (some true) else (none)))) else (none)) else (none))) else (none))))) else (none))))) else (none))) else (none))))) else (none)))) else (none)) else (none))) else (none)))))) = some r := H
  have A4 := Gv.a0 A40
  clear A40
  replace H := Option.bind_eq_some_iff.mp H
  obtain ⟨⟨t331, t334, t335, t336, t337⟩, A50, H⟩ := H
  replace H : ((laws_toDeedS.f k l0).bind fun t339 => ((impl_CarryRun.f k t339).bind fun bt342 => ((laws_eqVecS.f k bt342.1 t331).bind fun t350 => (if t350 = true then ((laws_eqVec.f bt342.2.1 bt342.2.2.1 bt342.2.2.2.1 t334 t335 t336).bind fun t351 => (if t351 = true then (if bt342.2.2.2.2 = t337 then ((laws_toDeedS.f k l0).bind fun t352 => ((laws_eqDeedS.f k t339 t352).bind fun t355 => (if t355 = true then ((laws_markDeedS.f t339 1).bind fun bt356 => (if bt356.1 < 0 then (none) else ((laws_eqVecS.f k bt342.1 t331).bind fun t358 => (if t358 = true then ((laws_eqVec.f bt342.2.1 bt342.2.2.1 bt342.2.2.2.1 t334 t335 t336).bind fun t359 => (if t359 = true then ((laws_markVecS.f bt342.1 1).bind fun bt360 => ((laws_heldVecS.f bt360.2 1).bind fun t362 => (if t362 < 0 then (none) else (if t362 = bt360.1 then ((laws_toDeedS.f k l0).bind fun t363 => ((impl_CarryRun.f k t363).bind fun bt366 => ((laws_eqVecS.f k bt366.1 t331).bind fun t374 => (if t374 = true then ((laws_eqVec.f bt366.2.1 bt366.2.2.1 bt366.2.2.2.1 t334 t335 t336).bind fun t375 => (if t375 = true then (if bt366.2.2.2.2 = t337 then ((laws_heldVecS.f bt360.2 1).bind fun t376 => (if t376 < 0 then (none) else (if t376 = bt360.1 then (some true) else (none)))) else (none)) else (none))) else (none))))) else (none))))) else (none))) else (none))))) else (none)))) else (none)) else (none))) else (none))))) = some r := H
  have A5 := Gv.a0 A50
  clear A50
  replace H := Option.bind_eq_some_iff.mp H
  obtain ⟨t339, A60, H⟩ := H
  replace H : ((impl_CarryRun.f k t339).bind fun bt342 => ((laws_eqVecS.f k bt342.1 t331).bind fun t350 => (if t350 = true then ((laws_eqVec.f bt342.2.1 bt342.2.2.1 bt342.2.2.2.1 t334 t335 t336).bind fun t351 => (if t351 = true then (if bt342.2.2.2.2 = t337 then ((laws_toDeedS.f k l0).bind fun t352 => ((laws_eqDeedS.f k t339 t352).bind fun t355 => (if t355 = true then ((laws_markDeedS.f t339 1).bind fun bt356 => (if bt356.1 < 0 then (none) else ((laws_eqVecS.f k bt342.1 t331).bind fun t358 => (if t358 = true then ((laws_eqVec.f bt342.2.1 bt342.2.2.1 bt342.2.2.2.1 t334 t335 t336).bind fun t359 => (if t359 = true then ((laws_markVecS.f bt342.1 1).bind fun bt360 => ((laws_heldVecS.f bt360.2 1).bind fun t362 => (if t362 < 0 then (none) else (if t362 = bt360.1 then ((laws_toDeedS.f k l0).bind fun t363 => ((impl_CarryRun.f k t363).bind fun bt366 => ((laws_eqVecS.f k bt366.1 t331).bind fun t374 => (if t374 = true then ((laws_eqVec.f bt366.2.1 bt366.2.2.1 bt366.2.2.2.1 t334 t335 t336).bind fun t375 => (if t375 = true then (if bt366.2.2.2.2 = t337 then ((laws_heldVecS.f bt360.2 1).bind fun t376 => (if t376 < 0 then (none) else (if t376 = bt360.1 then (some true) else (none)))) else (none)) else (none))) else (none))))) else (none))))) else (none))) else (none))))) else (none)))) else (none)) else (none))) else (none)))) = some r := H
  have A6 := Gv.a0 A60
  clear A60
  replace H := Option.bind_eq_some_iff.mp H
  obtain ⟨⟨t342, t345, t346, t347, t348⟩, A70, H⟩ := H
  replace H : ((laws_eqVecS.f k t342 t331).bind fun t350 => (if t350 = true then ((laws_eqVec.f t345 t346 t347 t334 t335 t336).bind fun t351 => (if t351 = true then (if t348 = t337 then ((laws_toDeedS.f k l0).bind fun t352 => ((laws_eqDeedS.f k t339 t352).bind fun t355 => (if t355 = true then ((laws_markDeedS.f t339 1).bind fun bt356 => (if bt356.1 < 0 then (none) else ((laws_eqVecS.f k t342 t331).bind fun t358 => (if t358 = true then ((laws_eqVec.f t345 t346 t347 t334 t335 t336).bind fun t359 => (if t359 = true then ((laws_markVecS.f t342 1).bind fun bt360 => ((laws_heldVecS.f bt360.2 1).bind fun t362 => (if t362 < 0 then (none) else (if t362 = bt360.1 then ((laws_toDeedS.f k l0).bind fun t363 => ((impl_CarryRun.f k t363).bind fun bt366 => ((laws_eqVecS.f k bt366.1 t331).bind fun t374 => (if t374 = true then ((laws_eqVec.f bt366.2.1 bt366.2.2.1 bt366.2.2.2.1 t334 t335 t336).bind fun t375 => (if t375 = true then (if bt366.2.2.2.2 = t337 then ((laws_heldVecS.f bt360.2 1).bind fun t376 => (if t376 < 0 then (none) else (if t376 = bt360.1 then (some true) else (none)))) else (none)) else (none))) else (none))))) else (none))))) else (none))) else (none))))) else (none)))) else (none)) else (none))) else (none))) = some r := H
  have A7 := Gv.a0 A70
  clear A70
  replace H := Option.bind_eq_some_iff.mp H
  obtain ⟨t350, A80, H⟩ := H
  replace H : (if t350 = true then ((laws_eqVec.f t345 t346 t347 t334 t335 t336).bind fun t351 => (if t351 = true then (if t348 = t337 then ((laws_toDeedS.f k l0).bind fun t352 => ((laws_eqDeedS.f k t339 t352).bind fun t355 => (if t355 = true then ((laws_markDeedS.f t339 1).bind fun bt356 => (if bt356.1 < 0 then (none) else ((laws_eqVecS.f k t342 t331).bind fun t358 => (if t358 = true then ((laws_eqVec.f t345 t346 t347 t334 t335 t336).bind fun t359 => (if t359 = true then ((laws_markVecS.f t342 1).bind fun bt360 => ((laws_heldVecS.f bt360.2 1).bind fun t362 => (if t362 < 0 then (none) else (if t362 = bt360.1 then ((laws_toDeedS.f k l0).bind fun t363 => ((impl_CarryRun.f k t363).bind fun bt366 => ((laws_eqVecS.f k bt366.1 t331).bind fun t374 => (if t374 = true then ((laws_eqVec.f bt366.2.1 bt366.2.2.1 bt366.2.2.2.1 t334 t335 t336).bind fun t375 => (if t375 = true then (if bt366.2.2.2.2 = t337 then ((laws_heldVecS.f bt360.2 1).bind fun t376 => (if t376 < 0 then (none) else (if t376 = bt360.1 then (some true) else (none)))) else (none)) else (none))) else (none))))) else (none))))) else (none))) else (none))))) else (none)))) else (none)) else (none))) else (none)) = some r := H
  have A8 := Gv.a0 A80
  clear A80
  by_cases c9 : t350 = true
  ·subst c9
   have H1 : ((laws_eqVec.f t345 t346 t347 t334 t335 t336).bind fun t351 => (if t351 = true then (if t348 = t337 then ((laws_toDeedS.f k l0).bind fun t352 => ((laws_eqDeedS.f k t339 t352).bind fun t355 => (if t355 = true then ((laws_markDeedS.f t339 1).bind fun bt356 => (if bt356.1 < 0 then (none) else ((laws_eqVecS.f k t342 t331).bind fun t358 => (if t358 = true then ((laws_eqVec.f t345 t346 t347 t334 t335 t336).bind fun t359 => (if t359 = true then ((laws_markVecS.f t342 1).bind fun bt360 => ((laws_heldVecS.f bt360.2 1).bind fun t362 => (if t362 < 0 then (none) else (if t362 = bt360.1 then ((laws_toDeedS.f k l0).bind fun t363 => ((impl_CarryRun.f k t363).bind fun bt366 => ((laws_eqVecS.f k bt366.1 t331).bind fun t374 => (if t374 = true then ((laws_eqVec.f bt366.2.1 bt366.2.2.1 bt366.2.2.2.1 t334 t335 t336).bind fun t375 => (if t375 = true then (if bt366.2.2.2.2 = t337 then ((laws_heldVecS.f bt360.2 1).bind fun t376 => (if t376 < 0 then (none) else (if t376 = bt360.1 then (some true) else (none)))) else (none)) else (none))) else (none))))) else (none))))) else (none))) else (none))))) else (none)))) else (none)) else (none))) = some r := by rw [if_pos rfl] at H; exact H
   clear H
   have H := H1
   clear H1
   replace H := Option.bind_eq_some_iff.mp H
   obtain ⟨t351, A100, H⟩ := H
   replace H : (if t351 = true then (if t348 = t337 then ((laws_toDeedS.f k l0).bind fun t352 => ((laws_eqDeedS.f k t339 t352).bind fun t355 => (if t355 = true then ((laws_markDeedS.f t339 1).bind fun bt356 => (if bt356.1 < 0 then (none) else ((laws_eqVecS.f k t342 t331).bind fun t358 => (if t358 = true then ((laws_eqVec.f t345 t346 t347 t334 t335 t336).bind fun t359 => (if t359 = true then ((laws_markVecS.f t342 1).bind fun bt360 => ((laws_heldVecS.f bt360.2 1).bind fun t362 => (if t362 < 0 then (none) else (if t362 = bt360.1 then ((laws_toDeedS.f k l0).bind fun t363 => ((impl_CarryRun.f k t363).bind fun bt366 => ((laws_eqVecS.f k bt366.1 t331).bind fun t374 => (if t374 = true then ((laws_eqVec.f bt366.2.1 bt366.2.2.1 bt366.2.2.2.1 t334 t335 t336).bind fun t375 => (if t375 = true then (if bt366.2.2.2.2 = t337 then ((laws_heldVecS.f bt360.2 1).bind fun t376 => (if t376 < 0 then (none) else (if t376 = bt360.1 then (some true) else (none)))) else (none)) else (none))) else (none))))) else (none))))) else (none))) else (none))))) else (none)))) else (none)) else (none)) = some r := H
   have A10 := Gv.a0 A100
   clear A100
   by_cases c11 : t351 = true
   ·subst c11
    have H1 : (if t348 = t337 then ((laws_toDeedS.f k l0).bind fun t352 => ((laws_eqDeedS.f k t339 t352).bind fun t355 => (if t355 = true then ((laws_markDeedS.f t339 1).bind fun bt356 => (if bt356.1 < 0 then (none) else ((laws_eqVecS.f k t342 t331).bind fun t358 => (if t358 = true then ((laws_eqVec.f t345 t346 t347 t334 t335 t336).bind fun t359 => (if t359 = true then ((laws_markVecS.f t342 1).bind fun bt360 => ((laws_heldVecS.f bt360.2 1).bind fun t362 => (if t362 < 0 then (none) else (if t362 = bt360.1 then ((laws_toDeedS.f k l0).bind fun t363 => ((impl_CarryRun.f k t363).bind fun bt366 => ((laws_eqVecS.f k bt366.1 t331).bind fun t374 => (if t374 = true then ((laws_eqVec.f bt366.2.1 bt366.2.2.1 bt366.2.2.2.1 t334 t335 t336).bind fun t375 => (if t375 = true then (if bt366.2.2.2.2 = t337 then ((laws_heldVecS.f bt360.2 1).bind fun t376 => (if t376 < 0 then (none) else (if t376 = bt360.1 then (some true) else (none)))) else (none)) else (none))) else (none))))) else (none))))) else (none))) else (none))))) else (none)))) else (none)) = some r := by rw [if_pos rfl] at H; exact H
    clear H
    have H := H1
    clear H1
    by_cases c12 : t348 = t337
    ·rw [if_pos c12] at H
     have c12b0 : (t348 == t337) = true := beq_iff_eq.mpr c12
     have c12b1 : (t348 != t337) = false := bne_eq_false_iff_eq.mpr c12
     clear c12
     replace H := Option.bind_eq_some_iff.mp H
     obtain ⟨t352, A130, H⟩ := H
     replace H : ((laws_eqDeedS.f k t339 t352).bind fun t355 => (if t355 = true then ((laws_markDeedS.f t339 1).bind fun bt356 => (if bt356.1 < 0 then (none) else ((laws_eqVecS.f k t342 t331).bind fun t358 => (if t358 = true then ((laws_eqVec.f t345 t346 t347 t334 t335 t336).bind fun t359 => (if t359 = true then ((laws_markVecS.f t342 1).bind fun bt360 => ((laws_heldVecS.f bt360.2 1).bind fun t362 => (if t362 < 0 then (none) else (if t362 = bt360.1 then ((laws_toDeedS.f k l0).bind fun t363 => ((impl_CarryRun.f k t363).bind fun bt366 => ((laws_eqVecS.f k bt366.1 t331).bind fun t374 => (if t374 = true then ((laws_eqVec.f bt366.2.1 bt366.2.2.1 bt366.2.2.2.1 t334 t335 t336).bind fun t375 => (if t375 = true then (if bt366.2.2.2.2 = t337 then ((laws_heldVecS.f bt360.2 1).bind fun t376 => (if t376 < 0 then (none) else (if t376 = bt360.1 then (some true) else (none)))) else (none)) else (none))) else (none))))) else (none))))) else (none))) else (none))))) else (none))) = some r := H
     have A13 := Gv.a0 A130
     clear A130
     replace H := Option.bind_eq_some_iff.mp H
     obtain ⟨t355, A140, H⟩ := H
     replace H : (if t355 = true then ((laws_markDeedS.f t339 1).bind fun bt356 => (if bt356.1 < 0 then (none) else ((laws_eqVecS.f k t342 t331).bind fun t358 => (if t358 = true then ((laws_eqVec.f t345 t346 t347 t334 t335 t336).bind fun t359 => (if t359 = true then ((laws_markVecS.f t342 1).bind fun bt360 => ((laws_heldVecS.f bt360.2 1).bind fun t362 => (if t362 < 0 then (none) else (if t362 = bt360.1 then ((laws_toDeedS.f k l0).bind fun t363 => ((impl_CarryRun.f k t363).bind fun bt366 => ((laws_eqVecS.f k bt366.1 t331).bind fun t374 => (if t374 = true then ((laws_eqVec.f bt366.2.1 bt366.2.2.1 bt366.2.2.2.1 t334 t335 t336).bind fun t375 => (if t375 = true then (if bt366.2.2.2.2 = t337 then ((laws_heldVecS.f bt360.2 1).bind fun t376 => (if t376 < 0 then (none) else (if t376 = bt360.1 then (some true) else (none)))) else (none)) else (none))) else (none))))) else (none))))) else (none))) else (none))))) else (none)) = some r := H
     have A14 := Gv.a0 A140
     clear A140
     by_cases c15 : t355 = true
     ·subst c15
      have H1 : ((laws_markDeedS.f t339 1).bind fun bt356 => (if bt356.1 < 0 then (none) else ((laws_eqVecS.f k t342 t331).bind fun t358 => (if t358 = true then ((laws_eqVec.f t345 t346 t347 t334 t335 t336).bind fun t359 => (if t359 = true then ((laws_markVecS.f t342 1).bind fun bt360 => ((laws_heldVecS.f bt360.2 1).bind fun t362 => (if t362 < 0 then (none) else (if t362 = bt360.1 then ((laws_toDeedS.f k l0).bind fun t363 => ((impl_CarryRun.f k t363).bind fun bt366 => ((laws_eqVecS.f k bt366.1 t331).bind fun t374 => (if t374 = true then ((laws_eqVec.f bt366.2.1 bt366.2.2.1 bt366.2.2.2.1 t334 t335 t336).bind fun t375 => (if t375 = true then (if bt366.2.2.2.2 = t337 then ((laws_heldVecS.f bt360.2 1).bind fun t376 => (if t376 < 0 then (none) else (if t376 = bt360.1 then (some true) else (none)))) else (none)) else (none))) else (none))))) else (none))))) else (none))) else (none))))) = some r := by rw [if_pos rfl] at H; exact H
      clear H
      have H := H1
      clear H1
      replace H := Option.bind_eq_some_iff.mp H
      obtain ⟨⟨t356, t357⟩, A160, H⟩ := H
      replace H : (if t356 < 0 then (none) else ((laws_eqVecS.f k t342 t331).bind fun t358 => (if t358 = true then ((laws_eqVec.f t345 t346 t347 t334 t335 t336).bind fun t359 => (if t359 = true then ((laws_markVecS.f t342 1).bind fun bt360 => ((laws_heldVecS.f bt360.2 1).bind fun t362 => (if t362 < 0 then (none) else (if t362 = bt360.1 then ((laws_toDeedS.f k l0).bind fun t363 => ((impl_CarryRun.f k t363).bind fun bt366 => ((laws_eqVecS.f k bt366.1 t331).bind fun t374 => (if t374 = true then ((laws_eqVec.f bt366.2.1 bt366.2.2.1 bt366.2.2.2.1 t334 t335 t336).bind fun t375 => (if t375 = true then (if bt366.2.2.2.2 = t337 then ((laws_heldVecS.f bt360.2 1).bind fun t376 => (if t376 < 0 then (none) else (if t376 = bt360.1 then (some true) else (none)))) else (none)) else (none))) else (none))))) else (none))))) else (none))) else (none)))) = some r := H
      have A16 := Gv.a0 A160
      clear A160
      by_cases c17 : t356 < 0
      ·rw [if_pos c17] at H
       exact absurd H (by simp)
      ·rw [if_neg c17] at H
       have c17b0 : decide (t356 < 0) = false := decide_eq_false c17
       clear c17
       replace H := Option.bind_eq_some_iff.mp H
       obtain ⟨t358, A180, H⟩ := H
       replace H : (if t358 = true then ((laws_eqVec.f t345 t346 t347 t334 t335 t336).bind fun t359 => (if t359 = true then ((laws_markVecS.f t342 1).bind fun bt360 => ((laws_heldVecS.f bt360.2 1).bind fun t362 => (if t362 < 0 then (none) else (if t362 = bt360.1 then ((laws_toDeedS.f k l0).bind fun t363 => ((impl_CarryRun.f k t363).bind fun bt366 => ((laws_eqVecS.f k bt366.1 t331).bind fun t374 => (if t374 = true then ((laws_eqVec.f bt366.2.1 bt366.2.2.1 bt366.2.2.2.1 t334 t335 t336).bind fun t375 => (if t375 = true then (if bt366.2.2.2.2 = t337 then ((laws_heldVecS.f bt360.2 1).bind fun t376 => (if t376 < 0 then (none) else (if t376 = bt360.1 then (some true) else (none)))) else (none)) else (none))) else (none))))) else (none))))) else (none))) else (none)) = some r := H
       have A18 := Gv.a0 A180
       clear A180
       by_cases c19 : t358 = true
       ·subst c19
        have H1 : ((laws_eqVec.f t345 t346 t347 t334 t335 t336).bind fun t359 => (if t359 = true then ((laws_markVecS.f t342 1).bind fun bt360 => ((laws_heldVecS.f bt360.2 1).bind fun t362 => (if t362 < 0 then (none) else (if t362 = bt360.1 then ((laws_toDeedS.f k l0).bind fun t363 => ((impl_CarryRun.f k t363).bind fun bt366 => ((laws_eqVecS.f k bt366.1 t331).bind fun t374 => (if t374 = true then ((laws_eqVec.f bt366.2.1 bt366.2.2.1 bt366.2.2.2.1 t334 t335 t336).bind fun t375 => (if t375 = true then (if bt366.2.2.2.2 = t337 then ((laws_heldVecS.f bt360.2 1).bind fun t376 => (if t376 < 0 then (none) else (if t376 = bt360.1 then (some true) else (none)))) else (none)) else (none))) else (none))))) else (none))))) else (none))) = some r := by rw [if_pos rfl] at H; exact H
        clear H
        have H := H1
        clear H1
        replace H := Option.bind_eq_some_iff.mp H
        obtain ⟨t359, A200, H⟩ := H
        replace H : (if t359 = true then ((laws_markVecS.f t342 1).bind fun bt360 => ((laws_heldVecS.f bt360.2 1).bind fun t362 => (if t362 < 0 then (none) else (if t362 = bt360.1 then ((laws_toDeedS.f k l0).bind fun t363 => ((impl_CarryRun.f k t363).bind fun bt366 => ((laws_eqVecS.f k bt366.1 t331).bind fun t374 => (if t374 = true then ((laws_eqVec.f bt366.2.1 bt366.2.2.1 bt366.2.2.2.1 t334 t335 t336).bind fun t375 => (if t375 = true then (if bt366.2.2.2.2 = t337 then ((laws_heldVecS.f bt360.2 1).bind fun t376 => (if t376 < 0 then (none) else (if t376 = bt360.1 then (some true) else (none)))) else (none)) else (none))) else (none))))) else (none))))) else (none)) = some r := H
        have A20 := Gv.a0 A200
        clear A200
        by_cases c21 : t359 = true
        ·subst c21
         have H1 : ((laws_markVecS.f t342 1).bind fun bt360 => ((laws_heldVecS.f bt360.2 1).bind fun t362 => (if t362 < 0 then (none) else (if t362 = bt360.1 then ((laws_toDeedS.f k l0).bind fun t363 => ((impl_CarryRun.f k t363).bind fun bt366 => ((laws_eqVecS.f k bt366.1 t331).bind fun t374 => (if t374 = true then ((laws_eqVec.f bt366.2.1 bt366.2.2.1 bt366.2.2.2.1 t334 t335 t336).bind fun t375 => (if t375 = true then (if bt366.2.2.2.2 = t337 then ((laws_heldVecS.f bt360.2 1).bind fun t376 => (if t376 < 0 then (none) else (if t376 = bt360.1 then (some true) else (none)))) else (none)) else (none))) else (none))))) else (none))))) = some r := by rw [if_pos rfl] at H; exact H
         clear H
         have H := H1
         clear H1
         replace H := Option.bind_eq_some_iff.mp H
         obtain ⟨⟨t360, t361⟩, A220, H⟩ := H
         replace H : ((laws_heldVecS.f t361 1).bind fun t362 => (if t362 < 0 then (none) else (if t362 = t360 then ((laws_toDeedS.f k l0).bind fun t363 => ((impl_CarryRun.f k t363).bind fun bt366 => ((laws_eqVecS.f k bt366.1 t331).bind fun t374 => (if t374 = true then ((laws_eqVec.f bt366.2.1 bt366.2.2.1 bt366.2.2.2.1 t334 t335 t336).bind fun t375 => (if t375 = true then (if bt366.2.2.2.2 = t337 then ((laws_heldVecS.f t361 1).bind fun t376 => (if t376 < 0 then (none) else (if t376 = t360 then (some true) else (none)))) else (none)) else (none))) else (none))))) else (none)))) = some r := H
         have A22 := Gv.a0 A220
         clear A220
         replace H := Option.bind_eq_some_iff.mp H
         obtain ⟨t362, A230, H⟩ := H
         replace H : (if t362 < 0 then (none) else (if t362 = t360 then ((laws_toDeedS.f k l0).bind fun t363 => ((impl_CarryRun.f k t363).bind fun bt366 => ((laws_eqVecS.f k bt366.1 t331).bind fun t374 => (if t374 = true then ((laws_eqVec.f bt366.2.1 bt366.2.2.1 bt366.2.2.2.1 t334 t335 t336).bind fun t375 => (if t375 = true then (if bt366.2.2.2.2 = t337 then ((laws_heldVecS.f t361 1).bind fun t376 => (if t376 < 0 then (none) else (if t376 = t360 then (some true) else (none)))) else (none)) else (none))) else (none))))) else (none))) = some r := H
         have A23 := Gv.a0 A230
         clear A230
         by_cases c24 : t362 < 0
         ·rw [if_pos c24] at H
          exact absurd H (by simp)
         ·rw [if_neg c24] at H
          have c24b0 : decide (t362 < 0) = false := decide_eq_false c24
          clear c24
          by_cases c25 : t362 = t360
          ·rw [if_pos c25] at H
           have c25b0 : (t362 == t360) = true := beq_iff_eq.mpr c25
           have c25b1 : (t362 != t360) = false := bne_eq_false_iff_eq.mpr c25
           clear c25
           replace H := Option.bind_eq_some_iff.mp H
           obtain ⟨t363, A260, H⟩ := H
           replace H : ((impl_CarryRun.f k t363).bind fun bt366 => ((laws_eqVecS.f k bt366.1 t331).bind fun t374 => (if t374 = true then ((laws_eqVec.f bt366.2.1 bt366.2.2.1 bt366.2.2.2.1 t334 t335 t336).bind fun t375 => (if t375 = true then (if bt366.2.2.2.2 = t337 then ((laws_heldVecS.f t361 1).bind fun t376 => (if t376 < 0 then (none) else (if t376 = t360 then (some true) else (none)))) else (none)) else (none))) else (none)))) = some r := H
           have A26 := Gv.a0 A260
           clear A260
           replace H := Option.bind_eq_some_iff.mp H
           obtain ⟨⟨t366, t369, t370, t371, t372⟩, A270, H⟩ := H
           replace H : ((laws_eqVecS.f k t366 t331).bind fun t374 => (if t374 = true then ((laws_eqVec.f t369 t370 t371 t334 t335 t336).bind fun t375 => (if t375 = true then (if t372 = t337 then ((laws_heldVecS.f t361 1).bind fun t376 => (if t376 < 0 then (none) else (if t376 = t360 then (some true) else (none)))) else (none)) else (none))) else (none))) = some r := H
           have A27 := Gv.a0 A270
           clear A270
           replace H := Option.bind_eq_some_iff.mp H
           obtain ⟨t374, A280, H⟩ := H
           replace H : (if t374 = true then ((laws_eqVec.f t369 t370 t371 t334 t335 t336).bind fun t375 => (if t375 = true then (if t372 = t337 then ((laws_heldVecS.f t361 1).bind fun t376 => (if t376 < 0 then (none) else (if t376 = t360 then (some true) else (none)))) else (none)) else (none))) else (none)) = some r := H
           have A28 := Gv.a0 A280
           clear A280
           by_cases c29 : t374 = true
           ·subst c29
            have H1 : ((laws_eqVec.f t369 t370 t371 t334 t335 t336).bind fun t375 => (if t375 = true then (if t372 = t337 then ((laws_heldVecS.f t361 1).bind fun t376 => (if t376 < 0 then (none) else (if t376 = t360 then (some true) else (none)))) else (none)) else (none))) = some r := by rw [if_pos rfl] at H; exact H
            clear H
            have H := H1
            clear H1
            replace H := Option.bind_eq_some_iff.mp H
            obtain ⟨t375, A300, H⟩ := H
            replace H : (if t375 = true then (if t372 = t337 then ((laws_heldVecS.f t361 1).bind fun t376 => (if t376 < 0 then (none) else (if t376 = t360 then (some true) else (none)))) else (none)) else (none)) = some r := H
            have A30 := Gv.a0 A300
            clear A300
            by_cases c31 : t375 = true
            ·subst c31
             have H1 : (if t372 = t337 then ((laws_heldVecS.f t361 1).bind fun t376 => (if t376 < 0 then (none) else (if t376 = t360 then (some true) else (none)))) else (none)) = some r := by rw [if_pos rfl] at H; exact H
             clear H
             have H := H1
             clear H1
             by_cases c32 : t372 = t337
             ·rw [if_pos c32] at H
              have c32b0 : (t372 == t337) = true := beq_iff_eq.mpr c32
              have c32b1 : (t372 != t337) = false := bne_eq_false_iff_eq.mpr c32
              clear c32
              replace H := Option.bind_eq_some_iff.mp H
              obtain ⟨t376, A330, H⟩ := H
              replace H : (if t376 < 0 then (none) else (if t376 = t360 then (some true) else (none))) = some r := H
              have A33 := Gv.a0 A330
              clear A330
              by_cases c34 : t376 < 0
              ·rw [if_pos c34] at H
               exact absurd H (by simp)
              ·rw [if_neg c34] at H
               have c34b0 : decide (t376 < 0) = false := decide_eq_false c34
               clear c34
               by_cases c35 : t376 = t360
               ·rw [if_pos c35] at H
                have c35b0 : (t376 == t360) = true := beq_iff_eq.mpr c35
                have c35b1 : (t376 != t360) = false := bne_eq_false_iff_eq.mpr c35
                clear c35
                obtain rfl := Option.some.inj H
                go_enter Try.func10, Try.ntmps10
                go_wp2_with (first | ((with_reducible refine gate_callee (f := 30) rfl ?_); refine goesL_ (some 19) rfl rfl Try.func30 (by kernel_rfl) rfl #[.slice A0 l0.length c0, .int .i64 1048576] rfl Gv.lm ?_; (with_reducible refine (laws_szDeedS.calls _ _ l0 1048576 t327 _ ?side1 ?side2 A2.out).mono ?_); (case side1 => repeat (first | exact HR0.out | (with_reducible refine Kd.C_alloc ?_ _) | (with_reducible refine Kd.C_drewN ?_ _) | (with_reducible refine Kd.C_drew ?_))); (case side2 => exact HC0.out); rintro e w' ⟨rfl, ⟨nd, rfl⟩⟩; refine ⟨_, rfl, ?_⟩) | ((with_reducible refine gate_callee (f := 32) rfl ?_); refine goesL_ (some 24) rfl rfl Try.func32 (by kernel_rfl) rfl #[.slice A0 l0.length c0] rfl Gv.lm ?_; (with_reducible refine (laws_toDeedS.calls k _ _ l0 t328 _ ?side1 ?side2 A4.out).mono ?_); (case side1 => repeat (first | exact HR0.out | (with_reducible refine Kd.C_alloc ?_ _) | (with_reducible refine Kd.C_drewN ?_ _) | (with_reducible refine Kd.C_drew ?_))); (case side2 => exact HC0.out); rintro e w36 ⟨v329, rfl, ho0, hb⟩; refine ⟨_, rfl, ?_⟩; have n0_ := Gv.a0 (Kd.R_lower ho0 (below_size Gv.bw)); have n1_ := Gv.a0 (below_step Gv.bw hb); clear HB; have HO330 := n0_; have HB := n1_; clear n0_ n1_; (try clear hb); (try clear hb2); (try clear hk); (try clear hi); (try clear ho0); obtain ⟨Ao37, co37, eo37⟩ := Kd.R_slice HO330.out; subst eo37) | ((with_reducible refine gate_callee (f := 31) rfl ?_); refine goesL_ (some 25) rfl rfl Try.func31 (by kernel_rfl) rfl #[.slice Ao37 t328.length co37] rfl Gv.lm ?_; (with_reducible refine (spec_CarryRun.calls k _ _ t328 t331 t334 t335 t336 t337 _ ?side1 ?side2 A5.out).mono ?_); (case side1 => repeat (first | exact (Kd.R_reads' HO330.out).2.2 | (with_reducible refine Kd.C_alloc ?_ _) | (with_reducible refine Kd.C_drewN ?_ _) | (with_reducible refine Kd.C_drew ?_))); (case side2 => exact (Kd.R_reads' HO330.out).2.1); rintro e w38 ⟨v332, rfl, ho0, hb⟩; refine ⟨_, rfl, ?_⟩; have n0_ := Gv.a0 (Kd.R_below (Gv.kr HO330.out) hb); have n1_ := Gv.a0 (Kd.R_lower ho0 (below_size Gv.bw)); have n2_ := Gv.a0 (below_step Gv.bw hb); clear HO330; clear HB; have HO330 := n0_; have HO333 := n1_; have HB := n2_; clear n0_ n1_ n2_; (try clear hb); (try clear hb2); (try clear hk); (try clear hi); (try clear ho0)) | ((with_reducible refine gate_dst (N := 5) rfl ?_); refine box_event ?hg (N := 5) ?hd (cs := #[.int .i64 0, .int .i64 0, .int .i64 0]) (t := 26) ?hr ?_; (case hd => rfl); (case hg => rfl); (case hr => first | (go_simp; done) | (go_simp; rfl)); intro gb338 hg w39 hbox hb; have n0_ := Gv.a0 (Kd.R_below (Gv.kr HO330.out) hb); have n1_ := Gv.a0 (Kd.R_below (Kd.R_elderB (Gv.kr HO333.out) gb338 (Nat.le_of_eq hg.symm)) hb); have n2_ := Gv.a0 (below_step Gv.bw hb); have n3_ := Gv.a0 (hbox); have n4_ := Gv.a0 ((Gv.ble hg Gv.bw : w.heap.size ≤ gb338)); have n5_ := Gv.a0 ((Gv.ble hg Gv.bw : w.heap.size ≤ gb338)); clear HO330; clear HO333; clear HB; have HO330 := n0_; have HO333 := n1_; have HB := n2_; have BK338 := n3_; have GW338 := n4_; have GE338 := n5_; clear n0_ n1_ n2_ n3_ n4_ n5_; clear hb hbox hg; have hcz40_0 : w39.cell? ⟨gb338, 0, none⟩ = some (.int .i64 0) := (blk_cell BK338.out 0).trans rfl; have hcz40_1 : w39.cell? ⟨gb338, 1, none⟩ = some (.int .i64 0) := (blk_cell BK338.out 1).trans rfl; have hcz40_2 : w39.cell? ⟨gb338, 2, none⟩ = some (.int .i64 0) := (blk_cell BK338.out 2).trans rfl; have hfz40_0 := blk_frozen BK338.out 0; have hfz40_1 := blk_frozen BK338.out 1; have hfz40_2 := blk_frozen BK338.out 2) | ((with_reducible refine gate_callee (f := 32) rfl ?_); refine goesL_ (some 30) rfl rfl Try.func32 (by kernel_rfl) rfl #[.slice A0 l0.length c0] rfl Gv.lm ?_; (with_reducible refine (laws_toDeedS.calls k _ _ l0 t339 _ ?side1 ?side2 A6.out).mono ?_); (case side1 => exact Kd.C_below HR0.out Gv.bw); (case side2 => exact HC0.out); rintro e w41 ⟨v340, rfl, ho0, hb⟩; refine ⟨_, rfl, ?_⟩; have n0_ := Gv.a0 (Kd.R_elder' (by (with_reducible repeat (first | apply Kd.R_alloc | apply Kd.R_drewN | apply Kd.R_drew)); exact (Kd.R_mono (Kd.R_far (p := ⟨gb338, 2, none⟩) (Kd.R_far (p := ⟨gb338, 1, none⟩) (Kd.R_far (p := ⟨gb338, 0, none⟩) (Kd.R_types HO330.out BK338.out (by decide)) (fun _ hk => hk.2) (.int .i64 t334)) (fun _ hk => hk.2) (.int .i64 t335)) (fun _ hk => hk.2) (.int .i64 t336)) (fun _ h_ => h_.1))) (Kd.R_base ho0) hb); have n1_ := Gv.a0 (Kd.R_below (by (with_reducible repeat (first | apply Kd.R_alloc | apply Kd.R_drewN | apply Kd.R_drew)); exact (Kd.R_mono (Kd.R_far (p := ⟨gb338, 2, none⟩) (Kd.R_far (p := ⟨gb338, 1, none⟩) (Kd.R_far (p := ⟨gb338, 0, none⟩) (Kd.R_mono HO333.out (fun k_ hk => (⟨hk, hk.2⟩ : _ ∧ k_ ≠ gb338))) (fun _ hk => hk.2) (.int .i64 t334)) (fun _ hk => hk.2) (.int .i64 t335)) (fun _ hk => hk.2) (.int .i64 t336)) (fun _ h_ => h_.1))) hb); have n2_ := Gv.a0 (Kd.R_lower (Kd.R_new' ho0 (Kd.R_lt (by (with_reducible repeat (first | apply Kd.R_alloc | apply Kd.R_drewN | apply Kd.R_drew)); exact (Kd.R_mono (Kd.R_far (p := ⟨gb338, 2, none⟩) (Kd.R_far (p := ⟨gb338, 1, none⟩) (Kd.R_far (p := ⟨gb338, 0, none⟩) (Kd.R_types HO330.out BK338.out (by decide)) (fun _ hk => hk.2) (.int .i64 t334)) (fun _ hk => hk.2) (.int .i64 t335)) (fun _ hk => hk.2) (.int .i64 t336)) (fun _ h_ => h_.1))))) (below_size Gv.bw)); have n3_ := Gv.a0 (blk_below (g := gb338) (o := .cells #[.int .i64 t334, .int .i64 t335, .int .i64 t336] 26 (0, 0)) (by (with_reducible repeat (first | refine blk_drewN ?_ _ | refine blk_drew ?_ | refine blk_alloc ?_ _)); refine blk_put (cs := #[.int .i64 t334, .int .i64 t335, .int .i64 0]) ?_ 2 _ rfl; (with_reducible repeat (first | refine blk_drewN ?_ _ | refine blk_drew ?_ | refine blk_alloc ?_ _)); refine blk_put (cs := #[.int .i64 t334, .int .i64 0, .int .i64 0]) ?_ 1 _ rfl; (with_reducible repeat (first | refine blk_drewN ?_ _ | refine blk_drew ?_ | refine blk_alloc ?_ _)); refine blk_put (cs := #[.int .i64 0, .int .i64 0, .int .i64 0]) ?_ 0 _ rfl; (with_reducible repeat (first | refine blk_drewN ?_ _ | refine blk_drew ?_ | refine blk_alloc ?_ _)); exact BK338.out) hb); have n4_ := Gv.a0 (below_step Gv.bw hb); clear HO330; clear HO333; clear BK338; clear HB; have HO330 := n0_; have HO333 := n1_; have HO341 := n2_; have BK338 := n3_; have HB := n4_; clear n0_ n1_ n2_ n3_ n4_; (try clear hb); (try clear hb2); (try clear hk); (try clear hi); (try clear ho0); obtain ⟨Ao42, co42, eo42⟩ := Kd.R_slice HO341.out; subst eo42) | ((with_reducible refine gate_callee (f := 33) rfl ?_); refine goesL_ (some 33) rfl rfl Try.func33 (by kernel_rfl) rfl #[.slice Ao42 t339.length co42] rfl Gv.lm ?_; (with_reducible refine (impl_CarryRun.calls k _ _ t339 t342 t345 t346 t347 t348 _ ?side1 ?side2 A7.out).mono ?_); (case side1 => repeat (first | exact (Kd.R_reads' HO341.out).2.2 | (with_reducible refine Kd.C_alloc ?_ _) | (with_reducible refine Kd.C_drewN ?_ _) | (with_reducible refine Kd.C_drew ?_))); (case side2 => exact (Kd.R_reads' HO341.out).2.1); rintro e w43 ⟨v343, rfl, ho0, hb⟩; refine ⟨_, rfl, ?_⟩; have n0_ := Gv.a0 (Kd.R_below (Gv.kr HO330.out) hb); have n1_ := Gv.a0 (Kd.R_elder' (Gv.kr HO333.out) (Kd.R_base ho0) hb); have n2_ := Gv.a0 (Kd.R_below (Gv.kr HO341.out) hb); have n3_ := Gv.a0 (Kd.R_lower (Kd.R_newB (Kd.R_new' ho0 (Kd.R_lt (Gv.kr HO333.out))) (g := gb338) (o := .cells #[.int .i64 t334, .int .i64 t335, .int .i64 t336] 26 (0, 0)) Gv.bk) (below_size Gv.bw)); have n4_ := Gv.a0 (Gv.bb BK338.out hb); have n5_ := Gv.a0 (below_step Gv.bw hb); clear HO330; clear HO333; clear HO341; clear BK338; clear HB; have HO330 := n0_; have HO333 := n1_; have HO341 := n2_; have HO344 := n3_; have BK338 := n4_; have HB := n5_; clear n0_ n1_ n2_ n3_ n4_ n5_; (try clear hb); (try clear hb2); (try clear hk); (try clear hi); (try clear ho0)) | ((with_reducible refine gate_dst (N := 9) rfl ?_); refine box_event ?hg (N := 9) ?hd (cs := #[.int .i64 0, .int .i64 0, .int .i64 0]) (t := 26) ?hr ?_; (case hd => rfl); (case hg => rfl); (case hr => first | (go_simp; done) | (go_simp; rfl)); intro gb349 hg w44 hbox hb; have n0_ := Gv.a0 (Kd.R_below (Gv.kr HO330.out) hb); have n1_ := Gv.a0 (Kd.R_below (Kd.R_elderB (Gv.kr HO333.out) gb349 (Nat.le_of_eq hg.symm)) hb); have n2_ := Gv.a0 (Kd.R_below (Gv.kr HO341.out) hb); have n3_ := Gv.a0 (Kd.R_below (Kd.R_elderB (Gv.kr HO344.out) gb349 (Nat.le_of_eq hg.symm)) hb); have n4_ := Gv.a0 (Gv.bb BK338.out hb); have n5_ := Gv.a0 (below_step Gv.bw hb); have n6_ := Gv.a0 (hbox); have n7_ := Gv.a0 ((Gv.ble hg Gv.bw : w.heap.size ≤ gb349)); have n8_ := Gv.a0 ((Gv.ble hg Gv.bw : w.heap.size ≤ gb349)); have n9_ := Gv.a0 ((Gv.nlt hg (Gv.kb BK338.out) : gb338 ≠ gb349)); have n10_ := Gv.a0 ((Gv.ngt hg (Gv.kb BK338.out) : gb349 ≠ gb338)); clear HO330; clear HO333; clear HO341; clear HO344; clear BK338; clear HB; have HO330 := n0_; have HO333 := n1_; have HO341 := n2_; have HO344 := n3_; have BK338 := n4_; have HB := n5_; have BK349 := n6_; have GW349 := n7_; have GE349 := n8_; have NB338_349 := n9_; have NB349_338 := n10_; clear n0_ n1_ n2_ n3_ n4_ n5_ n6_ n7_ n8_ n9_ n10_; clear hb hbox hg; have hnb45 := NB349_338.out; have hnc45 := NB338_349.out; have hcz46_0 : w44.cell? ⟨gb349, 0, none⟩ = some (.int .i64 0) := (blk_cell BK349.out 0).trans rfl; have hcz46_1 : w44.cell? ⟨gb349, 1, none⟩ = some (.int .i64 0) := (blk_cell BK349.out 1).trans rfl; have hcz46_2 : w44.cell? ⟨gb349, 2, none⟩ = some (.int .i64 0) := (blk_cell BK349.out 2).trans rfl; have hfz46_0 := blk_frozen BK349.out 0; have hfz46_1 := blk_frozen BK349.out 1; have hfz46_2 := blk_frozen BK349.out 2; obtain ⟨Ao47, co47, eo47⟩ := Kd.R_slice HO344.out; subst eo47; obtain ⟨Ao48, co48, eo48⟩ := Kd.R_slice HO333.out; subst eo48) | ((with_reducible refine gate_callee (f := 34) rfl ?_); refine goesL_ (some 39) rfl rfl Try.func34 (by kernel_rfl) rfl #[.slice Ao47 t342.length co47, .slice Ao48 t331.length co48] rfl Gv.lm ?_; (with_reducible refine (laws_eqVecS.calls k _ _ t342 _ _ t331 true _ ?side1 ?side2 ?side3 ?side4 A8.out).mono ?_); (case side1 => refine (Kd.R_reads' (e := 26) (base := w.heap.size) (ok := fun k_ => (((True ∧ some k_ ≠ (.slice Ao48 t331.length co48 : Value).ownBlock) ∧ k_ ≠ gb338) ∧ k_ ≠ gb349)) (n := t342.length) (c := co47) ?_).2.2; exact (by (with_reducible repeat (first | apply Kd.R_alloc | apply Kd.R_drewN | apply Kd.R_drew)); exact (Kd.R_mono (Kd.R_far (p := ⟨gb349, 2, none⟩) (Kd.R_far (p := ⟨gb349, 1, none⟩) (Kd.R_far (p := ⟨gb349, 0, none⟩) (Kd.R_mono HO344.out (fun k_ hk => (⟨hk, hk.2⟩ : _ ∧ k_ ≠ gb349))) (fun _ hk => hk.2) (.int .i64 t345)) (fun _ hk => hk.2) (.int .i64 t346)) (fun _ hk => hk.2) (.int .i64 t347)) (fun _ h_ => h_.1)))); (case side2 => exact (Kd.R_reads' HO344.out).2.1); (case side3 => refine (Kd.R_reads' (e := 26) (base := w.heap.size) (ok := fun k_ => (((True ∧ k_ ≠ gb338) ∧ some k_ ≠ (.slice Ao47 t342.length co47 : Value).ownBlock) ∧ k_ ≠ gb349)) (n := t331.length) (c := co48) ?_).2.2; exact (by (with_reducible repeat (first | apply Kd.R_alloc | apply Kd.R_drewN | apply Kd.R_drew)); exact (Kd.R_mono (Kd.R_far (p := ⟨gb349, 2, none⟩) (Kd.R_far (p := ⟨gb349, 1, none⟩) (Kd.R_far (p := ⟨gb349, 0, none⟩) (Kd.R_mono HO333.out (fun k_ hk => (⟨hk, hk.2⟩ : _ ∧ k_ ≠ gb349))) (fun _ hk => hk.2) (.int .i64 t345)) (fun _ hk => hk.2) (.int .i64 t346)) (fun _ hk => hk.2) (.int .i64 t347)) (fun _ h_ => h_.1)))); (case side4 => exact (Kd.R_reads' HO333.out).2.1); rintro e w49 ⟨rfl, hb⟩; refine ⟨_, rfl, ?_⟩; have n0_ := Gv.a0 (Kd.R_below (by (with_reducible repeat (first | apply Kd.R_alloc | apply Kd.R_drewN | apply Kd.R_drew)); exact (Kd.R_mono (Kd.R_far (p := ⟨gb349, 2, none⟩) (Kd.R_far (p := ⟨gb349, 1, none⟩) (Kd.R_far (p := ⟨gb349, 0, none⟩) (Kd.R_types HO330.out BK349.out (by decide)) (fun _ hk => hk.2) (.int .i64 t345)) (fun _ hk => hk.2) (.int .i64 t346)) (fun _ hk => hk.2) (.int .i64 t347)) (fun _ h_ => h_.1))) hb); have n1_ := Gv.a0 (Kd.R_below (by (with_reducible repeat (first | apply Kd.R_alloc | apply Kd.R_drewN | apply Kd.R_drew)); exact (Kd.R_mono (Kd.R_far (p := ⟨gb349, 2, none⟩) (Kd.R_far (p := ⟨gb349, 1, none⟩) (Kd.R_far (p := ⟨gb349, 0, none⟩) (Kd.R_mono HO333.out (fun k_ hk => (⟨hk, hk.2⟩ : _ ∧ k_ ≠ gb349))) (fun _ hk => hk.2) (.int .i64 t345)) (fun _ hk => hk.2) (.int .i64 t346)) (fun _ hk => hk.2) (.int .i64 t347)) (fun _ h_ => h_.1))) hb); have n2_ := Gv.a0 (Kd.R_below (by (with_reducible repeat (first | apply Kd.R_alloc | apply Kd.R_drewN | apply Kd.R_drew)); exact (Kd.R_mono (Kd.R_far (p := ⟨gb349, 2, none⟩) (Kd.R_far (p := ⟨gb349, 1, none⟩) (Kd.R_far (p := ⟨gb349, 0, none⟩) (Kd.R_types HO341.out BK349.out (by decide)) (fun _ hk => hk.2) (.int .i64 t345)) (fun _ hk => hk.2) (.int .i64 t346)) (fun _ hk => hk.2) (.int .i64 t347)) (fun _ h_ => h_.1))) hb); have n3_ := Gv.a0 (Kd.R_below (by (with_reducible repeat (first | apply Kd.R_alloc | apply Kd.R_drewN | apply Kd.R_drew)); exact (Kd.R_mono (Kd.R_far (p := ⟨gb349, 2, none⟩) (Kd.R_far (p := ⟨gb349, 1, none⟩) (Kd.R_far (p := ⟨gb349, 0, none⟩) (Kd.R_mono HO344.out (fun k_ hk => (⟨hk, hk.2⟩ : _ ∧ k_ ≠ gb349))) (fun _ hk => hk.2) (.int .i64 t345)) (fun _ hk => hk.2) (.int .i64 t346)) (fun _ hk => hk.2) (.int .i64 t347)) (fun _ h_ => h_.1))) hb); have n4_ := Gv.a0 (blk_below (g := gb338) (o := .cells #[.int .i64 t334, .int .i64 t335, .int .i64 t336] 26 (0, 0)) Gv.bkf hb); have n5_ := Gv.a0 (blk_below (g := gb349) (o := .cells #[.int .i64 t345, .int .i64 t346, .int .i64 t347] 26 (0, 0)) (by (with_reducible repeat (first | refine blk_drewN ?_ _ | refine blk_drew ?_ | refine blk_alloc ?_ _)); refine blk_put (cs := #[.int .i64 t345, .int .i64 t346, .int .i64 0]) ?_ 2 _ rfl; (with_reducible repeat (first | refine blk_drewN ?_ _ | refine blk_drew ?_ | refine blk_alloc ?_ _)); refine blk_put (cs := #[.int .i64 t345, .int .i64 0, .int .i64 0]) ?_ 1 _ rfl; (with_reducible repeat (first | refine blk_drewN ?_ _ | refine blk_drew ?_ | refine blk_alloc ?_ _)); refine blk_put (cs := #[.int .i64 0, .int .i64 0, .int .i64 0]) ?_ 0 _ rfl; (with_reducible repeat (first | refine blk_drewN ?_ _ | refine blk_drew ?_ | refine blk_alloc ?_ _)); exact BK349.out) hb); have n6_ := Gv.a0 (below_step Gv.bw hb); clear HO330; clear HO333; clear HO341; clear HO344; clear BK338; clear BK349; clear HB; have HO330 := n0_; have HO333 := n1_; have HO341 := n2_; have HO344 := n3_; have BK338 := n4_; have BK349 := n5_; have HB := n6_; clear n0_ n1_ n2_ n3_ n4_ n5_ n6_; (try clear hb); (try clear hb2); (try clear hk); (try clear hi); have hcz50_0 : w49.cell? ⟨gb349, 0, none⟩ = some (.int .i64 t345) := (blk_cell BK349.out 0).trans rfl; have hcz50_1 : w49.cell? ⟨gb349, 1, none⟩ = some (.int .i64 t346) := (blk_cell BK349.out 1).trans rfl; have hcz50_2 : w49.cell? ⟨gb349, 2, none⟩ = some (.int .i64 t347) := (blk_cell BK349.out 2).trans rfl; have hfz50_0 := blk_frozen BK349.out 0; have hfz50_1 := blk_frozen BK349.out 1; have hfz50_2 := blk_frozen BK349.out 2; have hcz51_0 : w49.cell? ⟨gb338, 0, none⟩ = some (.int .i64 t334) := (blk_cell BK338.out 0).trans rfl; have hcz51_1 : w49.cell? ⟨gb338, 1, none⟩ = some (.int .i64 t335) := (blk_cell BK338.out 1).trans rfl; have hcz51_2 : w49.cell? ⟨gb338, 2, none⟩ = some (.int .i64 t336) := (blk_cell BK338.out 2).trans rfl; have hfz51_0 := blk_frozen BK338.out 0; have hfz51_1 := blk_frozen BK338.out 1; have hfz51_2 := blk_frozen BK338.out 2) | (go_at_call 14; (with_reducible refine (laws_eqVec.calls t345 t346 t347 t334 t335 t336 true _ A10.out).mono ?_); rintro e w52 ⟨rfl, hb⟩; have n0_ := Gv.a0 (Kd.R_below (Gv.kr HO330.out) hb); have n1_ := Gv.a0 (Kd.R_below (Gv.kr HO333.out) hb); have n2_ := Gv.a0 (Kd.R_below (Gv.kr HO341.out) hb); have n3_ := Gv.a0 (Kd.R_below (Gv.kr HO344.out) hb); have n4_ := Gv.a0 (Gv.bb BK338.out hb); have n5_ := Gv.a0 (Gv.bb BK349.out hb); have n6_ := Gv.a0 (below_step Gv.bw hb); clear HO330; clear HO333; clear HO341; clear HO344; clear BK338; clear BK349; clear HB; have HO330 := n0_; have HO333 := n1_; have HO341 := n2_; have HO344 := n3_; have BK338 := n4_; have BK349 := n5_; have HB := n6_; clear n0_ n1_ n2_ n3_ n4_ n5_ n6_; (try (have m_ := Gv.a0 (Kd.R_below (Gv.kr HO354.out) hb); clear HO354; have HO354 := m_; clear m_)); (try clear hb); (try clear hb2); (try clear hk); (try clear hi)) | ((with_reducible refine gate_callee (f := 32) rfl ?_); refine goesL_ (some 54) rfl rfl Try.func32 (by kernel_rfl) rfl #[.slice A0 l0.length c0] rfl Gv.lm ?_; (with_reducible refine (laws_toDeedS.calls k _ _ l0 t352 _ ?side1 ?side2 A13.out).mono ?_); (case side1 => repeat (first | exact (Kd.C_below HR0.out HB.out) | (with_reducible refine Kd.C_alloc ?_ _) | (with_reducible refine Kd.C_drewN ?_ _) | (with_reducible refine Kd.C_drew ?_))); (case side2 => exact HC0.out); rintro e w53 ⟨v353, rfl, ho0, hb⟩; refine ⟨_, rfl, ?_⟩; have n0_ := Gv.a0 (Kd.R_elder' (Gv.kr HO330.out) (Kd.R_base ho0) hb); have n1_ := Gv.a0 (Kd.R_below (Gv.kr HO333.out) hb); have n2_ := Gv.a0 (Kd.R_elder' (Gv.kr HO341.out) (Kd.R_base ho0) hb); have n3_ := Gv.a0 (Kd.R_below (Gv.kr HO344.out) hb); have n4_ := Gv.a0 (Kd.R_lower (Kd.R_new' (Kd.R_new' ho0 (Kd.R_lt (Gv.kr HO330.out))) (Kd.R_lt (Gv.kr HO341.out))) (below_size Gv.bw)); have n5_ := Gv.a0 (Gv.bb BK338.out hb); have n6_ := Gv.a0 (Gv.bb BK349.out hb); have n7_ := Gv.a0 (below_step Gv.bw hb); clear HO330; clear HO333; clear HO341; clear HO344; clear BK338; clear BK349; clear HB; have HO330 := n0_; have HO333 := n1_; have HO341 := n2_; have HO344 := n3_; have HO354 := n4_; have BK338 := n5_; have BK349 := n6_; have HB := n7_; clear n0_ n1_ n2_ n3_ n4_ n5_ n6_ n7_; (try clear hb); (try clear hb2); (try clear hk); (try clear hi); (try clear ho0); obtain ⟨Ao54, co54, eo54⟩ := Kd.R_slice HO354.out; subst eo54) | ((with_reducible refine gate_callee (f := 35) rfl ?_); refine goesL_ (some 55) rfl rfl Try.func35 (by kernel_rfl) rfl #[.slice Ao42 t339.length co42, .slice Ao54 t352.length co54] rfl Gv.lm ?_; (with_reducible refine (laws_eqDeedS.calls k _ _ t339 _ _ t352 true _ ?side1 ?side2 ?side3 ?side4 A14.out).mono ?_); (case side1 => repeat (first | exact (Kd.R_reads' HO341.out).2.2 | (with_reducible refine Kd.C_alloc ?_ _) | (with_reducible refine Kd.C_drewN ?_ _) | (with_reducible refine Kd.C_drew ?_))); (case side2 => exact (Kd.R_reads' HO341.out).2.1); (case side3 => repeat (first | exact (Kd.R_reads' HO354.out).2.2 | (with_reducible refine Kd.C_alloc ?_ _) | (with_reducible refine Kd.C_drewN ?_ _) | (with_reducible refine Kd.C_drew ?_))); (case side4 => exact (Kd.R_reads' HO354.out).2.1); rintro e w55 ⟨rfl, hb⟩; refine ⟨_, rfl, ?_⟩; have n0_ := Gv.a0 (Kd.R_below (Gv.kr HO330.out) hb); have n1_ := Gv.a0 (Kd.R_below (Gv.kr HO333.out) hb); have n2_ := Gv.a0 (Kd.R_below (Gv.kr HO341.out) hb); have n3_ := Gv.a0 (Kd.R_below (Gv.kr HO344.out) hb); have n4_ := Gv.a0 (Kd.R_below (Gv.kr HO354.out) hb); have n5_ := Gv.a0 (Gv.bb BK338.out hb); have n6_ := Gv.a0 (Gv.bb BK349.out hb); have n7_ := Gv.a0 (below_step Gv.bw hb); clear HO330; clear HO333; clear HO341; clear HO344; clear HO354; clear BK338; clear BK349; clear HB; have HO330 := n0_; have HO333 := n1_; have HO341 := n2_; have HO344 := n3_; have HO354 := n4_; have BK338 := n5_; have BK349 := n6_; have HB := n7_; clear n0_ n1_ n2_ n3_ n4_ n5_ n6_ n7_; (try clear hb); (try clear hb2); (try clear hk); (try clear hi)) | ((with_reducible refine gate_callee (f := 36) rfl ?_); refine goesL_ (some 59) rfl rfl Try.func36 (by kernel_rfl) rfl #[.slice Ao42 t339.length co42, .int .i64 1] rfl Gv.lm ?_; (with_reducible refine (laws_markDeedS.calls (fun k_ => some k_ = (.slice Ao42 t339.length co42 : Value).ownBlock) (.slice Ao42 t339.length co42) t339 1 t356 t357 w _ ?side1 ?side2 A16.out).mono ?_); (case side1 => repeat (first | (with_reducible first | exact HB.out | apply below_alloc | apply pw_below_drewN | apply below_drew1 | refine below_set ?_ GE338.out | refine below_set ?_ GE349.out) | exact HB.out)); (case side2 => exact Kd.R_tight rfl HO341.out); rintro e w56 ⟨rfl, hy0, hb, hkp⟩; refine ⟨_, rfl, ?_⟩; have n0_ := Gv.a0 (Kd.R_mono (ok' := fun k_ => some k_ ≠ (.slice Ao42 t339.length co42 : Value).ownBlock ∧ some k_ ≠ (.slice Ao54 t352.length co54 : Value).ownBlock) (Kd.R_keptB (HO330.out) hkp (fun k_ hk_ hs_ => (hk_.1.2) hs_)) (fun k_ hk_ => ⟨hk_.1.1.2, hk_.1.2⟩)); have n1_ := Gv.a0 (Kd.R_mono (ok' := fun k_ => some k_ ≠ (.slice Ao47 t342.length co47 : Value).ownBlock ∧ k_ ≠ gb338 ∧ k_ ≠ gb349) (Kd.R_keptB ((Kd.R_apart' HO333.out (Kd.R_typed HO341.out) (by decide))) hkp (fun k_ hk_ hs_ => (hk_.2) hs_)) (fun k_ hk_ => ⟨hk_.1.1.1.2, hk_.1.1.1.1.2, hk_.1.1.2⟩)); have n2_ := Gv.a0 (blk_kept Gv.bk hkp (fun hs_ => (fun e_ => (Kd.R_ne HO341.out BK338.out (by decide)) e_) hs_)); have n3_ := Gv.a0 (Kd.R_reok rfl hy0 (fun k_ e_ => HO341.out.1 k_ e_)); have n4_ := Gv.a0 (Kd.R_mono (ok' := fun k_ => some k_ ≠ (.slice Ao48 t331.length co48 : Value).ownBlock ∧ k_ ≠ gb338 ∧ k_ ≠ gb349) (Kd.R_keptB ((Kd.R_apart' HO344.out (Kd.R_typed HO341.out) (by decide))) hkp (fun k_ hk_ hs_ => (hk_.2) hs_)) (fun k_ hk_ => ⟨hk_.1.1.1.1.2, hk_.1.1.1.2, hk_.1.1.2⟩)); have n5_ := Gv.a0 (blk_kept Gv.bk hkp (fun hs_ => (fun e_ => (Kd.R_ne HO341.out BK349.out (by decide)) e_) hs_)); have n6_ := Gv.a0 (Kd.R_mono (ok' := fun k_ => some k_ ≠ (.slice Ao37 t328.length co37 : Value).ownBlock ∧ some k_ ≠ (.slice Ao42 t339.length co42 : Value).ownBlock) (Kd.R_keptB (HO354.out) hkp (fun k_ hk_ hs_ => (hk_.2) hs_)) (fun k_ hk_ => ⟨hk_.1.1.2, hk_.1.2⟩)); have n7_ := Gv.a0 (hb); clear HO330; clear HO333; clear BK338; clear HO341; clear HO344; clear BK349; clear HO354; clear HB; have HO330 := n0_; have HO333 := n1_; have BK338 := n2_; have HO341 := n3_; have HO344 := n4_; have BK349 := n5_; have HO354 := n6_; have HB := n7_; clear n0_ n1_ n2_ n3_ n4_ n5_ n6_ n7_; (try clear hb); (try clear hkp); (try clear hy0)) | (go_at_call 34; (with_reducible refine (laws_eqVecS.calls k _ _ t342 _ _ t331 true _ ?side1 ?side2 ?side3 ?side4 A18.out).mono ?_); (case side1 => repeat (first | exact (Kd.R_reads' HO344.out).2.2 | (with_reducible refine Kd.C_alloc ?_ _) | (with_reducible refine Kd.C_drewN ?_ _) | (with_reducible refine Kd.C_drew ?_))); (case side2 => exact (Kd.R_reads' HO344.out).2.1); (case side3 => repeat (first | exact (Kd.R_reads' HO333.out).2.2 | (with_reducible refine Kd.C_alloc ?_ _) | (with_reducible refine Kd.C_drewN ?_ _) | (with_reducible refine Kd.C_drew ?_))); (case side4 => exact (Kd.R_reads' HO333.out).2.1); rintro e w57 ⟨rfl, hb⟩; have n0_ := Gv.a0 (Kd.R_below (Gv.kr HO330.out) hb); have n1_ := Gv.a0 (Kd.R_below (Gv.kr HO333.out) hb); have n2_ := Gv.a0 (Kd.R_below (Gv.kr HO341.out) hb); have n3_ := Gv.a0 (Kd.R_below (Gv.kr HO344.out) hb); have n4_ := Gv.a0 (Kd.R_below (Gv.kr HO354.out) hb); have n5_ := Gv.a0 (Gv.bb BK338.out hb); have n6_ := Gv.a0 (Gv.bb BK349.out hb); have n7_ := Gv.a0 (below_step Gv.bw hb); clear HO330; clear HO333; clear HO341; clear HO344; clear HO354; clear BK338; clear BK349; clear HB; have HO330 := n0_; have HO333 := n1_; have HO341 := n2_; have HO344 := n3_; have HO354 := n4_; have BK338 := n5_; have BK349 := n6_; have HB := n7_; clear n0_ n1_ n2_ n3_ n4_ n5_ n6_ n7_; (try clear hb); (try clear hb2); (try clear hk); (try clear hi); have hcz58_0 : w57.cell? ⟨gb349, 0, none⟩ = some (.int .i64 t345) := (blk_cell BK349.out 0).trans rfl; have hcz58_1 : w57.cell? ⟨gb349, 1, none⟩ = some (.int .i64 t346) := (blk_cell BK349.out 1).trans rfl; have hcz58_2 : w57.cell? ⟨gb349, 2, none⟩ = some (.int .i64 t347) := (blk_cell BK349.out 2).trans rfl; have hfz58_0 := blk_frozen BK349.out 0; have hfz58_1 := blk_frozen BK349.out 1; have hfz58_2 := blk_frozen BK349.out 2; have hcz59_0 : w57.cell? ⟨gb338, 0, none⟩ = some (.int .i64 t334) := (blk_cell BK338.out 0).trans rfl; have hcz59_1 : w57.cell? ⟨gb338, 1, none⟩ = some (.int .i64 t335) := (blk_cell BK338.out 1).trans rfl; have hcz59_2 : w57.cell? ⟨gb338, 2, none⟩ = some (.int .i64 t336) := (blk_cell BK338.out 2).trans rfl; have hfz59_0 := blk_frozen BK338.out 0; have hfz59_1 := blk_frozen BK338.out 1; have hfz59_2 := blk_frozen BK338.out 2) | (go_at_call 14; (with_reducible refine (laws_eqVec.calls t345 t346 t347 t334 t335 t336 true _ A20.out).mono ?_); rintro e w60 ⟨rfl, hb⟩; have n0_ := Gv.a0 (Kd.R_below (Gv.kr HO330.out) hb); have n1_ := Gv.a0 (Kd.R_below (Gv.kr HO333.out) hb); have n2_ := Gv.a0 (Kd.R_below (Gv.kr HO341.out) hb); have n3_ := Gv.a0 (Kd.R_below (Gv.kr HO344.out) hb); have n4_ := Gv.a0 (Kd.R_below (Gv.kr HO354.out) hb); have n5_ := Gv.a0 (Gv.bb BK338.out hb); have n6_ := Gv.a0 (Gv.bb BK349.out hb); have n7_ := Gv.a0 (below_step Gv.bw hb); clear HO330; clear HO333; clear HO341; clear HO344; clear HO354; clear BK338; clear BK349; clear HB; have HO330 := n0_; have HO333 := n1_; have HO341 := n2_; have HO344 := n3_; have HO354 := n4_; have BK338 := n5_; have BK349 := n6_; have HB := n7_; clear n0_ n1_ n2_ n3_ n4_ n5_ n6_ n7_; (try clear hb); (try clear hb2); (try clear hk); (try clear hi)) | ((with_reducible refine gate_callee (f := 37) rfl ?_); refine goesL_ (some 81) rfl rfl Try.func37 (by kernel_rfl) rfl #[.slice Ao47 t342.length co47, .int .i64 1] rfl Gv.lm ?_; (with_reducible refine (laws_markVecS.calls (fun k_ => some k_ = (.slice Ao47 t342.length co47 : Value).ownBlock) (.slice Ao47 t342.length co47) t342 1 t360 t361 w _ ?side1 ?side2 A22.out).mono ?_); (case side1 => repeat (first | (with_reducible first | exact HB.out | apply below_alloc | apply pw_below_drewN | apply below_drew1 | refine below_set ?_ GE338.out | refine below_set ?_ GE349.out) | exact HB.out)); (case side2 => exact Kd.R_tight rfl HO344.out); rintro e w61 ⟨rfl, hy0, hb, hkp⟩; refine ⟨_, rfl, ?_⟩; have n0_ := Gv.a0 (Kd.R_mono (ok' := fun k_ => some k_ ≠ (.slice Ao42 t339.length co42 : Value).ownBlock ∧ some k_ ≠ (.slice Ao54 t352.length co54 : Value).ownBlock) (Kd.R_keptB ((Kd.R_apart' HO330.out (Kd.R_typed HO344.out) (by decide))) hkp (fun k_ hk_ hs_ => (hk_.2) hs_)) (fun k_ hk_ => ⟨hk_.1.1.1, hk_.1.1.2⟩)); have n1_ := Gv.a0 (Kd.R_mono (ok' := fun k_ => some k_ ≠ (.slice Ao47 t342.length co47 : Value).ownBlock ∧ k_ ≠ gb338 ∧ k_ ≠ gb349) (Kd.R_keptB (HO333.out) hkp (fun k_ hk_ hs_ => (hk_.1) hs_)) (fun k_ hk_ => ⟨hk_.1.1, hk_.1.2.1, hk_.1.2.2⟩)); have n2_ := Gv.a0 (blk_kept Gv.bk hkp (fun hs_ => (fun e_ => (Kd.R_away HO344.out (fun _ hk => hk.2.1)) e_) hs_)); have n3_ := Gv.a0 (Kd.R_mono (ok' := fun k_ => some k_ ≠ (.slice Ao37 t328.length co37 : Value).ownBlock ∧ some k_ ≠ (.slice Ao54 t352.length co54 : Value).ownBlock) (Kd.R_keptB ((Kd.R_apart' HO341.out (Kd.R_typed HO344.out) (by decide))) hkp (fun k_ hk_ hs_ => (hk_.2) hs_)) (fun k_ hk_ => ⟨hk_.1.1.1.2, hk_.1.1.2⟩)); have n4_ := Gv.a0 (Kd.R_reok rfl hy0 (fun k_ e_ => HO344.out.1 k_ e_)); have n5_ := Gv.a0 (blk_kept Gv.bk hkp (fun hs_ => (fun e_ => (Kd.R_away HO344.out (fun _ hk => hk.2.2)) e_) hs_)); have n6_ := Gv.a0 (Kd.R_mono (ok' := fun k_ => some k_ ≠ (.slice Ao37 t328.length co37 : Value).ownBlock ∧ some k_ ≠ (.slice Ao42 t339.length co42 : Value).ownBlock) (Kd.R_keptB ((Kd.R_apart' HO354.out (Kd.R_typed HO344.out) (by decide))) hkp (fun k_ hk_ hs_ => (hk_.2) hs_)) (fun k_ hk_ => ⟨hk_.1.1.1, hk_.1.1.2⟩)); have n7_ := Gv.a0 (hb); clear HO330; clear HO333; clear BK338; clear HO341; clear HO344; clear BK349; clear HO354; clear HB; have HO330 := n0_; have HO333 := n1_; have BK338 := n2_; have HO341 := n3_; have HO344 := n4_; have BK349 := n5_; have HO354 := n6_; have HB := n7_; clear n0_ n1_ n2_ n3_ n4_ n5_ n6_ n7_; (try clear hb); (try clear hkp); (try clear hy0)) | ((with_reducible refine gate_callee (f := 38) rfl ?_); refine goesL_ (some 84) rfl rfl Try.func38 (by kernel_rfl) rfl #[.slice Ao47 t361.length co47, .int .i64 1] rfl (by (try simp only [List.map_toArray, List.map_cons, List.map_nil]); first | done | (rw [show t361.length = t342.length from (Kd.R_reads' HO344.out).1.symm] <;> rfl) | rfl | (simp only [List.length_drop, List.length_take]; rfl)) ?_; (with_reducible refine (laws_heldVecS.calls _ _ t361 1 t362 _ ?side1 ?side2 A23.out).mono ?_); (case side1 => repeat (first | exact (Kd.R_reads' HO344.out).2.2 | (with_reducible refine Kd.C_alloc ?_ _) | (with_reducible refine Kd.C_drewN ?_ _) | (with_reducible refine Kd.C_drew ?_))); (case side2 => rw [show t361.length = t342.length from (Kd.R_reads' HO344.out).1.symm]; exact (Kd.R_reads' HO344.out).2.1); rintro e w62 ⟨rfl, hb⟩; refine ⟨_, rfl, ?_⟩; have n0_ := Gv.a0 (Kd.R_below (Gv.kr HO330.out) hb); have n1_ := Gv.a0 (Kd.R_below (Gv.kr HO333.out) hb); have n2_ := Gv.a0 (Kd.R_below (Gv.kr HO341.out) hb); have n3_ := Gv.a0 (Kd.R_below (Gv.kr HO344.out) hb); have n4_ := Gv.a0 (Kd.R_below (Gv.kr HO354.out) hb); have n5_ := Gv.a0 (Gv.bb BK338.out hb); have n6_ := Gv.a0 (Gv.bb BK349.out hb); have n7_ := Gv.a0 (below_step Gv.bw hb); clear HO330; clear HO333; clear HO341; clear HO344; clear HO354; clear BK338; clear BK349; clear HB; have HO330 := n0_; have HO333 := n1_; have HO341 := n2_; have HO344 := n3_; have HO354 := n4_; have BK338 := n5_; have BK349 := n6_; have HB := n7_; clear n0_ n1_ n2_ n3_ n4_ n5_ n6_ n7_; (try clear hb); (try clear hb2); (try clear hk); (try clear hi)) | ((with_reducible refine gate_callee (f := 32) rfl ?_); refine goesL_ (some 92) rfl rfl Try.func32 (by kernel_rfl) rfl #[.slice A0 l0.length c0] rfl Gv.lm ?_; (with_reducible refine (laws_toDeedS.calls k _ _ l0 t363 _ ?side1 ?side2 A26.out).mono ?_); (case side1 => repeat (first | exact (Kd.C_below HR0.out HB.out) | (with_reducible refine Kd.C_alloc ?_ _) | (with_reducible refine Kd.C_drewN ?_ _) | (with_reducible refine Kd.C_drew ?_))); (case side2 => exact HC0.out); rintro e w63 ⟨v364, rfl, ho0, hb⟩; refine ⟨_, rfl, ?_⟩; have n0_ := Gv.a0 (Kd.R_elder' (Gv.kr HO330.out) (Kd.R_base ho0) hb); have n1_ := Gv.a0 (Kd.R_below (Gv.kr HO333.out) hb); have n2_ := Gv.a0 (Kd.R_elder' (Gv.kr HO341.out) (Kd.R_base ho0) hb); have n3_ := Gv.a0 (Kd.R_below (Gv.kr HO344.out) hb); have n4_ := Gv.a0 (Kd.R_elder' (Gv.kr HO354.out) (Kd.R_base ho0) hb); have n5_ := Gv.a0 (Kd.R_lower (Kd.R_new' (Kd.R_new' (Kd.R_new' ho0 (Kd.R_lt (Gv.kr HO330.out))) (Kd.R_lt (Gv.kr HO341.out))) (Kd.R_lt (Gv.kr HO354.out))) (below_size Gv.bw)); have n6_ := Gv.a0 (Gv.bb BK338.out hb); have n7_ := Gv.a0 (Gv.bb BK349.out hb); have n8_ := Gv.a0 (below_step Gv.bw hb); clear HO330; clear HO333; clear HO341; clear HO344; clear HO354; clear BK338; clear BK349; clear HB; have HO330 := n0_; have HO333 := n1_; have HO341 := n2_; have HO344 := n3_; have HO354 := n4_; have HO365 := n5_; have BK338 := n6_; have BK349 := n7_; have HB := n8_; clear n0_ n1_ n2_ n3_ n4_ n5_ n6_ n7_ n8_; (try clear hb); (try clear hb2); (try clear hk); (try clear hi); (try clear ho0); obtain ⟨Ao64, co64, eo64⟩ := Kd.R_slice HO365.out; subst eo64) | ((with_reducible refine gate_callee (f := 33) rfl ?_); refine goesL_ (some 93) rfl rfl Try.func33 (by kernel_rfl) rfl #[.slice Ao64 t363.length co64] rfl Gv.lm ?_; (with_reducible refine (impl_CarryRun.calls k _ _ t363 t366 t369 t370 t371 t372 _ ?side1 ?side2 A27.out).mono ?_); (case side1 => repeat (first | exact (Kd.R_reads' HO365.out).2.2 | (with_reducible refine Kd.C_alloc ?_ _) | (with_reducible refine Kd.C_drewN ?_ _) | (with_reducible refine Kd.C_drew ?_))); (case side2 => exact (Kd.R_reads' HO365.out).2.1); rintro e w65 ⟨v367, rfl, ho0, hb⟩; refine ⟨_, rfl, ?_⟩; have n0_ := Gv.a0 (Kd.R_below (Gv.kr HO330.out) hb); have n1_ := Gv.a0 (Kd.R_elder' (Gv.kr HO333.out) (Kd.R_base ho0) hb); have n2_ := Gv.a0 (Kd.R_below (Gv.kr HO341.out) hb); have n3_ := Gv.a0 (Kd.R_elder' (Gv.kr HO344.out) (Kd.R_base ho0) hb); have n4_ := Gv.a0 (Kd.R_below (Gv.kr HO354.out) hb); have n5_ := Gv.a0 (Kd.R_below (Gv.kr HO365.out) hb); have n6_ := Gv.a0 (Kd.R_lower (Kd.R_newB (Kd.R_newB (Kd.R_new' (Kd.R_new' ho0 (Kd.R_lt (Gv.kr HO333.out))) (Kd.R_lt (Gv.kr HO344.out))) (g := gb338) (o := .cells #[.int .i64 t334, .int .i64 t335, .int .i64 t336] 26 (0, 0)) Gv.bk) (g := gb349) (o := .cells #[.int .i64 t345, .int .i64 t346, .int .i64 t347] 26 (0, 0)) Gv.bk) (below_size Gv.bw)); have n7_ := Gv.a0 (Gv.bb BK338.out hb); have n8_ := Gv.a0 (Gv.bb BK349.out hb); have n9_ := Gv.a0 (below_step Gv.bw hb); clear HO330; clear HO333; clear HO341; clear HO344; clear HO354; clear HO365; clear BK338; clear BK349; clear HB; have HO330 := n0_; have HO333 := n1_; have HO341 := n2_; have HO344 := n3_; have HO354 := n4_; have HO365 := n5_; have HO368 := n6_; have BK338 := n7_; have BK349 := n8_; have HB := n9_; clear n0_ n1_ n2_ n3_ n4_ n5_ n6_ n7_ n8_ n9_; (try clear hb); (try clear hb2); (try clear hk); (try clear hi); (try clear ho0)) | ((with_reducible refine gate_dst (N := 15) rfl ?_); refine box_event ?hg (N := 15) ?hd (cs := #[.int .i64 0, .int .i64 0, .int .i64 0]) (t := 26) ?hr ?_; (case hd => rfl); (case hg => rfl); (case hr => first | (go_simp; done) | (go_simp; rfl)); intro gb373 hg w66 hbox hb; have n0_ := Gv.a0 (Kd.R_below (Gv.kr HO330.out) hb); have n1_ := Gv.a0 (Kd.R_below (Kd.R_elderB (Gv.kr HO333.out) gb373 (Nat.le_of_eq hg.symm)) hb); have n2_ := Gv.a0 (Kd.R_below (Gv.kr HO341.out) hb); have n3_ := Gv.a0 (Kd.R_below (Kd.R_elderB (Gv.kr HO344.out) gb373 (Nat.le_of_eq hg.symm)) hb); have n4_ := Gv.a0 (Kd.R_below (Gv.kr HO354.out) hb); have n5_ := Gv.a0 (Kd.R_below (Gv.kr HO365.out) hb); have n6_ := Gv.a0 (Kd.R_below (Kd.R_elderB (Gv.kr HO368.out) gb373 (Nat.le_of_eq hg.symm)) hb); have n7_ := Gv.a0 (Gv.bb BK338.out hb); have n8_ := Gv.a0 (Gv.bb BK349.out hb); have n9_ := Gv.a0 (below_step Gv.bw hb); have n10_ := Gv.a0 (hbox); have n11_ := Gv.a0 ((Gv.ble hg Gv.bw : w.heap.size ≤ gb373)); have n12_ := Gv.a0 ((Gv.ble hg Gv.bw : w.heap.size ≤ gb373)); have n13_ := Gv.a0 ((Gv.nlt hg (Gv.kb BK338.out) : gb338 ≠ gb373)); have n14_ := Gv.a0 ((Gv.ngt hg (Gv.kb BK338.out) : gb373 ≠ gb338)); have n15_ := Gv.a0 ((Gv.nlt hg (Gv.kb BK349.out) : gb349 ≠ gb373)); have n16_ := Gv.a0 ((Gv.ngt hg (Gv.kb BK349.out) : gb373 ≠ gb349)); clear HO330; clear HO333; clear HO341; clear HO344; clear HO354; clear HO365; clear HO368; clear BK338; clear BK349; clear HB; have HO330 := n0_; have HO333 := n1_; have HO341 := n2_; have HO344 := n3_; have HO354 := n4_; have HO365 := n5_; have HO368 := n6_; have BK338 := n7_; have BK349 := n8_; have HB := n9_; have BK373 := n10_; have GW373 := n11_; have GE373 := n12_; have NB338_373 := n13_; have NB373_338 := n14_; have NB349_373 := n15_; have NB373_349 := n16_; clear n0_ n1_ n2_ n3_ n4_ n5_ n6_ n7_ n8_ n9_ n10_ n11_ n12_ n13_ n14_ n15_ n16_; clear hb hbox hg; have hnb67 := NB373_338.out; have hnc67 := NB338_373.out; have hnb68 := NB373_349.out; have hnc68 := NB349_373.out; have hcz69_0 : w66.cell? ⟨gb373, 0, none⟩ = some (.int .i64 0) := (blk_cell BK373.out 0).trans rfl; have hcz69_1 : w66.cell? ⟨gb373, 1, none⟩ = some (.int .i64 0) := (blk_cell BK373.out 1).trans rfl; have hcz69_2 : w66.cell? ⟨gb373, 2, none⟩ = some (.int .i64 0) := (blk_cell BK373.out 2).trans rfl; have hfz69_0 := blk_frozen BK373.out 0; have hfz69_1 := blk_frozen BK373.out 1; have hfz69_2 := blk_frozen BK373.out 2; obtain ⟨Ao70, co70, eo70⟩ := Kd.R_slice HO368.out; subst eo70) | ((with_reducible refine gate_callee (f := 34) rfl ?_); refine goesL_ (some 99) rfl rfl Try.func34 (by kernel_rfl) rfl #[.slice Ao70 t366.length co70, .slice Ao48 t331.length co48] rfl Gv.lm ?_; (with_reducible refine (laws_eqVecS.calls k _ _ t366 _ _ t331 true _ ?side1 ?side2 ?side3 ?side4 A28.out).mono ?_); (case side1 => refine (Kd.R_reads' (e := 26) (base := w.heap.size) (ok := fun k_ => (((((True ∧ some k_ ≠ (.slice Ao48 t331.length co48 : Value).ownBlock) ∧ some k_ ≠ (.slice Ao47 t342.length co47 : Value).ownBlock) ∧ k_ ≠ gb338) ∧ k_ ≠ gb349) ∧ k_ ≠ gb373)) (n := t366.length) (c := co70) ?_).2.2; exact (by (with_reducible repeat (first | apply Kd.R_alloc | apply Kd.R_drewN | apply Kd.R_drew)); exact (Kd.R_mono (Kd.R_far (p := ⟨gb373, 2, none⟩) (Kd.R_far (p := ⟨gb373, 1, none⟩) (Kd.R_far (p := ⟨gb373, 0, none⟩) (Kd.R_mono HO368.out (fun k_ hk => (⟨hk, hk.2⟩ : _ ∧ k_ ≠ gb373))) (fun _ hk => hk.2) (.int .i64 t369)) (fun _ hk => hk.2) (.int .i64 t370)) (fun _ hk => hk.2) (.int .i64 t371)) (fun _ h_ => h_.1)))); (case side2 => exact (Kd.R_reads' HO368.out).2.1); (case side3 => refine (Kd.R_reads' (e := 26) (base := w.heap.size) (ok := fun k_ => (((some k_ ≠ (.slice Ao47 t342.length co47 : Value).ownBlock ∧ (k_ ≠ gb338 ∧ k_ ≠ gb349)) ∧ some k_ ≠ (.slice Ao70 t366.length co70 : Value).ownBlock) ∧ k_ ≠ gb373)) (n := t331.length) (c := co48) ?_).2.2; exact (by (with_reducible repeat (first | apply Kd.R_alloc | apply Kd.R_drewN | apply Kd.R_drew)); exact (Kd.R_mono (Kd.R_far (p := ⟨gb373, 2, none⟩) (Kd.R_far (p := ⟨gb373, 1, none⟩) (Kd.R_far (p := ⟨gb373, 0, none⟩) (Kd.R_mono HO333.out (fun k_ hk => (⟨hk, hk.2⟩ : _ ∧ k_ ≠ gb373))) (fun _ hk => hk.2) (.int .i64 t369)) (fun _ hk => hk.2) (.int .i64 t370)) (fun _ hk => hk.2) (.int .i64 t371)) (fun _ h_ => h_.1)))); (case side4 => exact (Kd.R_reads' HO333.out).2.1); rintro e w71 ⟨rfl, hb⟩; refine ⟨_, rfl, ?_⟩; have n0_ := Gv.a0 (Kd.R_below (by (with_reducible repeat (first | apply Kd.R_alloc | apply Kd.R_drewN | apply Kd.R_drew)); exact (Kd.R_mono (Kd.R_far (p := ⟨gb373, 2, none⟩) (Kd.R_far (p := ⟨gb373, 1, none⟩) (Kd.R_far (p := ⟨gb373, 0, none⟩) (Kd.R_types HO330.out BK373.out (by decide)) (fun _ hk => hk.2) (.int .i64 t369)) (fun _ hk => hk.2) (.int .i64 t370)) (fun _ hk => hk.2) (.int .i64 t371)) (fun _ h_ => h_.1))) hb); have n1_ := Gv.a0 (Kd.R_below (by (with_reducible repeat (first | apply Kd.R_alloc | apply Kd.R_drewN | apply Kd.R_drew)); exact (Kd.R_mono (Kd.R_far (p := ⟨gb373, 2, none⟩) (Kd.R_far (p := ⟨gb373, 1, none⟩) (Kd.R_far (p := ⟨gb373, 0, none⟩) (Kd.R_mono HO333.out (fun k_ hk => (⟨hk, hk.2⟩ : _ ∧ k_ ≠ gb373))) (fun _ hk => hk.2) (.int .i64 t369)) (fun _ hk => hk.2) (.int .i64 t370)) (fun _ hk => hk.2) (.int .i64 t371)) (fun _ h_ => h_.1))) hb); have n2_ := Gv.a0 (Kd.R_below (by (with_reducible repeat (first | apply Kd.R_alloc | apply Kd.R_drewN | apply Kd.R_drew)); exact (Kd.R_mono (Kd.R_far (p := ⟨gb373, 2, none⟩) (Kd.R_far (p := ⟨gb373, 1, none⟩) (Kd.R_far (p := ⟨gb373, 0, none⟩) (Kd.R_types HO341.out BK373.out (by decide)) (fun _ hk => hk.2) (.int .i64 t369)) (fun _ hk => hk.2) (.int .i64 t370)) (fun _ hk => hk.2) (.int .i64 t371)) (fun _ h_ => h_.1))) hb); have n3_ := Gv.a0 (Kd.R_below (by (with_reducible repeat (first | apply Kd.R_alloc | apply Kd.R_drewN | apply Kd.R_drew)); exact (Kd.R_mono (Kd.R_far (p := ⟨gb373, 2, none⟩) (Kd.R_far (p := ⟨gb373, 1, none⟩) (Kd.R_far (p := ⟨gb373, 0, none⟩) (Kd.R_mono HO344.out (fun k_ hk => (⟨hk, hk.2⟩ : _ ∧ k_ ≠ gb373))) (fun _ hk => hk.2) (.int .i64 t369)) (fun _ hk => hk.2) (.int .i64 t370)) (fun _ hk => hk.2) (.int .i64 t371)) (fun _ h_ => h_.1))) hb); have n4_ := Gv.a0 (Kd.R_below (by (with_reducible repeat (first | apply Kd.R_alloc | apply Kd.R_drewN | apply Kd.R_drew)); exact (Kd.R_mono (Kd.R_far (p := ⟨gb373, 2, none⟩) (Kd.R_far (p := ⟨gb373, 1, none⟩) (Kd.R_far (p := ⟨gb373, 0, none⟩) (Kd.R_types HO354.out BK373.out (by decide)) (fun _ hk => hk.2) (.int .i64 t369)) (fun _ hk => hk.2) (.int .i64 t370)) (fun _ hk => hk.2) (.int .i64 t371)) (fun _ h_ => h_.1))) hb); have n5_ := Gv.a0 (Kd.R_below (by (with_reducible repeat (first | apply Kd.R_alloc | apply Kd.R_drewN | apply Kd.R_drew)); exact (Kd.R_mono (Kd.R_far (p := ⟨gb373, 2, none⟩) (Kd.R_far (p := ⟨gb373, 1, none⟩) (Kd.R_far (p := ⟨gb373, 0, none⟩) (Kd.R_types HO365.out BK373.out (by decide)) (fun _ hk => hk.2) (.int .i64 t369)) (fun _ hk => hk.2) (.int .i64 t370)) (fun _ hk => hk.2) (.int .i64 t371)) (fun _ h_ => h_.1))) hb); have n6_ := Gv.a0 (Kd.R_below (by (with_reducible repeat (first | apply Kd.R_alloc | apply Kd.R_drewN | apply Kd.R_drew)); exact (Kd.R_mono (Kd.R_far (p := ⟨gb373, 2, none⟩) (Kd.R_far (p := ⟨gb373, 1, none⟩) (Kd.R_far (p := ⟨gb373, 0, none⟩) (Kd.R_mono HO368.out (fun k_ hk => (⟨hk, hk.2⟩ : _ ∧ k_ ≠ gb373))) (fun _ hk => hk.2) (.int .i64 t369)) (fun _ hk => hk.2) (.int .i64 t370)) (fun _ hk => hk.2) (.int .i64 t371)) (fun _ h_ => h_.1))) hb); have n7_ := Gv.a0 (blk_below (g := gb338) (o := .cells #[.int .i64 t334, .int .i64 t335, .int .i64 t336] 26 (0, 0)) Gv.bkf hb); have n8_ := Gv.a0 (blk_below (g := gb349) (o := .cells #[.int .i64 t345, .int .i64 t346, .int .i64 t347] 26 (0, 0)) Gv.bkf hb); have n9_ := Gv.a0 (blk_below (g := gb373) (o := .cells #[.int .i64 t369, .int .i64 t370, .int .i64 t371] 26 (0, 0)) (by (with_reducible repeat (first | refine blk_drewN ?_ _ | refine blk_drew ?_ | refine blk_alloc ?_ _)); refine blk_put (cs := #[.int .i64 t369, .int .i64 t370, .int .i64 0]) ?_ 2 _ rfl; (with_reducible repeat (first | refine blk_drewN ?_ _ | refine blk_drew ?_ | refine blk_alloc ?_ _)); refine blk_put (cs := #[.int .i64 t369, .int .i64 0, .int .i64 0]) ?_ 1 _ rfl; (with_reducible repeat (first | refine blk_drewN ?_ _ | refine blk_drew ?_ | refine blk_alloc ?_ _)); refine blk_put (cs := #[.int .i64 0, .int .i64 0, .int .i64 0]) ?_ 0 _ rfl; (with_reducible repeat (first | refine blk_drewN ?_ _ | refine blk_drew ?_ | refine blk_alloc ?_ _)); exact BK373.out) hb); have n10_ := Gv.a0 (below_step Gv.bw hb); clear HO330; clear HO333; clear HO341; clear HO344; clear HO354; clear HO365; clear HO368; clear BK338; clear BK349; clear BK373; clear HB; have HO330 := n0_; have HO333 := n1_; have HO341 := n2_; have HO344 := n3_; have HO354 := n4_; have HO365 := n5_; have HO368 := n6_; have BK338 := n7_; have BK349 := n8_; have BK373 := n9_; have HB := n10_; clear n0_ n1_ n2_ n3_ n4_ n5_ n6_ n7_ n8_ n9_ n10_; (try clear hb); (try clear hb2); (try clear hk); (try clear hi); have hcz72_0 : w71.cell? ⟨gb373, 0, none⟩ = some (.int .i64 t369) := (blk_cell BK373.out 0).trans rfl; have hcz72_1 : w71.cell? ⟨gb373, 1, none⟩ = some (.int .i64 t370) := (blk_cell BK373.out 1).trans rfl; have hcz72_2 : w71.cell? ⟨gb373, 2, none⟩ = some (.int .i64 t371) := (blk_cell BK373.out 2).trans rfl; have hfz72_0 := blk_frozen BK373.out 0; have hfz72_1 := blk_frozen BK373.out 1; have hfz72_2 := blk_frozen BK373.out 2; have hcz73_0 : w71.cell? ⟨gb338, 0, none⟩ = some (.int .i64 t334) := (blk_cell BK338.out 0).trans rfl; have hcz73_1 : w71.cell? ⟨gb338, 1, none⟩ = some (.int .i64 t335) := (blk_cell BK338.out 1).trans rfl; have hcz73_2 : w71.cell? ⟨gb338, 2, none⟩ = some (.int .i64 t336) := (blk_cell BK338.out 2).trans rfl; have hfz73_0 := blk_frozen BK338.out 0; have hfz73_1 := blk_frozen BK338.out 1; have hfz73_2 := blk_frozen BK338.out 2) | (go_at_call 14; (with_reducible refine (laws_eqVec.calls t369 t370 t371 t334 t335 t336 true _ A30.out).mono ?_); rintro e w74 ⟨rfl, hb⟩; have n0_ := Gv.a0 (Kd.R_below (Gv.kr HO330.out) hb); have n1_ := Gv.a0 (Kd.R_below (Gv.kr HO333.out) hb); have n2_ := Gv.a0 (Kd.R_below (Gv.kr HO341.out) hb); have n3_ := Gv.a0 (Kd.R_below (Gv.kr HO344.out) hb); have n4_ := Gv.a0 (Kd.R_below (Gv.kr HO354.out) hb); have n5_ := Gv.a0 (Kd.R_below (Gv.kr HO365.out) hb); have n6_ := Gv.a0 (Kd.R_below (Gv.kr HO368.out) hb); have n7_ := Gv.a0 (Gv.bb BK338.out hb); have n8_ := Gv.a0 (Gv.bb BK349.out hb); have n9_ := Gv.a0 (Gv.bb BK373.out hb); have n10_ := Gv.a0 (below_step Gv.bw hb); clear HO330; clear HO333; clear HO341; clear HO344; clear HO354; clear HO365; clear HO368; clear BK338; clear BK349; clear BK373; clear HB; have HO330 := n0_; have HO333 := n1_; have HO341 := n2_; have HO344 := n3_; have HO354 := n4_; have HO365 := n5_; have HO368 := n6_; have BK338 := n7_; have BK349 := n8_; have BK373 := n9_; have HB := n10_; clear n0_ n1_ n2_ n3_ n4_ n5_ n6_ n7_ n8_ n9_ n10_; (try clear hb); (try clear hb2); (try clear hk); (try clear hi)) | ((with_reducible refine gate_callee (f := 38) rfl ?_); refine goesL_ (some 114) rfl rfl Try.func38 (by kernel_rfl) rfl #[.slice Ao47 t361.length co47, .int .i64 1] rfl (by (try simp only [List.map_toArray, List.map_cons, List.map_nil]); first | done | (rw [show t361.length = t342.length from (Kd.R_reads' HO344.out).1.symm] <;> rfl) | rfl | (simp only [List.length_drop, List.length_take]; rfl)) ?_; (with_reducible refine (laws_heldVecS.calls _ _ t361 1 t376 _ ?side1 ?side2 A33.out).mono ?_); (case side1 => repeat (first | exact (Kd.R_reads' HO344.out).2.2 | (with_reducible refine Kd.C_alloc ?_ _) | (with_reducible refine Kd.C_drewN ?_ _) | (with_reducible refine Kd.C_drew ?_))); (case side2 => rw [show t361.length = t342.length from (Kd.R_reads' HO344.out).1.symm]; exact (Kd.R_reads' HO344.out).2.1); rintro e w75 ⟨rfl, hb⟩; refine ⟨_, rfl, ?_⟩; have n0_ := Gv.a0 (Kd.R_below (Gv.kr HO330.out) hb); have n1_ := Gv.a0 (Kd.R_below (Gv.kr HO333.out) hb); have n2_ := Gv.a0 (Kd.R_below (Gv.kr HO341.out) hb); have n3_ := Gv.a0 (Kd.R_below (Gv.kr HO344.out) hb); have n4_ := Gv.a0 (Kd.R_below (Gv.kr HO354.out) hb); have n5_ := Gv.a0 (Kd.R_below (Gv.kr HO365.out) hb); have n6_ := Gv.a0 (Kd.R_below (Gv.kr HO368.out) hb); have n7_ := Gv.a0 (Gv.bb BK338.out hb); have n8_ := Gv.a0 (Gv.bb BK349.out hb); have n9_ := Gv.a0 (Gv.bb BK373.out hb); have n10_ := Gv.a0 (below_step Gv.bw hb); clear HO330; clear HO333; clear HO341; clear HO344; clear HO354; clear HO365; clear HO368; clear BK338; clear BK349; clear BK373; clear HB; have HO330 := n0_; have HO333 := n1_; have HO341 := n2_; have HO344 := n3_; have HO354 := n4_; have HO365 := n5_; have HO368 := n6_; have BK338 := n7_; have BK349 := n8_; have BK373 := n9_; have HB := n10_; clear n0_ n1_ n2_ n3_ n4_ n5_ n6_ n7_ n8_ n9_ n10_; (try clear hb); (try clear hb2); (try clear hk); (try clear hi)))
                go_ret
                exact ⟨Gv.rt, Gv.bw⟩
               ·rw [if_neg c35] at H
                exact absurd H (by simp)
             ·rw [if_neg c32] at H
              exact absurd H (by simp)
            ·replace c31 := Bool.eq_false_iff.mpr c31
             subst c31
             have H1 : (none) = some r := by rw [if_neg (show ¬ (false = true) by decide)] at H; exact H
             clear H
             have H := H1
             clear H1
             exact absurd H (by simp)
           ·replace c29 := Bool.eq_false_iff.mpr c29
            subst c29
            have H1 : (none) = some r := by rw [if_neg (show ¬ (false = true) by decide)] at H; exact H
            clear H
            have H := H1
            clear H1
            exact absurd H (by simp)
          ·rw [if_neg c25] at H
           exact absurd H (by simp)
        ·replace c21 := Bool.eq_false_iff.mpr c21
         subst c21
         have H1 : (none) = some r := by rw [if_neg (show ¬ (false = true) by decide)] at H; exact H
         clear H
         have H := H1
         clear H1
         exact absurd H (by simp)
       ·replace c19 := Bool.eq_false_iff.mpr c19
        subst c19
        have H1 : (none) = some r := by rw [if_neg (show ¬ (false = true) by decide)] at H; exact H
        clear H
        have H := H1
        clear H1
        exact absurd H (by simp)
     ·replace c15 := Bool.eq_false_iff.mpr c15
      subst c15
      have H1 : (none) = some r := by rw [if_neg (show ¬ (false = true) by decide)] at H; exact H
      clear H
      have H := H1
      clear H1
      exact absurd H (by simp)
    ·rw [if_neg c12] at H
     exact absurd H (by simp)
   ·replace c11 := Bool.eq_false_iff.mpr c11
    subst c11
    have H1 : (none) = some r := by rw [if_neg (show ¬ (false = true) by decide)] at H; exact H
    clear H
    have H := H1
    clear H1
    exact absurd H (by simp)
  ·replace c9 := Bool.eq_false_iff.mpr c9
   subst c9
   have H1 : (none) = some r := by rw [if_neg (show ¬ (false = true) by decide)] at H; exact H
   clear H
   have H := H1
   clear H1
   exact absurd H (by simp)

end Go.Proofs.Ytiokbmbdhejciaa.PCr
