/- Plain Lean functions of a law's Go functions, their contracts, by a program of this session (wip/pr.py over the kit's print). -/
import Derived.Test.YtfnpodebjejhpaaPTux0
import Derived.Test.YtfnpodebjejhpaaPTux1
import Derived.Test.YtfnpodebjejhpaaPTux5
namespace Go.Proofs.Ytfnpodebjejhpaa.PTu
open Go.RowKit Go.Proofs.YtfnpodebjejhpaaW.PrintWords Go.Proofs.YtfnpodebjejhpaaW.PrintLast Go.Proofs.YtfnpodebjejhpaaW.PrintMore
attribute [local go_sem] max2_int min2_int max_two min_two max_three min_three max_four min_four   -- for this text's walks alone
set_option linter.unusedVariables false
set_option linter.unusedSimpArgs false

attribute [local go_sem high] eqA33
/-! ### slices_Concat_byte_byte: function 73 -/
mutual
def slices_Concat_byte_byte.l0 : Nat → List (List Int) → Int → List (List Int) → Int → Int → Option (List Int)
 | 0, _, _, _, _, _ => none
 | k + 1, x0, x3, x9, x10, x11 => if x11 < x10 then (if 0 ≤ x11 then (if x11 < (x9.length : Int) then (if (wrap64 (x3 + ((rd_L11 x9 x11).length : Int))) < 0 then (none) else (slices_Concat_byte_byte.l0 k x0 (wrap64 (x3 + ((rd_L11 x9 x11).length : Int))) x9 x10 (wrap64 (x11 + 1)))) else (none)) else (none)) else ((slices_Grow_byte_byte.f x3).bind fun t343 => (slices_Concat_byte_byte.l1 k t343 x0 (x0.length : Int) 0))
def slices_Concat_byte_byte.l1 : Nat → List Int → List (List Int) → Int → Int → Option (List Int)
 | 0, _, _, _, _ => none
 | k + 1, x6, x25, x26, x27 => if x27 < x26 then (if 0 ≤ x27 then (if x27 < (x25.length : Int) then (if x6.length + (rd_L11 x25 x27).length < 140737488355328 then (slices_Concat_byte_byte.l1 k (x6 ++ (rd_L11 x25 x27)) x25 x26 (wrap64 (x27 + 1))) else (none)) else (none)) else (none)) else (some x6)
end
def slices_Concat_byte_byte.f (k : Nat) (l0 : List (List Int)) : Option (List Int) := slices_Concat_byte_byte.l0 k l0 0 l0 (l0.length : Int) 0
theorem slices_Concat_byte_byte.mono_l : ∀ k, (∀ y0 y1 y2 y3 y4, LeO (slices_Concat_byte_byte.l0 k y0 y1 y2 y3 y4) (slices_Concat_byte_byte.l0 (k + 1) y0 y1 y2 y3 y4)) ∧ (∀ y0 y1 y2 y3, LeO (slices_Concat_byte_byte.l1 k y0 y1 y2 y3) (slices_Concat_byte_byte.l1 (k + 1) y0 y1 y2 y3))
 | 0 => ⟨fun _ _ _ _ _ r h => by simp [slices_Concat_byte_byte.l0] at h, fun _ _ _ _ r h => by simp [slices_Concat_byte_byte.l1] at h⟩
 | k + 1 => by
  obtain ⟨ih0, ih1⟩ := slices_Concat_byte_byte.mono_l k
  refine ⟨?_, ?_⟩
  ·intro y0 y1 y2 y3 y4
   unfold slices_Concat_byte_byte.l0
   repeat' first
   | (with_reducible exact ih0 _ _ _ _ _)
   | (with_reducible exact ih1 _ _ _ _)
   | (with_reducible exact LeO.refl _)
   | (with_reducible exact LeO.none _)
   | (with_reducible refine LeO.ite ?_ ?_)
   | (with_reducible refine LeO.bind ?_ (fun _ => ?_))
   | exact ih0 _ _ _ _ _
   | exact ih1 _ _ _ _
   | exact LeO.none _
   | refine LeO.ite ?_ ?_
   | refine LeO.bind ?_ (fun _ => ?_)
  ·intro y0 y1 y2 y3
   unfold slices_Concat_byte_byte.l1
   repeat' first
   | (with_reducible exact ih0 _ _ _ _ _)
   | (with_reducible exact ih1 _ _ _ _)
   | (with_reducible exact LeO.refl _)
   | (with_reducible exact LeO.none _)
   | (with_reducible refine LeO.ite ?_ ?_)
   | (with_reducible refine LeO.bind ?_ (fun _ => ?_))
   | exact ih0 _ _ _ _ _
   | exact ih1 _ _ _ _
   | exact LeO.none _
   | refine LeO.ite ?_ ?_
   | refine LeO.bind ?_ (fun _ => ?_)
theorem slices_Concat_byte_byte.mono : ∀ a0 k, LeO (slices_Concat_byte_byte.f k a0) (slices_Concat_byte_byte.f (k + 1) a0) := by
 intro a0 k
 obtain ⟨ih0, ih1⟩ := slices_Concat_byte_byte.mono_l k
 unfold slices_Concat_byte_byte.f
 repeat' first
   | (with_reducible exact ih0 _ _ _ _ _)
   | (with_reducible exact ih1 _ _ _ _)
   | (with_reducible exact LeO.refl _)
   | (with_reducible exact LeO.none _)
   | (with_reducible refine LeO.ite ?_ ?_)
   | (with_reducible refine LeO.bind ?_ (fun _ => ?_))
   | exact ih0 _ _ _ _ _
   | exact ih1 _ _ _ _
   | exact LeO.none _
   | refine LeO.ite ?_ ?_
   | refine LeO.bind ?_ (fun _ => ?_)
set_option maxHeartbeats 8000000 in
set_option maxRecDepth 100000 in
theorem slices_Concat_byte_byte.calls (k : Nat) (A0 : Option Addr) (c0 : Nat) (l0 : List (List Int)) (r : List Int) (w : World) (hr0 : Kd.C (Kd.slice 5 (Kd.int .u8)) w A0 l0.length l0) (hc0 : l0.length ≤ c0) (h : slices_Concat_byte_byte.f k l0 = some r) :
  Calls Try.prog 73 #[.slice A0 l0.length c0] w fun e w' => ∃ v0_ : Value, e = .returned (v0_) ∧ Kd.R (Kd.int .u8) 5 w' w.heap.size (fun _ => True) v0_ r ∧ Below w.heap.size w w' := by
 have HR0 := Gv.a0 hr0
 have HC0 := Gv.a0 hc0
 clear hr0 hc0
 have HB := Gv.a0 (Below.refl w.heap.size w)
 have H : (slices_Concat_byte_byte.l0 k l0 0 l0 (l0.length : Int) 0) = some r := h
 clear h
 have H' := Gv.a0 H
 clear H
 go_enter Try.func73, Try.ntmps73
 go_wp2
 go_loopg [3, 11] k (fun kq v3 v11 w' => ∃ (x3_1 : Int) (x11_1 : Int), v3 = .int .i64 x3_1 ∧ v11 = .int .i64 x11_1 ∧ Aside0 (slices_Concat_byte_byte.l0 kq l0 x3_1 l0 (l0.length : Int) x11_1 = some r) ∧ Aside0 (kq ≤ k) ∧ Aside0 (Below w.heap.size w w'))
 case atStart => exact ⟨(0), (0), (by first | rfl | (simp; done) | (simp [Int.tdiv_eq_ediv_of_nonneg]; done) | (simp [*]; done)), (by first | rfl | (simp; done) | (simp [Int.tdiv_eq_ediv_of_nonneg]; done) | (simp [*]; done)), H', ⟨Nat.le_refl _⟩, ⟨by repeat (first | (with_reducible first | exact HB.out | apply below_alloc | apply pw_below_drewN | apply below_drew1) | exact HB.out)⟩⟩
 case round =>
  clear H'
  obtain ⟨x3_1, x11_1, rfl, rfl, HA, HK1, HB⟩ := hrel
  cases gk with
  | zero => exact absurd HA.out (by simp [slices_Concat_byte_byte.l0])
  | succ k1 =>
   have H := HA.out
   clear HA
   simp only [slices_Concat_byte_byte.l0] at H
   by_cases c2 : x11_1 < (l0.length : Int)
   ·rw [if_pos c2] at H
    have c2b0 : decide (x11_1 < (l0.length : Int)) = true := decide_eq_true c2
    clear c2
    by_cases c3 : 0 ≤ x11_1
    ·rw [if_pos c3] at H
     have c3b0 : decide (0 ≤ x11_1) = true := decide_eq_true c3
     clear c3
     by_cases c4 : x11_1 < (l0.length : Int)
     ·rw [if_pos c4] at H
      have c4b0 : decide (x11_1 < (l0.length : Int)) = true := decide_eq_true c4
      clear c4
      by_cases c5 : (wrap64 (x3_1 + ((rd_L11 l0 x11_1).length : Int))) < 0
      ·rw [if_pos c5] at H
       exact absurd H (by simp)
      ·rw [if_neg c5] at H
       have c5b0 : decide ((wrap64 (x3_1 + ((rd_L11 l0 x11_1).length : Int))) < 0) = false := decide_eq_false c5
       clear c5
       have H' := Gv.a0 H
       clear H
       have p342 : 0 ≤ (x11_1 : Int) := of_decide_eq_true (by first | (with_reducible assumption) | assumption)
       have q342 : x11_1 < (l0.length : Int) := of_decide_eq_true (by first | (with_reducible assumption) | assumption)
       obtain ⟨ad342, A342_0, c342_0, e342, hx342_0, hl342_0, hi342_0⟩ := at_L11 HR0.out x11_1 p342 q342
       cases e342
       replace hx342_0 := Gv.bx HB.out hx342_0
       have HR342_0 := Gv.a0 hi342_0
       have HC342_0 := Gv.a0 hl342_0
       clear hi342_0 hl342_0
       replace p342 := eq_true p342
       replace q342 := eq_true q342
       go_wp2
       go_roundg k1
       case measure => have := HK1.out; omega
       case rel => exact ⟨(wrap64 (x3_1 + ((rd_L11 l0 x11_1).length : Int))), (wrap64 (x11_1 + 1)), (by first | rfl | (simp; done) | (simp [Int.tdiv_eq_ediv_of_nonneg]; done) | (simp [*]; done)), (by first | rfl | (simp; done) | (simp [Int.tdiv_eq_ediv_of_nonneg]; done) | (simp [*]; done)), H', ⟨by have := HK1.out; omega⟩, ⟨by repeat (first | (with_reducible first | exact HB.out | apply below_alloc | apply pw_below_drewN | apply below_drew1) | exact HB.out)⟩⟩
     ·rw [if_neg c4] at H
      exact absurd H (by simp)
    ·rw [if_neg c3] at H
     exact absurd H (by simp)
   ·rw [if_neg c2] at H
    have c2b0 : decide (x11_1 < (l0.length : Int)) = false := decide_eq_false c2
    clear c2
    replace H := Option.bind_eq_some_iff.mp H
    obtain ⟨t343, A60, H⟩ := H
    replace H : (slices_Concat_byte_byte.l1 k1 t343 l0 (l0.length : Int) 0) = some r := H
    have A6 := Gv.a0 A60
    clear A60
    have H' := Gv.a0 H
    clear H
    go_wp2_with (first | ((with_reducible refine gate_callee (f := 85) rfl ?_); refine goesL_ (some 24) rfl rfl Try.func85 (by kernel_rfl) rfl #[.slice none 0 0, .int .i64 x3_1] rfl Gv.lm ?_; (with_reducible refine (slices_Grow_byte_byte.calls x3_1 t343 _ A6.out).mono ?_); rintro e w7 ⟨v344, rfl, ho0, hb⟩; refine ⟨_, rfl, ?_⟩; have n0_ := Gv.a0 (Kd.R_lower ho0 (below_size Gv.bw)); have n1_ := Gv.a0 (below_step Gv.bw hb); clear HB; have HO345 := n0_; have HB := n1_; clear n0_ n1_; (try clear hb); (try clear hb2); (try clear hk); (try clear hi); (try clear ho0)))
    go_loopg [6, 27] k1 (fun kq v6 v27 w' => ∃ (x6_2 : List Int) (x27_2 : Int), v27 = .int .i64 x27_2 ∧ Aside0 (slices_Concat_byte_byte.l1 kq x6_2 l0 (l0.length : Int) x27_2 = some r) ∧ Aside0 (kq ≤ k1) ∧ Aside0 (Kd.R (Kd.int .u8) 5 w' w.heap.size (fun _ => True) v6 x6_2) ∧ Aside0 (Below w.heap.size w w'))
    case atStart => exact ⟨(t343), (0), (by first | rfl | (simp; done) | (simp [Int.tdiv_eq_ediv_of_nonneg]; done) | (simp [*]; done)), H', ⟨Nat.le_refl _⟩, ⟨by (with_reducible repeat (first | apply Kd.R_alloc | apply Kd.R_drewN | apply Kd.R_drew)); exact HO345.out⟩, ⟨by repeat (first | (with_reducible first | exact HB.out | apply below_alloc | apply pw_below_drewN | apply below_drew1) | exact HB.out)⟩⟩
    case round =>
     clear H'
     try clear c2
     try clear c2b0
     try clear p2
     try clear c3
     try clear c3b0
     try clear p3
     try clear q3
     try clear hx3
     try clear c4
     try clear c4b0
     try clear c5
     try clear c5b0
     try clear p6
     try clear c7
     try clear hx342_0
     try clear p342
     try clear q342
     obtain ⟨x6_2, x27_2, rfl, HA, HK2, HO_6, HB⟩ := hrel
     cases gk with
     | zero => exact absurd HA.out (by simp [slices_Concat_byte_byte.l1])
     | succ k2 =>
      have H := HA.out
      clear HA
      simp only [slices_Concat_byte_byte.l1] at H
      by_cases c8 : x27_2 < (l0.length : Int)
      ·rw [if_pos c8] at H
       have c8b0 : decide (x27_2 < (l0.length : Int)) = true := decide_eq_true c8
       clear c8
       by_cases c9 : 0 ≤ x27_2
       ·rw [if_pos c9] at H
        have c9b0 : decide (0 ≤ x27_2) = true := decide_eq_true c9
        clear c9
        by_cases c10 : x27_2 < (l0.length : Int)
        ·rw [if_pos c10] at H
         have c10b0 : decide (x27_2 < (l0.length : Int)) = true := decide_eq_true c10
         clear c10
         by_cases c11 : x6_2.length + (rd_L11 l0 x27_2).length < 140737488355328
         ·rw [if_pos c11] at H
          have LMc11 := Gv.a0 c11
          clear c11
          obtain ⟨y347, hy347⟩ : ∃ y_ : List Int, y_ = (x6_2 ++ (rd_L11 l0 x27_2)) := ⟨_, rfl⟩
          replace H : (slices_Concat_byte_byte.l1 k2 y347 l0 (l0.length : Int) (wrap64 (x27_2 + 1))) = some r := by first | (rw [hy347]; with_reducible exact H) | (have H2_ := (Option.bind_some _ _).symm.trans H; rw [hy347]; with_reducible exact H2_) | (have H2_ := (Option.bind_some _ _).symm.trans H; with_reducible exact H2_) | with_reducible exact H | (rw [hy347]; exact H) | exact H
          have Ny347 := Gv.a0 hy347
          clear hy347
          have H' := Gv.a0 H
          clear H
          have p346 : 0 ≤ (x27_2 : Int) := of_decide_eq_true (by first | (with_reducible assumption) | assumption)
          have q346 : x27_2 < (l0.length : Int) := of_decide_eq_true (by first | (with_reducible assumption) | assumption)
          obtain ⟨ad346, A346_0, c346_0, e346, hx346_0, hl346_0, hi346_0⟩ := at_L11 HR0.out x27_2 p346 q346
          cases e346
          replace hx346_0 := Gv.bx HB.out hx346_0
          have HR346_0 := Gv.a0 hi346_0
          have HC346_0 := Gv.a0 hl346_0
          clear hi346_0 hl346_0
          replace p346 := eq_true p346
          replace q346 := eq_true q346
          go_wp2_with (first | ((with_reducible refine gate_builtin (b := .append) (xs := #[.tmp 31, .tmp 32]) rfl ?_); at_builtin; refine Kd.R_append_rows (Kd.int .u8) (w0 := w) w.heap.size rfl (.tmp 31) (.tmp 32) 68 5 (.int .u8 0) 1 rfl Try.underlying68 info5 rfl (by decide) (by omega) u6 x6_2 (rd_L11 l0 x27_2) _ _ _ (fun _ => True) (fun _ => False) rfl rfl ?aO ?aR (fun _ _ h => h) (fun _ h => h.elim) ?aF ?aB ?aS ?aL ?_; (case aR => repeat (first | exact (Kd.C_below HR346_0.out HB.out) | (with_reducible refine Kd.C_alloc ?_ _) | (with_reducible refine Kd.C_drewN ?_ _) | (with_reducible refine Kd.C_drew ?_))); (case aB => exact Gv.bw); (case aF => exact (fun _ _ => trivial)); (case aO => exact (Gv.kr HO_6.out)); (case aS => exact (below_size Gv.bw)); (case aL => have := LMc11.out; omega); intro v348 w12 ho hb hg hat; rw [← Ny347.out] at ho; have n0_ := Gv.a0 (hb); have n1_ := Gv.a0 (ho); clear HB; clear HO_6; have HB := n0_; have HO349 := n1_; clear n0_ n1_; clear ho hb hg hat))
          go_roundg k2
          case measure => have := HK1.out; have := HK2.out; omega
          case rel => exact ⟨(y347), (wrap64 (x27_2 + 1)), (by first | rfl | (simp; done) | (simp [Int.tdiv_eq_ediv_of_nonneg]; done) | (simp [*]; done)), H', ⟨by have := HK1.out; have := HK2.out; omega⟩, ⟨by (with_reducible repeat (first | apply Kd.R_alloc | apply Kd.R_drewN | apply Kd.R_drew)); exact HO349.out⟩, ⟨by repeat (first | (with_reducible first | exact HB.out | apply below_alloc | apply pw_below_drewN | apply below_drew1) | exact HB.out)⟩⟩
         ·rw [if_neg c11] at H
          exact absurd H (by simp)
        ·rw [if_neg c10] at H
         exact absurd H (by simp)
       ·rw [if_neg c9] at H
        exact absurd H (by simp)
      ·rw [if_neg c8] at H
       have c8b0 : decide (x27_2 < (l0.length : Int)) = false := decide_eq_false c8
       clear c8
       obtain rfl := Option.some.inj H
       go_wp2
       go_ret
       exact ⟨_, by first | rfl | (simp [errW_none, errW_some] <;> rfl) | (simp [*, errW_none, errW_some] <;> rfl), by (with_reducible repeat (first | apply Kd.R_alloc | apply Kd.R_drewN | apply Kd.R_drew)); exact HO_6.out, by repeat (first | (with_reducible first | exact HB.out | apply below_alloc | apply pw_below_drewN | apply below_drew1) | exact HB.out)⟩

/-! ### impl_put: function 87 -/
def impl_put.l0 : Nat → Int → Int → List Int → Int → Int → Option (List Int)
 | 0, _, _, _, _, _ => none
 | k + 1, x0, x1, x5, x10, x11 => if x11 < x10 then (if 0 ≤ (wrap64 (8 * (wrap64 ((wrap64 (x1 - 1)) - x11)))) then (if 0 ≤ x11 then (if x11 < (x5.length : Int) then (impl_put.l0 k x0 x1 (x5.set (x11 : Int).toNat ((shr .i64 x0 (wrap64 (8 * (wrap64 ((wrap64 (x1 - 1)) - x11))))) % 256)) x10 (wrap64 (x11 + 1))) else (none)) else (none)) else (none)) else (some x5)
def impl_put.f (k : Nat) (a0 : Int) (a1 : Int) : Option (List Int) := if 0 ≤ a1 then (if (a1 : Int).toNat ≤ 281474976710656 then ((some (List.replicate (a1 : Int).toNat 0 : List Int)).bind fun y350 => (impl_put.l0 k a0 a1 y350 (y350.length : Int) 0)) else (none)) else (none)
theorem impl_put.mono_l : ∀ k, (∀ y0 y1 y2 y3 y4, LeO (impl_put.l0 k y0 y1 y2 y3 y4) (impl_put.l0 (k + 1) y0 y1 y2 y3 y4))
 | 0 => fun _ _ _ _ _ r h => by simp [impl_put.l0] at h
 | k + 1 => by
  have ih0 := impl_put.mono_l k
  ·intro y0 y1 y2 y3 y4
   unfold impl_put.l0
   repeat' first
   | (with_reducible exact ih0 _ _ _ _ _)
   | (with_reducible exact LeO.refl _)
   | (with_reducible exact LeO.none _)
   | (with_reducible refine LeO.ite ?_ ?_)
   | (with_reducible refine LeO.bind ?_ (fun _ => ?_))
   | exact ih0 _ _ _ _ _
   | exact LeO.none _
   | refine LeO.ite ?_ ?_
   | refine LeO.bind ?_ (fun _ => ?_)
theorem impl_put.mono : ∀ a0 a1 k, LeO (impl_put.f k a0 a1) (impl_put.f (k + 1) a0 a1) := by
 intro a0 a1 k
 have ih0 := impl_put.mono_l k
 unfold impl_put.f
 repeat' first
   | (with_reducible exact ih0 _ _ _ _ _)
   | (with_reducible exact LeO.refl _)
   | (with_reducible exact LeO.none _)
   | (with_reducible refine LeO.ite ?_ ?_)
   | (with_reducible refine LeO.bind ?_ (fun _ => ?_))
   | exact ih0 _ _ _ _ _
   | exact LeO.none _
   | refine LeO.ite ?_ ?_
   | refine LeO.bind ?_ (fun _ => ?_)
set_option maxHeartbeats 8000000 in
set_option maxRecDepth 100000 in
theorem impl_put.calls (k : Nat) (a0 : Int) (a1 : Int) (r : List Int) (w : World) (h : impl_put.f k a0 a1 = some r) :
  Calls Try.prog 87 #[.int .i64 a0, .int .i64 a1] w fun e w' => ∃ v0_ : Value, e = .returned (v0_) ∧ Kd.R (Kd.int .u8) 5 w' w.heap.size (fun _ => True) v0_ r ∧ Below w.heap.size w w' := by
 have HB := Gv.a0 (Below.refl w.heap.size w)
 have H : (if 0 ≤ a1 then (if (a1 : Int).toNat ≤ 281474976710656 then ((some (List.replicate (a1 : Int).toNat 0 : List Int)).bind fun y350 => (impl_put.l0 k a0 a1 y350 (y350.length : Int) 0)) else (none)) else (none)) = some r := h
 clear h
 by_cases c3 : 0 ≤ a1
 ·rw [if_pos c3] at H
  have c3b0 := eq_true c3
  have c3b1 : decide (0 ≤ a1) = true := decide_eq_true c3
  clear c3
  by_cases c4 : (a1 : Int).toNat ≤ 281474976710656
  ·rw [if_pos c4] at H
   have c4b0 := eq_true c4
   have c4b1 : decide ((a1 : Int).toNat ≤ 281474976710656) = true := decide_eq_true c4
   clear c4
   obtain ⟨y350, hy350⟩ : ∃ y_ : List Int, y_ = (List.replicate (a1 : Int).toNat 0) := ⟨_, rfl⟩
   replace H : (impl_put.l0 k a0 a1 y350 (y350.length : Int) 0) = some r := by first | (rw [hy350]; with_reducible exact H) | (have H2_ := (Option.bind_some _ _).symm.trans H; rw [hy350]; with_reducible exact H2_) | (have H2_ := (Option.bind_some _ _).symm.trans H; with_reducible exact H2_) | with_reducible exact H | (rw [hy350]; exact H) | exact H
   have Ny350 := Gv.a0 hy350
   clear hy350
   have H' := Gv.a0 H
   clear H
   go_enter Try.func87, Try.ntmps87
   go_wp2_with (first | ((with_reducible refine gate_dst (N := 8) rfl ?_); refine Kd.R_make (Kd.int .u8) _ 5 rfl (N := 8) rfl 68 _ _ rfl a1 rfl rfl Try.underlying68 (.int .u8 0) 1 info5 rfl (by decide) (by omega) 0 (ok := fun _ => True) (okp := fun _ => True) rfl (fun _ hk => hk) trivial (of_decide_eq_true (by first | (with_reducible assumption) | assumption)) (Nat.le_trans (Nat.mul_le_mul_right _ (of_decide_eq_true (by first | (with_reducible assumption) | assumption) : a1.toNat ≤ 281474976710656)) (by omega)) (Below.refl _ _) (Nat.le_refl _) ?_; intro v351 w5 ho6 hb hg_ hnew_; clear hg_ hnew_; (first | rw [← Ny350.out] at ho6 | (simp only [Int.reduceToNat] at ho6; rw [← Ny350.out] at ho6)); have n0_ := Gv.a0 (Kd.R_lower ho6 (below_size Gv.bw)); have n1_ := Gv.a0 (below_step Gv.bw hb); clear HB; have HO352 := n0_; have HB := n1_; clear n0_ n1_; clear hb ho6; obtain ⟨Ao7, co7, eo7⟩ := Kd.R_slice HO352.out; subst eo7))
   go_loopg [11] k (fun kq v11 w' => ∃ (x5_1 : List Int) (x11_1 : Int), v11 = .int .i64 x11_1 ∧ Aside0 (impl_put.l0 kq a0 a1 x5_1 (y350.length : Int) x11_1 = some r) ∧ Aside0 (kq ≤ k) ∧ Aside0 (Kd.R (Kd.int .u8) 5 w' w.heap.size (fun _ => True) (.slice Ao7 y350.length co7) x5_1) ∧ Aside0 (Below w.heap.size w w'))
   case atStart => exact ⟨(y350), (0), (by first | rfl | (simp; done) | (simp [Int.tdiv_eq_ediv_of_nonneg]; done) | (simp [*]; done)), H', ⟨Nat.le_refl _⟩, ⟨by (with_reducible repeat (first | apply Kd.R_alloc | apply Kd.R_drewN | apply Kd.R_drew)); exact HO352.out⟩, ⟨by repeat (first | (with_reducible first | exact HB.out | apply below_alloc | apply pw_below_drewN | apply below_drew1) | exact HB.out)⟩⟩
   case round =>
    clear H'
    try clear p2
    try clear c3
    try clear c3b0
    try clear c3b1
    try clear c4
    try clear c4b0
    try clear c4b1
    obtain ⟨x5_1, x11_1, rfl, HA, HK1, HO_5, HB⟩ := hrel
    have hl5_1 := (Kd.R_reads' HO_5.out).1
    rw [hl5_1] at HO_5
    (try simp only [hl5_1])
    cases gk with
    | zero => exact absurd HA.out (by simp [impl_put.l0])
    | succ k1 =>
     have H := HA.out
     clear HA
     simp only [impl_put.l0] at H
     by_cases c8 : x11_1 < (y350.length : Int)
     ·rw [if_pos c8] at H
      have c8b0 : decide (x11_1 < (y350.length : Int)) = true := decide_eq_true c8
      (try (have c8b9 := c8b0; rw [hl5_1] at c8b9))
      (try (have c8b8 := c8b0; rw [← hl5_1] at c8b8))
      clear c8
      obtain ⟨ji9, hji9⟩ : ∃ j_ : Int, (wrap64 (8 * (wrap64 ((wrap64 (a1 - 1)) - x11_1)))) = j_ := ⟨_, rfl⟩
      replace H : (if 0 ≤ (ji9) then (if 0 ≤ x11_1 then (if x11_1 < (x5_1.length : Int) then (impl_put.l0 k1 a0 a1 (x5_1.set (x11_1 : Int).toNat ((shr .i64 a0 (ji9)) % 256)) (y350.length : Int) (wrap64 (x11_1 + 1))) else (none)) else (none)) else (none)) = some r := by first | (rw [hji9] at H; exact H) | (simp only [hji9] at H ⊢; exact H)
      have hji9w : (IntKind.i64.wrap (8 * (wrap64 ((wrap64 (a1 - 1)) - x11_1)))) = ji9 := (i64_w _).trans hji9
      by_cases c10 : 0 ≤ (ji9)
      ·rw [if_pos c10] at H
       have c10b0 := eq_true c10
       have c10b1 : decide (0 ≤ (ji9)) = true := decide_eq_true c10
       clear c10
       obtain ⟨ji11, hji11⟩ : ∃ j_ : Int, (shr .i64 a0 (ji9)) = j_ := ⟨_, rfl⟩
       replace H : (if 0 ≤ x11_1 then (if x11_1 < (x5_1.length : Int) then (impl_put.l0 k1 a0 a1 (x5_1.set (x11_1 : Int).toNat ((ji11) % 256)) (y350.length : Int) (wrap64 (x11_1 + 1))) else (none)) else (none)) = some r := by first | (rw [hji11] at H; exact H) | (simp only [hji11] at H ⊢; exact H)
       have hji11_ : (a0 / 2 ^ min (ji9).toNat 64) = ji11 := hji11
       have hji11z : (ji9) ≤ 64 → (a0 / 2 ^ (ji9).toNat) = ji11 := shr_small hji11
       by_cases c12 : 0 ≤ x11_1
       ·rw [if_pos c12] at H
        have c12b0 : decide (0 ≤ x11_1) = true := decide_eq_true c12
        clear c12
        by_cases c13 : x11_1 < (x5_1.length : Int)
        ·rw [if_pos c13] at H
         have c13b0 : decide (x11_1 < (x5_1.length : Int)) = true := decide_eq_true c13
         clear c13
         obtain ⟨y353, hy353⟩ : ∃ y_ : List Int, y_ = (x5_1.set (x11_1 : Int).toNat ((ji11) % 256)) := ⟨_, rfl⟩
         replace H : (impl_put.l0 k1 a0 a1 y353 (y350.length : Int) (wrap64 (x11_1 + 1))) = some r := by first | (rw [hy353]; with_reducible exact H) | (have H2_ := (Option.bind_some _ _).symm.trans H; rw [hy353]; with_reducible exact H2_) | (have H2_ := (Option.bind_some _ _).symm.trans H; with_reducible exact H2_) | with_reducible exact H | (rw [hy353]; exact H) | exact H
         have Ny353 := Gv.a0 hy353
         clear hy353
         have H' := Gv.a0 H
         clear H
         have p14 : 0 ≤ (x11_1 : Int) := of_decide_eq_true (by first | (with_reducible assumption) | assumption)
         have q14 : (x11_1 : Int) < ((x5_1.length : Int) : Int) := of_decide_eq_true (by first | (with_reducible assumption) | assumption)
         obtain ⟨go14, co14, eo14, gb14, gl14, cl14, HG14⟩ := Kd.R_form HO_5.out (by omega)
         (first | cases eo14 | (injection eo14 with ea_ en_ ec_; (first | subst ea_ | (injection ea_ with ea_; subst ea_)); subst ec_; clear en_))
         have GB14 := Gv.a0 gb14
         have GG14 := Gv.a0 HG14
         clear gb14 gl14 HG14
         obtain ⟨hx14_0, hf14_0⟩ := Kd.R_celln 0 HO_5.out (x11_1 : Int) p14 q14
         replace p14 := eq_true p14
         replace q14 := eq_true q14
         have HP15 := Kd.R_putg HO_5.out (x11_1 : Int) ((ji11) % 256)
         go_wp2_with (first | ((with_reducible refine gate_store (t := 5) (p := 24) rfl ?_); refine store_event (t := 5) (p := 24) (v := ?vo_w16) (w1 := (wr.setCell ⟨go14, (x11_1 : Int).toNat, none⟩ (.int .u8 ((ji11) % 256)))) ?hg ?ho ?hn ?hr ?_; (case ho => rfl); (case hg => rfl); (case hn => rfl); (case hr => first | (go_simp; done) | (go_simp; rfl)); intro w16 hw; have hg : wr.grownBy w16 (some go14) := (by rw [hw]; exact HP15.2); have hp_ : Kd.R (Kd.int .u8) 5 w16 w.heap.size (fun _ => True) (.slice (some ⟨go14, 0, none⟩) x5_1.length co7) y353 := (by rw [hw, Ny353.out]; exact HP15.1); clear HP15; have n0_ := Gv.a0 (hp_); have n1_ := Gv.a0 ((by rw [hw]; exact below_set (HB.out) GB14.out : Below w.heap.size w w16)); clear HO_5; clear HB; have HO_5 := n0_; have HB := n1_; clear n0_ n1_; clear hg hw hp_))
         (try simp only [← hl5_1])
         go_roundg k1
         case measure => have := HK1.out; omega
         case rel => exact ⟨(y353), (wrap64 (x11_1 + 1)), (by first | rfl | (simp; done) | (simp [Int.tdiv_eq_ediv_of_nonneg]; done) | (simp [*]; done)), H', ⟨by have := HK1.out; omega⟩, ⟨by (try simp only [hl5_1]); (with_reducible repeat (first | apply Kd.R_alloc | apply Kd.R_drewN | apply Kd.R_drew)); exact HO_5.out⟩, ⟨by repeat (first | (with_reducible first | exact HB.out | apply below_alloc | apply pw_below_drewN | apply below_drew1) | exact HB.out)⟩⟩
        ·rw [if_neg c13] at H
         exact absurd H (by simp)
       ·rw [if_neg c12] at H
        exact absurd H (by simp)
      ·rw [if_neg c10] at H
       exact absurd H (by simp)
     ·rw [if_neg c8] at H
      have c8b0 : decide (x11_1 < (y350.length : Int)) = false := decide_eq_false c8
      (try (have c8b9 := c8b0; rw [hl5_1] at c8b9))
      (try (have c8b8 := c8b0; rw [← hl5_1] at c8b8))
      clear c8
      obtain rfl := Option.some.inj H
      go_wp2
      go_ret
      exact ⟨_, by first | rfl | (simp [errW_none, errW_some] <;> rfl) | (simp [*, errW_none, errW_some] <;> rfl), by (with_reducible repeat (first | apply Kd.R_alloc | apply Kd.R_drewN | apply Kd.R_drew)); exact HO_5.out, by repeat (first | (with_reducible first | exact HB.out | apply below_alloc | apply pw_below_drewN | apply below_drew1) | exact HB.out)⟩
  ·rw [if_neg c4] at H
   exact absurd H (by simp)
 ·rw [if_neg c3] at H
  exact absurd H (by simp)

/-! ### impl_Put32: function 86 -/
def impl_Put32.f (k : Nat) (a0 : Int) : Option (List Int) := (impl_put.f k a0 4).bind fun t354 => (some t354)
theorem impl_Put32.mono : ∀ a0 k, LeO (impl_Put32.f k a0) (impl_Put32.f (k + 1) a0) := by
 intro a0 k
 unfold impl_Put32.f
 repeat' first
   | (with_reducible exact impl_put.mono _ _ _)
   | (with_reducible exact LeO.refl _)
   | (with_reducible exact LeO.none _)
   | (with_reducible refine LeO.ite ?_ ?_)
   | (with_reducible refine LeO.bind ?_ (fun _ => ?_))
   | exact impl_put.mono _ _ _
   | exact LeO.none _
   | refine LeO.ite ?_ ?_
   | refine LeO.bind ?_ (fun _ => ?_)
set_option maxHeartbeats 8000000 in
set_option maxRecDepth 100000 in
theorem impl_Put32.calls (k : Nat) (a0 : Int) (r : List Int) (w : World) (h : impl_Put32.f k a0 = some r) :
  Calls Try.prog 86 #[.int .i64 a0] w fun e w' => ∃ v0_ : Value, e = .returned (v0_) ∧ Kd.R (Kd.int .u8) 5 w' w.heap.size (fun _ => True) v0_ r ∧ Below w.heap.size w w' := by
 have HB := Gv.a0 (Below.refl w.heap.size w)
 have H : ((impl_put.f k a0 4).bind fun t354 => (some t354)) = some r := h
 clear h
 replace H := Option.bind_eq_some_iff.mp H
 obtain ⟨t354, A20, H⟩ := H
 replace H : (some t354) = some r := H
 have A2 := Gv.a0 A20
 clear A20
 obtain rfl := Option.some.inj H
 go_enter Try.func86, Try.ntmps86
 go_wp2_with (first | ((with_reducible refine gate_callee (f := 87) rfl ?_); refine goesL_ (some 4) rfl rfl Try.func87 (by kernel_rfl) rfl #[.int .i64 a0, .int .i64 4] rfl Gv.lm ?_; (with_reducible refine (impl_put.calls k a0 4 t354 _ A2.out).mono ?_); rintro e w3 ⟨v355, rfl, ho0, hb⟩; refine ⟨_, rfl, ?_⟩; have n0_ := Gv.a0 (Kd.R_lower ho0 (below_size Gv.bw)); have n1_ := Gv.a0 (below_step Gv.bw hb); clear HB; have HO356 := n0_; have HB := n1_; clear n0_ n1_; (try clear hb); (try clear hb2); (try clear hk); (try clear hi); (try clear ho0)))
 go_ret
 exact ⟨_, by first | rfl | (simp [errW_none, errW_some] <;> rfl) | (simp [*, errW_none, errW_some] <;> rfl), by (with_reducible repeat (first | apply Kd.R_alloc | apply Kd.R_drewN | apply Kd.R_drew)); exact HO356.out, by repeat (first | (with_reducible first | exact HB.out | apply below_alloc | apply pw_below_drewN | apply below_drew1) | exact HB.out)⟩

/-! ### impl_AddrBytes: function 74 -/
def impl_AddrBytes.f (k : Nat) (a0_0 : Int) (a0_1 : Int) (a0_2 : Int) (a0_3 : Int) (a0_4 : Int) : Option (List Int) := (impl_AddrOk.f a0_0 a0_1 a0_2 a0_3 a0_4).bind fun t358 => (if t358 = true then (if a0_0 = 4 then ((impl_Put32.f k a0_4).bind fun t359 => (some t359)) else ((impl_Put32.f k a0_1).bind fun t362 => ((impl_Put32.f k a0_2).bind fun t365 => ((impl_Put32.f k a0_3).bind fun t368 => ((impl_Put32.f k a0_4).bind fun t371 => ((slices_Concat_byte_byte.f k (([t362, t365, t368, t371] : List (List Int)))).bind fun t377 => (some t377))))))) else (some ([] : List Int)))
theorem impl_AddrBytes.mono : ∀ a0 a1 a2 a3 a4 k, LeO (impl_AddrBytes.f k a0 a1 a2 a3 a4) (impl_AddrBytes.f (k + 1) a0 a1 a2 a3 a4) := by
 intro a0 a1 a2 a3 a4 k
 unfold impl_AddrBytes.f
 repeat' first
   | (with_reducible exact impl_Put32.mono _ _)
   | (with_reducible exact slices_Concat_byte_byte.mono _ _)
   | (with_reducible exact LeO.refl _)
   | (with_reducible exact LeO.none _)
   | (with_reducible refine LeO.ite ?_ ?_)
   | (with_reducible refine LeO.bind ?_ (fun _ => ?_))
   | exact impl_Put32.mono _ _
   | exact slices_Concat_byte_byte.mono _ _
   | exact LeO.none _
   | refine LeO.ite ?_ ?_
   | refine LeO.bind ?_ (fun _ => ?_)
def impl_AddrBytes.T5 : Bool × List (List Nat × List Nat) := (true, [([], []), ([0], [0]), ([1], [1]), ([], []), ([3], [3]), ([4, 2], [4]), ([], []), ([6], [6]), ([7, 5], [7]), ([], []), ([9], [9]), ([10, 8], [10]), ([2, 5, 8, 11], [2, 5, 8, 11]), ([12, 11], [12]), ([13, 13, 0, 1, 2, 3, 4, 5, 6, 7, 8, 9, 10, 11, 12, 13], [13])])
def impl_AddrBytes.B5 : List Nat := [0, 1, 3, 0, 8, 31, 0, 64, 255, 0, 512, 2047, 4095, 8191, 16383]
theorem impl_AddrBytes.tab5 : rtab .any (opsOf Try.f74 5) = impl_AddrBytes.T5 := by kernel_rfl
theorem impl_AddrBytes.bits5 : waitsOk impl_AddrBytes.T5.2 impl_AddrBytes.B5 = true := by kernel_rfl
set_option maxHeartbeats 8000000 in
set_option maxRecDepth 100000 in
theorem impl_AddrBytes.calls (k : Nat) (a0_0 : Int) (a0_1 : Int) (a0_2 : Int) (a0_3 : Int) (a0_4 : Int) (r : List Int) (w : World) (h : impl_AddrBytes.f k a0_0 a0_1 a0_2 a0_3 a0_4 = some r) :
  Calls Try.prog 74 #[.agg #[.int .i64 a0_0, .int .i64 a0_1, .int .i64 a0_2, .int .i64 a0_3, .int .i64 a0_4]] w fun e w' => ∃ v0_ : Value, e = .returned (v0_) ∧ Kd.R (Kd.int .u8) 5 w' w.heap.size (fun _ => True) v0_ r ∧ Below w.heap.size w w' := by
 have hu29 := Try.underlying29
 have HB := Gv.a0 (Below.refl w.heap.size w)
 have H : ((impl_AddrOk.f a0_0 a0_1 a0_2 a0_3 a0_4).bind fun t358 => (if t358 = true then (if a0_0 = 4 then ((impl_Put32.f k a0_4).bind fun t359 => (some t359)) else ((impl_Put32.f k a0_1).bind fun t362 => ((impl_Put32.f k a0_2).bind fun t365 => ((impl_Put32.f k a0_3).bind fun t368 => ((impl_Put32.f k a0_4).bind fun t371 => ((slices_Concat_byte_byte.f k (([t362, t365, t368, t371] : List (List Int)))).bind fun t377 => (some t377))))))) else (some ([] : List Int)))) = some r := h
 clear h
 replace H := Option.bind_eq_some_iff.mp H
 obtain ⟨t358, A20, H⟩ := H
 replace H : (if t358 = true then (if a0_0 = 4 then ((impl_Put32.f k a0_4).bind fun t359 => (some t359)) else ((impl_Put32.f k a0_1).bind fun t362 => ((impl_Put32.f k a0_2).bind fun t365 => ((impl_Put32.f k a0_3).bind fun t368 => ((impl_Put32.f k a0_4).bind fun t371 => ((slices_Concat_byte_byte.f k (([t362, t365, t368, t371] : List (List Int)))).bind fun t377 => (some t377))))))) else (some ([] : List Int))) = some r := H
 have A2 := Gv.a0 A20
 clear A20
 by_cases c3 : t358 = true
 ·subst c3
  have H1 : (if a0_0 = 4 then ((impl_Put32.f k a0_4).bind fun t359 => (some t359)) else ((impl_Put32.f k a0_1).bind fun t362 => ((impl_Put32.f k a0_2).bind fun t365 => ((impl_Put32.f k a0_3).bind fun t368 => ((impl_Put32.f k a0_4).bind fun t371 => ((slices_Concat_byte_byte.f k (([t362, t365, t368, t371] : List (List Int)))).bind fun t377 => (some t377))))))) = some r := by rw [if_pos rfl] at H; exact H
  clear H
  have H := H1
  clear H1
  by_cases c4 : a0_0 = 4
  ·rw [if_pos c4] at H
   have c4b0 : (a0_0 == 4) = true := beq_iff_eq.mpr c4
   have c4b1 : (a0_0 != 4) = false := bne_eq_false_iff_eq.mpr c4
   clear c4
   replace H := Option.bind_eq_some_iff.mp H
   obtain ⟨t359, A50, H⟩ := H
   replace H : (some t359) = some r := H
   have A5 := Gv.a0 A50
   clear A50
   obtain rfl := Option.some.inj H
   go_enter Try.func74, Try.ntmps74
   go_wp2_with (first | ((with_reducible refine gate_dst (N := 1) rfl ?_); refine box_event ?hg (N := 1) ?hd (cs := #[.int .i64 a0_0, .int .i64 a0_1, .int .i64 a0_2, .int .i64 a0_3, .int .i64 a0_4]) (t := 29) ?hr ?_; (case hd => rfl); (case hg => rfl); (case hr => first | (go_simp; done) | (go_simp; rfl)); intro gb357 hg w6 hbox hb; have n0_ := Gv.a0 (below_step Gv.bw hb); have n1_ := Gv.a0 (hbox); have n2_ := Gv.a0 ((Gv.ble hg Gv.bw : w.heap.size ≤ gb357)); have n3_ := Gv.a0 ((Gv.ble hg Gv.bw : w.heap.size ≤ gb357)); clear HB; have HB := n0_; have BK357 := n1_; have GW357 := n2_; have GE357 := n3_; clear n0_ n1_ n2_ n3_; clear hb hbox hg; obtain ⟨hcz7_0, hcz7_1, hcz7_2, hcz7_3, hcz7_4⟩ := Gv.c5 BK357.out; obtain ⟨hfz7_0, hfz7_1, hfz7_2, hfz7_3, hfz7_4⟩ := Gv.f5 BK357.out) | ((with_reducible refine gate_callee (f := 81) rfl ?_); refine goesL_ (some 5) rfl rfl Try.func81 (by kernel_rfl) rfl #[.agg #[.int .i64 a0_0, .int .i64 a0_1, .int .i64 a0_2, .int .i64 a0_3, .int .i64 a0_4]] rfl Gv.lm ?_; (with_reducible refine (impl_AddrOk.calls a0_0 a0_1 a0_2 a0_3 a0_4 true _ A2.out).mono ?_); rintro e w8 ⟨rfl, hb⟩; refine ⟨_, rfl, ?_⟩; have n0_ := Gv.a0 (Gv.bb BK357.out hb); have n1_ := Gv.a0 (below_step Gv.bw hb); clear BK357; clear HB; have BK357 := n0_; have HB := n1_; clear n0_ n1_; (try clear hb); (try clear hb2); (try clear hk); (try clear hi); obtain ⟨hcz9_0, hcz9_1, hcz9_2, hcz9_3, hcz9_4⟩ := Gv.c5 BK357.out; obtain ⟨hfz9_0, hfz9_1, hfz9_2, hfz9_3, hfz9_4⟩ := Gv.f5 BK357.out) | ((with_reducible refine gate_callee (f := 86) rfl ?_); refine goesL_ (some 13) rfl rfl Try.func86 (by kernel_rfl) rfl #[.int .i64 a0_4] rfl Gv.lm ?_; (with_reducible refine (impl_Put32.calls k a0_4 t359 _ A5.out).mono ?_); rintro e w10 ⟨v360, rfl, ho0, hb⟩; refine ⟨_, rfl, ?_⟩; have n0_ := Gv.a0 (Kd.R_lower ho0 (below_size Gv.bw)); have n1_ := Gv.a0 (Gv.bb BK357.out hb); have n2_ := Gv.a0 (below_step Gv.bw hb); clear BK357; clear HB; have HO361 := n0_; have BK357 := n1_; have HB := n2_; clear n0_ n1_ n2_; (try clear hb); (try clear hb2); (try clear hk); (try clear hi); (try clear ho0)))
   go_ret
   exact ⟨_, by first | rfl | (simp [errW_none, errW_some] <;> rfl) | (simp [*, errW_none, errW_some] <;> rfl), by (with_reducible repeat (first | apply Kd.R_alloc | apply Kd.R_drewN | apply Kd.R_drew)); exact HO361.out, by repeat (first | (with_reducible first | exact HB.out | apply below_alloc | apply pw_below_drewN | apply below_drew1 | refine below_set ?_ GE357.out) | exact HB.out)⟩
  ·rw [if_neg c4] at H
   have c4b0 : (a0_0 == 4) = false := beq_eq_false_iff_ne.mpr c4
   have c4b1 : (a0_0 != 4) = true := bne_iff_ne.mpr c4
   replace H := Option.bind_eq_some_iff.mp H
   obtain ⟨t362, A110, H⟩ := H
   replace H : ((impl_Put32.f k a0_2).bind fun t365 => ((impl_Put32.f k a0_3).bind fun t368 => ((impl_Put32.f k a0_4).bind fun t371 => ((slices_Concat_byte_byte.f k (([t362, t365, t368, t371] : List (List Int)))).bind fun t377 => (some t377))))) = some r := H
   have A11 := Gv.a0 A110
   clear A110
   replace H := Option.bind_eq_some_iff.mp H
   obtain ⟨t365, A120, H⟩ := H
   replace H : ((impl_Put32.f k a0_3).bind fun t368 => ((impl_Put32.f k a0_4).bind fun t371 => ((slices_Concat_byte_byte.f k (([t362, t365, t368, t371] : List (List Int)))).bind fun t377 => (some t377)))) = some r := H
   have A12 := Gv.a0 A120
   clear A120
   replace H := Option.bind_eq_some_iff.mp H
   obtain ⟨t368, A130, H⟩ := H
   replace H : ((impl_Put32.f k a0_4).bind fun t371 => ((slices_Concat_byte_byte.f k (([t362, t365, t368, t371] : List (List Int)))).bind fun t377 => (some t377))) = some r := H
   have A13 := Gv.a0 A130
   clear A130
   replace H := Option.bind_eq_some_iff.mp H
   obtain ⟨t371, A140, H⟩ := H
   replace H : ((slices_Concat_byte_byte.f k (([t362, t365, t368, t371] : List (List Int)))).bind fun t377 => (some t377)) = some r := H
   have A14 := Gv.a0 A140
   clear A140
   obtain ⟨y374, hy374⟩ : ∃ y_ : List (List Int), y_ = (([t362, t365, t368, t371] : List (List Int))) := ⟨_, rfl⟩
   replace H : ((slices_Concat_byte_byte.f k y374).bind fun t377 => (some t377)) = some r := by first | (rw [hy374]; with_reducible exact H) | (have H2_ := (Option.bind_some _ _).symm.trans H; rw [hy374]; with_reducible exact H2_) | (have H2_ := (Option.bind_some _ _).symm.trans H; with_reducible exact H2_) | with_reducible exact H | (rw [hy374]; exact H) | exact H
   have Ny374 := Gv.a0 hy374
   clear hy374
   replace H := Option.bind_eq_some_iff.mp H
   obtain ⟨t377, A150, H⟩ := H
   replace H : (some t377) = some r := H
   have A15 := Gv.a0 A150
   clear A150
   obtain rfl := Option.some.inj H
   go_enter Try.func74, Try.ntmps74
   try go_wp2_with (first | ((with_reducible refine gate_dst (N := 1) rfl ?_); refine box_event ?hg (N := 1) ?hd (cs := #[.int .i64 a0_0, .int .i64 a0_1, .int .i64 a0_2, .int .i64 a0_3, .int .i64 a0_4]) (t := 29) ?hr ?_; (case hd => rfl); (case hg => rfl); (case hr => first | (go_simp; done) | (go_simp; rfl)); intro gb357 hg w16 hbox hb; have n0_ := Gv.a0 (below_step Gv.bw hb); have n1_ := Gv.a0 (hbox); have n2_ := Gv.a0 ((Gv.ble hg Gv.bw : w.heap.size ≤ gb357)); have n3_ := Gv.a0 ((Gv.ble hg Gv.bw : w.heap.size ≤ gb357)); clear HB; have HB := n0_; have BK357 := n1_; have GW357 := n2_; have GE357 := n3_; clear n0_ n1_ n2_ n3_; clear hb hbox hg; obtain ⟨hcz17_0, hcz17_1, hcz17_2, hcz17_3, hcz17_4⟩ := Gv.c5 BK357.out; obtain ⟨hfz17_0, hfz17_1, hfz17_2, hfz17_3, hfz17_4⟩ := Gv.f5 BK357.out) | ((with_reducible refine gate_callee (f := 81) rfl ?_); refine goesL_ (some 5) rfl rfl Try.func81 (by kernel_rfl) rfl #[.agg #[.int .i64 a0_0, .int .i64 a0_1, .int .i64 a0_2, .int .i64 a0_3, .int .i64 a0_4]] rfl Gv.lm ?_; (with_reducible refine (impl_AddrOk.calls a0_0 a0_1 a0_2 a0_3 a0_4 true _ A2.out).mono ?_); rintro e w18 ⟨rfl, hb⟩; refine ⟨_, rfl, ?_⟩; have n0_ := Gv.a0 (Gv.bb BK357.out hb); have n1_ := Gv.a0 (below_step Gv.bw hb); clear BK357; clear HB; have BK357 := n0_; have HB := n1_; clear n0_ n1_; (try clear hb); (try clear hb2); (try clear hk); (try clear hi); obtain ⟨hcz19_0, hcz19_1, hcz19_2, hcz19_3, hcz19_4⟩ := Gv.c5 BK357.out; obtain ⟨hfz19_0, hfz19_1, hfz19_2, hfz19_3, hfz19_4⟩ := Gv.f5 BK357.out))
   have n0_ := Gv.a0 (blk_drew BK357.out)
   have n1_ := Gv.a0 (below_drew1 HB.out)
   clear BK357
   clear HB
   have BK357 := n0_
   have HB := n1_
   clear n0_ n1_
   refine start_ (n := 15) (S := fun w' => w'.cell? ⟨gb357, 0, none⟩ = some (.int .i64 a0_0) ∧ w'.cell? ⟨gb357, 1, none⟩ = some (.int .i64 a0_1) ∧ w'.cell? ⟨gb357, 2, none⟩ = some (.int .i64 a0_2) ∧ w'.cell? ⟨gb357, 3, none⟩ = some (.int .i64 a0_3) ∧ w'.cell? ⟨gb357, 4, none⟩ = some (.int .i64 a0_4)) (ds := []) #[false, false, false, false, false, false, false, false, false, false, false, false, false, false, false] (by kernel_rfl) rfl rfl ⟨(blk_cell BK357.out 0).trans rfl, (blk_cell BK357.out 1).trans rfl, (blk_cell BK357.out 2).trans rfl, (blk_cell BK357.out 3).trans rfl, (blk_cell BK357.out 4).trans rfl⟩ (fun hHeld => ?_); refine with_tabW impl_AddrBytes.tab5 impl_AddrBytes.bits5 (fun HT_ HW_ => ?_)
   generalize w18.drew = w20 at BK357 HB hHeld ⊢
   refine pure_ (i := 0) (N := some 14) (v := ?_) (a' := ?_) #[true, false, false, false, false, false, false, false, false, false, false, false, false, false, false] rfl rfl (any_of HT_.out (by kernel_rfl)) (fun _ _ _ h => h) (Or.inl ⟨by rfl, ?_⟩) ?_ ?_
   rotate_left
   ·intro w'
    go_simp
    with_reducible rfl
   rotate_left
   ·simp only [Act.put, List.setIfInBounds_toArray, List.set_cons_zero, List.set_cons_succ, i64_w, i32_w]
    rfl
   refine pure_ (i := 3) (N := some 17) (v := ?_) (a' := ?_) #[true, false, false, true, false, false, false, false, false, false, false, false, false, false, false] rfl rfl (any_of HT_.out (by kernel_rfl)) (fun _ _ _ h => h) (Or.inl ⟨by rfl, ?_⟩) ?_ ?_
   rotate_left
   ·intro w'
    go_simp
    with_reducible rfl
   rotate_left
   ·simp only [Act.put, List.setIfInBounds_toArray, List.set_cons_zero, List.set_cons_succ, i64_w, i32_w]
    rfl
   refine pure_ (i := 6) (N := some 20) (v := ?_) (a' := ?_) #[true, false, false, true, false, false, true, false, false, false, false, false, false, false, false] rfl rfl (any_of HT_.out (by kernel_rfl)) (fun _ _ _ h => h) (Or.inl ⟨by rfl, ?_⟩) ?_ ?_
   rotate_left
   ·intro w'
    go_simp
    with_reducible rfl
   rotate_left
   ·simp only [Act.put, List.setIfInBounds_toArray, List.set_cons_zero, List.set_cons_succ, i64_w, i32_w]
    rfl
   refine pure_ (i := 9) (N := some 23) (v := ?_) (a' := ?_) #[true, false, false, true, false, false, true, false, false, true, false, false, false, false, false] rfl rfl (any_of HT_.out (by kernel_rfl)) (fun _ _ _ h => h) (Or.inl ⟨by rfl, ?_⟩) ?_ ?_
   rotate_left
   ·intro w'
    go_simp
    with_reducible rfl
   rotate_left
   ·simp only [Act.put, List.setIfInBounds_toArray, List.set_cons_zero, List.set_cons_succ, i64_w, i32_w]
    rfl
   refine take_ (i := 1) (N := some 15) (v := ?_) (a' := ?_) #[true, true, false, true, false, false, true, false, false, true, false, false, false, false, false] rfl rfl (take_ofW HT_.out HW_.out (by kernel_rfl)) (fun _ _ _ h => h) (Or.inl ⟨by rfl, ?_⟩) hHeld ?_ ?_
   rotate_left
   ·rintro w' ⟨s0, s1, s2, s3, s4⟩
    go_simp
    with_reducible rfl
   rotate_left
   ·simp only [Act.put, List.setIfInBounds_toArray, List.set_cons_zero, List.set_cons_succ, i64_w, i32_w]
    rfl
   refine take_ (i := 4) (N := some 18) (v := ?_) (a' := ?_) #[true, true, false, true, true, false, true, false, false, true, false, false, false, false, false] rfl rfl (take_ofW HT_.out HW_.out (by kernel_rfl)) (fun _ _ _ h => h) (Or.inl ⟨by rfl, ?_⟩) hHeld ?_ ?_
   rotate_left
   ·rintro w' ⟨s0, s1, s2, s3, s4⟩
    go_simp
    with_reducible rfl
   rotate_left
   ·simp only [Act.put, List.setIfInBounds_toArray, List.set_cons_zero, List.set_cons_succ, i64_w, i32_w]
    rfl
   refine take_ (i := 7) (N := some 21) (v := ?_) (a' := ?_) #[true, true, false, true, true, false, true, true, false, true, false, false, false, false, false] rfl rfl (take_ofW HT_.out HW_.out (by kernel_rfl)) (fun _ _ _ h => h) (Or.inl ⟨by rfl, ?_⟩) hHeld ?_ ?_
   rotate_left
   ·rintro w' ⟨s0, s1, s2, s3, s4⟩
    go_simp
    with_reducible rfl
   rotate_left
   ·simp only [Act.put, List.setIfInBounds_toArray, List.set_cons_zero, List.set_cons_succ, i64_w, i32_w]
    rfl
   refine take_ (i := 10) (N := some 24) (v := ?_) (a' := ?_) #[true, true, false, true, true, false, true, true, false, true, true, false, false, false, false] rfl rfl (take_ofW HT_.out HW_.out (by kernel_rfl)) (fun _ _ _ h => h) (Or.inl ⟨by rfl, ?_⟩) hHeld ?_ ?_
   rotate_left
   ·rintro w' ⟨s0, s1, s2, s3, s4⟩
    go_simp
    with_reducible rfl
   rotate_left
   ·simp only [Act.put, List.setIfInBounds_toArray, List.set_cons_zero, List.set_cons_succ, i64_w, i32_w]
    rfl
   refine one_ (i := 2) (N := some 16) #[true, true, true, true, true, false, true, true, false, true, true, false, false, false, false] rfl rfl (one_of HT_.out (by kernel_rfl)) (by decide) (fun K hK => ?_)
   refine goes_ Try.func86 (by kernel_rfl) rfl #[.int .i64 a0_1] (by rfl) rfl rfl Gv.lm ?_
   with_reducible refine (impl_Put32.calls k a0_1 t362 _ A11.out).mono ?_
   rintro e w21 ⟨v363, rfl, ho0, hb⟩
   refine ⟨_, rfl, ?_⟩
   have n0_ := Gv.a0 (Kd.R_lower ho0 (below_size Gv.bw))
   have n1_ := Gv.a0 (Gv.bb BK357.out hb)
   have n2_ := Gv.a0 (below_step Gv.bw hb)
   clear BK357
   clear HB
   have HO364 := n0_
   have BK357 := n1_
   have HB := n2_
   clear n0_ n1_ n2_
   (try clear hb)
   (try clear hb2)
   (try clear hk)
   (try clear hi)
   (try clear ho0)
   refine hK.out _ _ ⟨(blk_cell BK357.out 0).trans rfl, (blk_cell BK357.out 1).trans rfl, (blk_cell BK357.out 2).trans rfl, (blk_cell BK357.out 3).trans rfl, (blk_cell BK357.out 4).trans rfl⟩ (fun hHeld => ?_)
   clear hK K
   refine norm_ (a' := ?_) ?_ ?_
   rotate_left
   ·show Act.put _ (some 16) _ = _
    simp only [Act.put, List.setIfInBounds_toArray, List.set_cons_zero, List.set_cons_succ, i64_w, i32_w]
    rfl
   refine one_ (i := 5) (N := some 19) #[true, true, true, true, true, true, true, true, false, true, true, false, false, false, false] rfl rfl (one_of HT_.out (by kernel_rfl)) (by decide) (fun K hK => ?_)
   refine goes_ Try.func86 (by kernel_rfl) rfl #[.int .i64 a0_2] (by rfl) rfl rfl Gv.lm ?_
   with_reducible refine (impl_Put32.calls k a0_2 t365 _ A12.out).mono ?_
   rintro e w22 ⟨v366, rfl, ho0, hb⟩
   refine ⟨_, rfl, ?_⟩
   have n0_ := Gv.a0 (Kd.R_elder' (Gv.kr HO364.out) (Kd.R_base ho0) hb)
   have n1_ := Gv.a0 (Kd.R_lower (Kd.R_new' ho0 (Kd.R_lt (Gv.kr HO364.out))) (below_size Gv.bw))
   have n2_ := Gv.a0 (Gv.bb BK357.out hb)
   have n3_ := Gv.a0 (below_step Gv.bw hb)
   clear HO364
   clear BK357
   clear HB
   have HO364 := n0_
   have HO367 := n1_
   have BK357 := n2_
   have HB := n3_
   clear n0_ n1_ n2_ n3_
   (try clear hb)
   (try clear hb2)
   (try clear hk)
   (try clear hi)
   (try clear ho0)
   refine hK.out _ _ ⟨(blk_cell BK357.out 0).trans rfl, (blk_cell BK357.out 1).trans rfl, (blk_cell BK357.out 2).trans rfl, (blk_cell BK357.out 3).trans rfl, (blk_cell BK357.out 4).trans rfl⟩ (fun hHeld => ?_)
   clear hK K
   refine norm_ (a' := ?_) ?_ ?_
   rotate_left
   ·show Act.put _ (some 19) _ = _
    simp only [Act.put, List.setIfInBounds_toArray, List.set_cons_zero, List.set_cons_succ, i64_w, i32_w]
    rfl
   refine one_ (i := 8) (N := some 22) #[true, true, true, true, true, true, true, true, true, true, true, false, false, false, false] rfl rfl (one_of HT_.out (by kernel_rfl)) (by decide) (fun K hK => ?_)
   refine goes_ Try.func86 (by kernel_rfl) rfl #[.int .i64 a0_3] (by rfl) rfl rfl Gv.lm ?_
   with_reducible refine (impl_Put32.calls k a0_3 t368 _ A13.out).mono ?_
   rintro e w23 ⟨v369, rfl, ho0, hb⟩
   refine ⟨_, rfl, ?_⟩
   have n0_ := Gv.a0 (Kd.R_elder' (Gv.kr HO364.out) (Kd.R_base ho0) hb)
   have n1_ := Gv.a0 (Kd.R_elder' (Gv.kr HO367.out) (Kd.R_base ho0) hb)
   have n2_ := Gv.a0 (Kd.R_lower (Kd.R_new' (Kd.R_new' ho0 (Kd.R_lt (Gv.kr HO364.out))) (Kd.R_lt (Gv.kr HO367.out))) (below_size Gv.bw))
   have n3_ := Gv.a0 (Gv.bb BK357.out hb)
   have n4_ := Gv.a0 (below_step Gv.bw hb)
   clear HO364
   clear HO367
   clear BK357
   clear HB
   have HO364 := n0_
   have HO367 := n1_
   have HO370 := n2_
   have BK357 := n3_
   have HB := n4_
   clear n0_ n1_ n2_ n3_ n4_
   (try clear hb)
   (try clear hb2)
   (try clear hk)
   (try clear hi)
   (try clear ho0)
   refine hK.out _ _ ⟨(blk_cell BK357.out 0).trans rfl, (blk_cell BK357.out 1).trans rfl, (blk_cell BK357.out 2).trans rfl, (blk_cell BK357.out 3).trans rfl, (blk_cell BK357.out 4).trans rfl⟩ (fun hHeld => ?_)
   clear hK K
   refine norm_ (a' := ?_) ?_ ?_
   rotate_left
   ·show Act.put _ (some 22) _ = _
    simp only [Act.put, List.setIfInBounds_toArray, List.set_cons_zero, List.set_cons_succ, i64_w, i32_w]
    rfl
   refine one_ (i := 11) (N := some 25) #[true, true, true, true, true, true, true, true, true, true, true, true, false, false, false] rfl rfl (one_of HT_.out (by kernel_rfl)) (by decide) (fun K hK => ?_)
   refine goes_ Try.func86 (by kernel_rfl) rfl #[.int .i64 a0_4] (by rfl) rfl rfl Gv.lm ?_
   with_reducible refine (impl_Put32.calls k a0_4 t371 _ A14.out).mono ?_
   rintro e w24 ⟨v372, rfl, ho0, hb⟩
   refine ⟨_, rfl, ?_⟩
   have n0_ := Gv.a0 (Kd.R_elder' (Gv.kr HO364.out) (Kd.R_base ho0) hb)
   have n1_ := Gv.a0 (Kd.R_elder' (Gv.kr HO367.out) (Kd.R_base ho0) hb)
   have n2_ := Gv.a0 (Kd.R_elder' (Gv.kr HO370.out) (Kd.R_base ho0) hb)
   have n3_ := Gv.a0 (Kd.R_lower (Kd.R_new' (Kd.R_new' (Kd.R_new' ho0 (Kd.R_lt (Gv.kr HO364.out))) (Kd.R_lt (Gv.kr HO367.out))) (Kd.R_lt (Gv.kr HO370.out))) (below_size Gv.bw))
   have n4_ := Gv.a0 (Gv.bb BK357.out hb)
   have n5_ := Gv.a0 (below_step Gv.bw hb)
   clear HO364
   clear HO367
   clear HO370
   clear BK357
   clear HB
   have HO364 := n0_
   have HO367 := n1_
   have HO370 := n2_
   have HO373 := n3_
   have BK357 := n4_
   have HB := n5_
   clear n0_ n1_ n2_ n3_ n4_ n5_
   (try clear hb)
   (try clear hb2)
   (try clear hk)
   (try clear hi)
   (try clear ho0)
   obtain ⟨Ao25, co25, eo25⟩ := Kd.R_slice HO364.out
   (first | subst eo25 | (injection eo25 with f1_ f2_ f3_; have f4_ := f1_.symm; have f5_ := f3_.symm; clear f1_ f2_ f3_; subst f4_; subst f5_))
   obtain ⟨Ao26, co26, eo26⟩ := Kd.R_slice HO367.out
   (first | subst eo26 | (injection eo26 with f1_ f2_ f3_; have f4_ := f1_.symm; have f5_ := f3_.symm; clear f1_ f2_ f3_; subst f4_; subst f5_))
   obtain ⟨Ao27, co27, eo27⟩ := Kd.R_slice HO370.out
   (first | subst eo27 | (injection eo27 with f1_ f2_ f3_; have f4_ := f1_.symm; have f5_ := f3_.symm; clear f1_ f2_ f3_; subst f4_; subst f5_))
   obtain ⟨Ao28, co28, eo28⟩ := Kd.R_slice HO373.out
   (first | subst eo28 | (injection eo28 with f1_ f2_ f3_; have f4_ := f1_.symm; have f5_ := f3_.symm; clear f1_ f2_ f3_; subst f4_; subst f5_))
   refine hK.out _ _ ⟨(blk_cell BK357.out 0).trans rfl, (blk_cell BK357.out 1).trans rfl, (blk_cell BK357.out 2).trans rfl, (blk_cell BK357.out 3).trans rfl, (blk_cell BK357.out 4).trans rfl⟩ (fun hHeld => ?_)
   clear hK K
   refine norm_ (a' := ?_) ?_ ?_
   rotate_left
   ·show Act.put _ (some 25) _ = _
    simp only [Act.put, List.setIfInBounds_toArray, List.set_cons_zero, List.set_cons_succ, i64_w, i32_w]
    rfl
   refine one_ (i := 12) (N := some 26) #[true, true, true, true, true, true, true, true, true, true, true, true, true, false, false] rfl rfl (one_of HT_.out (by kernel_rfl)) (by decide) (fun K hK => ?_)
   refine Kd.N_lit_step (Kd.slice 5 (Kd.int .u8)) _ 68 ?hg (N' := 26) ?hd (xs := ([t362, t365, t368, t371] : List (List Int))) (inner := [.slice Ao25 t362.length co25, .slice Ao26 t365.length co26, .slice Ao27 t368.length co27, .slice Ao28 t371.length co28]) (ok := (fun k_ => k_ ≠ gb357)) (okp := (fun k_ => k_ ≠ gb357)) ?hr ?hp (fun _ hk => hk) ((show ∀ k_, w24.heap.size ≤ k_ → (fun k_ => k_ ≠ gb357) k_ from fun k_ hk => Kd.freshB (g := gb357) (o := .cells #[.int .i64 a0_0, .int .i64 a0_1, .int .i64 a0_2, .int .i64 a0_3, .int .i64 a0_4] 29 (0, 0)) Gv.bk k_ hk) _ (Nat.le_refl _)) (Below.refl _ _) (Nat.le_refl _) (by simp) ?_; (case hd => rfl); (case hg => rfl); (case hr => first | (go_simp; done) | (go_simp; rfl)); (case hp => exact (Reps.one (show Kd.FK (Kd.slice 5 (Kd.int .u8)) _ _ t362 [.slice Ao25 t362.length co25] from (Kd.FK_slice_mk (Kd.R_reads' (Kd.R_mono (ok' := (fun k_ => k_ ≠ gb357)) (Kd.R_types (HO364.out) BK357.out (by decide)) (fun k_ hk => hk.2))).2.1 (Kd.R_F (Kd.R_mono (ok' := (fun k_ => k_ ≠ gb357)) (Kd.R_types (HO364.out) BK357.out (by decide)) (fun k_ hk => hk.2))))) (Reps.one (show Kd.FK (Kd.slice 5 (Kd.int .u8)) _ _ t365 [.slice Ao26 t365.length co26] from (Kd.FK_slice_mk (Kd.R_reads' (Kd.R_mono (ok' := (fun k_ => k_ ≠ gb357)) (Kd.R_types (HO367.out) BK357.out (by decide)) (fun k_ hk => hk.2))).2.1 (Kd.R_F (Kd.R_mono (ok' := (fun k_ => k_ ≠ gb357)) (Kd.R_types (HO367.out) BK357.out (by decide)) (fun k_ hk => hk.2))))) (Reps.one (show Kd.FK (Kd.slice 5 (Kd.int .u8)) _ _ t368 [.slice Ao27 t368.length co27] from (Kd.FK_slice_mk (Kd.R_reads' (Kd.R_mono (ok' := (fun k_ => k_ ≠ gb357)) (Kd.R_types (HO370.out) BK357.out (by decide)) (fun k_ hk => hk.2))).2.1 (Kd.R_F (Kd.R_mono (ok' := (fun k_ => k_ ≠ gb357)) (Kd.R_types (HO370.out) BK357.out (by decide)) (fun k_ hk => hk.2))))) (Reps.one (show Kd.FK (Kd.slice 5 (Kd.int .u8)) _ _ t371 [.slice Ao28 t371.length co28] from (Kd.FK_slice_mk (Kd.R_reads' (Kd.R_mono (ok' := (fun k_ => k_ ≠ gb357)) (Kd.R_types (HO373.out) BK357.out (by decide)) (fun k_ hk => hk.2))).2.1 (Kd.R_F (Kd.R_mono (ok' := (fun k_ => k_ ≠ gb357)) (Kd.R_types (HO373.out) BK357.out (by decide)) (fun k_ hk => hk.2))))) (Reps.none _ _))))))
   intro v375 w29 ho30 hb hg_ hnew_
   clear hg_ hnew_
   (first | rw [← Ny374.out] at ho30 | (simp only [Int.reduceToNat] at ho30; rw [← Ny374.out] at ho30))
   have n0_ := Gv.a0 (Kd.N_lower ho30 (below_size Gv.bw))
   have n1_ := Gv.a0 (Gv.bb BK357.out hb)
   have n2_ := Gv.a0 (below_step Gv.bw hb)
   clear BK357
   clear HB
   clear HO364
   clear HO367
   clear HO370
   clear HO373
   have HO376 := n0_
   have BK357 := n1_
   have HB := n2_
   clear n0_ n1_ n2_
   clear hb ho30
   obtain ⟨Ao31, co31, eo31⟩ := Kd.N_slice HO376.out
   (first | subst eo31 | (injection eo31 with f1_ f2_ f3_; have f4_ := f1_.symm; have f5_ := f3_.symm; clear f1_ f2_ f3_; subst f4_; subst f5_))
   refine hK.out _ _ ⟨(blk_cell BK357.out 0).trans rfl, (blk_cell BK357.out 1).trans rfl, (blk_cell BK357.out 2).trans rfl, (blk_cell BK357.out 3).trans rfl, (blk_cell BK357.out 4).trans rfl⟩ (fun hHeld => ?_)
   clear hK K
   refine norm_ (a' := ?_) ?_ ?_
   rotate_left
   ·show Act.put _ (some 26) _ = _
    simp only [Act.put, List.setIfInBounds_toArray, List.set_cons_zero, List.set_cons_succ, i64_w, i32_w]
    rfl
   refine one_ (i := 13) (N := some 27) #[true, true, true, true, true, true, true, true, true, true, true, true, true, true, false] rfl rfl (one_of HT_.out (by kernel_rfl)) (by decide) (fun K hK => ?_)
   refine goes_ Try.func73 (by kernel_rfl) rfl #[.slice Ao31 y374.length co31] (by rfl) rfl rfl Gv.lm ?_
   with_reducible refine (slices_Concat_byte_byte.calls k _ _ y374 t377 _ ?side1 ?side2 A15.out).mono ?_
   (case side1 => repeat (first | exact (Kd.N_reads' HO376.out).2.2 | (with_reducible refine Kd.C_alloc ?_ _) | (with_reducible refine Kd.C_drewN ?_ _) | (with_reducible refine Kd.C_drew ?_)))
   (case side2 => exact (Kd.N_reads' HO376.out).2.1)
   rintro e w32 ⟨v378, rfl, ho0, hb⟩
   refine ⟨_, rfl, ?_⟩
   have n0_ := Gv.a0 (Kd.N_elder' (by (with_reducible repeat (first | apply Kd.N_alloc | apply Kd.N_drewN | apply Kd.N_drew)); exact HO376.out) (Kd.R_base ho0) hb)
   have n1_ := Gv.a0 (Kd.R_lower ho0 (below_size Gv.bw))
   have n2_ := Gv.a0 (Gv.bb BK357.out hb)
   have n3_ := Gv.a0 (below_step Gv.bw hb)
   clear HO376
   clear BK357
   clear HB
   have HO376 := n0_
   have HO379 := n1_
   have BK357 := n2_
   have HB := n3_
   clear n0_ n1_ n2_ n3_
   (try clear hb)
   (try clear hb2)
   (try clear hk)
   (try clear hi)
   (try clear ho0)
   refine hK.out _ _ ⟨(blk_cell BK357.out 0).trans rfl, (blk_cell BK357.out 1).trans rfl, (blk_cell BK357.out 2).trans rfl, (blk_cell BK357.out 3).trans rfl, (blk_cell BK357.out 4).trans rfl⟩ (fun hHeld => ?_)
   clear hK K
   refine norm_ (a' := ?_) ?_ ?_
   rotate_left
   ·show Act.put _ (some 27) _ = _
    simp only [Act.put, List.setIfInBounds_toArray, List.set_cons_zero, List.set_cons_succ, i64_w, i32_w]
    rfl
   refine pure_ (i := 14) (N := some 2) (v := ?_) (a' := ?_) #[true, true, true, true, true, true, true, true, true, true, true, true, true, true, true] rfl rfl (any_of HT_.out (by kernel_rfl)) (fun _ _ _ h => h) (Or.inl ⟨by rfl, ?_⟩) ?_ ?_
   rotate_left
   ·intro w'
    go_simp
    with_reducible rfl
   rotate_left
   ·simp only [Act.put, List.setIfInBounds_toArray, List.set_cons_zero, List.set_cons_succ, i64_w, i32_w]
    rfl
   refine done_ (done_of HT_.out (by kernel_rfl)) ?_
   try go_wp2
   go_ret
   exact ⟨_, by first | rfl | (simp [errW_none, errW_some] <;> rfl) | (simp [*, errW_none, errW_some] <;> rfl), by (with_reducible repeat (first | apply Kd.R_alloc | apply Kd.R_drewN | apply Kd.R_drew)); exact HO379.out, by repeat (first | (with_reducible first | exact HB.out | apply below_alloc | apply pw_below_drewN | apply below_drew1 | refine below_set ?_ GE357.out) | exact HB.out)⟩
 ·replace c3 := Bool.eq_false_iff.mpr c3
  subst c3
  have H1 : (some ([] : List Int)) = some r := by rw [if_neg (show ¬ (false = true) by decide)] at H; exact H
  clear H
  have H := H1
  clear H1
  obtain rfl := Option.some.inj H
  go_enter Try.func74, Try.ntmps74
  go_wp2_with (first | ((with_reducible refine gate_dst (N := 1) rfl ?_); refine box_event ?hg (N := 1) ?hd (cs := #[.int .i64 a0_0, .int .i64 a0_1, .int .i64 a0_2, .int .i64 a0_3, .int .i64 a0_4]) (t := 29) ?hr ?_; (case hd => rfl); (case hg => rfl); (case hr => first | (go_simp; done) | (go_simp; rfl)); intro gb357 hg w33 hbox hb; have n0_ := Gv.a0 (below_step Gv.bw hb); have n1_ := Gv.a0 (hbox); have n2_ := Gv.a0 ((Gv.ble hg Gv.bw : w.heap.size ≤ gb357)); have n3_ := Gv.a0 ((Gv.ble hg Gv.bw : w.heap.size ≤ gb357)); clear HB; have HB := n0_; have BK357 := n1_; have GW357 := n2_; have GE357 := n3_; clear n0_ n1_ n2_ n3_; clear hb hbox hg; obtain ⟨hcz34_0, hcz34_1, hcz34_2, hcz34_3, hcz34_4⟩ := Gv.c5 BK357.out; obtain ⟨hfz34_0, hfz34_1, hfz34_2, hfz34_3, hfz34_4⟩ := Gv.f5 BK357.out) | ((with_reducible refine gate_callee (f := 81) rfl ?_); refine goesL_ (some 5) rfl rfl Try.func81 (by kernel_rfl) rfl #[.agg #[.int .i64 a0_0, .int .i64 a0_1, .int .i64 a0_2, .int .i64 a0_3, .int .i64 a0_4]] rfl Gv.lm ?_; (with_reducible refine (impl_AddrOk.calls a0_0 a0_1 a0_2 a0_3 a0_4 false _ A2.out).mono ?_); rintro e w35 ⟨rfl, hb⟩; refine ⟨_, rfl, ?_⟩; have n0_ := Gv.a0 (Gv.bb BK357.out hb); have n1_ := Gv.a0 (below_step Gv.bw hb); clear BK357; clear HB; have BK357 := n0_; have HB := n1_; clear n0_ n1_; (try clear hb); (try clear hb2); (try clear hk); (try clear hi)))
  go_ret
  exact ⟨_, by first | rfl | (simp [errW_none, errW_some] <;> rfl) | (simp [*, errW_none, errW_some] <;> rfl), by first | exact Kd.R_nil _ _ _ _ _ | exact Kd.N_nil _ _ _ _ _ | exact Kd.V_nil _ _ _ _ _ | exact Kd.Q_nil _ _ _ _ _ | exact Kd.S_nil _ _ _ _ _, by repeat (first | (with_reducible first | exact HB.out | apply below_alloc | apply pw_below_drewN | apply below_drew1 | refine below_set ?_ GE357.out) | exact HB.out)⟩

/-! ### impl_Put16: function 75 -/
def impl_Put16.f (k : Nat) (a0 : Int) : Option (List Int) := (impl_put.f k a0 2).bind fun t380 => (some t380)
theorem impl_Put16.mono : ∀ a0 k, LeO (impl_Put16.f k a0) (impl_Put16.f (k + 1) a0) := by
 intro a0 k
 unfold impl_Put16.f
 repeat' first
   | (with_reducible exact impl_put.mono _ _ _)
   | (with_reducible exact LeO.refl _)
   | (with_reducible exact LeO.none _)
   | (with_reducible refine LeO.ite ?_ ?_)
   | (with_reducible refine LeO.bind ?_ (fun _ => ?_))
   | exact impl_put.mono _ _ _
   | exact LeO.none _
   | refine LeO.ite ?_ ?_
   | refine LeO.bind ?_ (fun _ => ?_)
set_option maxHeartbeats 8000000 in
set_option maxRecDepth 100000 in
theorem impl_Put16.calls (k : Nat) (a0 : Int) (r : List Int) (w : World) (h : impl_Put16.f k a0 = some r) :
  Calls Try.prog 75 #[.int .i64 a0] w fun e w' => ∃ v0_ : Value, e = .returned (v0_) ∧ Kd.R (Kd.int .u8) 5 w' w.heap.size (fun _ => True) v0_ r ∧ Below w.heap.size w w' := by
 have HB := Gv.a0 (Below.refl w.heap.size w)
 have H : ((impl_put.f k a0 2).bind fun t380 => (some t380)) = some r := h
 clear h
 replace H := Option.bind_eq_some_iff.mp H
 obtain ⟨t380, A20, H⟩ := H
 replace H : (some t380) = some r := H
 have A2 := Gv.a0 A20
 clear A20
 obtain rfl := Option.some.inj H
 go_enter Try.func75, Try.ntmps75
 go_wp2_with (first | ((with_reducible refine gate_callee (f := 87) rfl ?_); refine goesL_ (some 4) rfl rfl Try.func87 (by kernel_rfl) rfl #[.int .i64 a0, .int .i64 2] rfl Gv.lm ?_; (with_reducible refine (impl_put.calls k a0 2 t380 _ A2.out).mono ?_); rintro e w3 ⟨v381, rfl, ho0, hb⟩; refine ⟨_, rfl, ?_⟩; have n0_ := Gv.a0 (Kd.R_lower ho0 (below_size Gv.bw)); have n1_ := Gv.a0 (below_step Gv.bw hb); clear HB; have HO382 := n0_; have HB := n1_; clear n0_ n1_; (try clear hb); (try clear hb2); (try clear hk); (try clear hi); (try clear ho0)))
 go_ret
 exact ⟨_, by first | rfl | (simp [errW_none, errW_some] <;> rfl) | (simp [*, errW_none, errW_some] <;> rfl), by (with_reducible repeat (first | apply Kd.R_alloc | apply Kd.R_drewN | apply Kd.R_drew)); exact HO382.out, by repeat (first | (with_reducible first | exact HB.out | apply below_alloc | apply pw_below_drewN | apply below_drew1) | exact HB.out)⟩

/-! ### impl_hashOf: function 47 -/
def impl_hashOf.l0 : Nat → Int → List Int → Int → Int → Option (Int)
 | 0, _, _, _, _ => none
 | k + 1, x6, x42, x43, x44 => if x44 < x43 then (if 0 ≤ x44 then (if x44 < (x42.length : Int) then (impl_hashOf.l0 k (Int.tmod (wrap64 ((Go.bits .xor .i64 x6 (wrap64 (rd x42 x44))) * 16777619)) 4294967296) x42 x43 (wrap64 (x44 + 1))) else (none)) else (none)) else (some (Go.bits .xor .i64 x6 (wrap64 (Int.tdiv x6 65536))))
def impl_hashOf.f (k : Nat) (a0 : Int) (a1_0 : Int) (a1_1 : Int) (a1_2 : Int) (a1_3 : Int) (a1_4 : Int) (a1_5 : Int) (a1_6 : Int) (a1_7 : Int) (a1_8 : Int) (a1_9 : Int) (a1_10 : Int) (a1_11 : Int) (a1_12 : Int) (a1_13 : Int) : Option (Int) := (impl_AddrBytes.f k a1_1 a1_2 a1_3 a1_4 a1_5).bind fun t387 => ((impl_AddrBytes.f k a1_6 a1_7 a1_8 a1_9 a1_10).bind fun t390 => ((impl_Put16.f k a1_12).bind fun t396 => ((impl_Put16.f k a1_13).bind fun t399 => ((slices_Concat_byte_byte.f k (([(([(a1_0) % 256, (a1_1) % 256] : List Int)), t387, t390, (([(a1_11) % 256] : List Int)), t396, t399] : List (List Int)))).bind fun t405 => (impl_hashOf.l0 k a0 t405 (t405.length : Int) 0)))))
theorem impl_hashOf.mono_l : ∀ k, (∀ y0 y1 y2 y3, LeO (impl_hashOf.l0 k y0 y1 y2 y3) (impl_hashOf.l0 (k + 1) y0 y1 y2 y3))
 | 0 => fun _ _ _ _ r h => by simp [impl_hashOf.l0] at h
 | k + 1 => by
  have ih0 := impl_hashOf.mono_l k
  ·intro y0 y1 y2 y3
   unfold impl_hashOf.l0
   repeat' first
   | (with_reducible exact ih0 _ _ _ _)
   | (with_reducible exact impl_AddrBytes.mono _ _ _ _ _ _)
   | (with_reducible exact impl_Put16.mono _ _)
   | (with_reducible exact slices_Concat_byte_byte.mono _ _)
   | (with_reducible exact LeO.refl _)
   | (with_reducible exact LeO.none _)
   | (with_reducible refine LeO.ite ?_ ?_)
   | (with_reducible refine LeO.bind ?_ (fun _ => ?_))
   | exact ih0 _ _ _ _
   | exact impl_AddrBytes.mono _ _ _ _ _ _
   | exact impl_Put16.mono _ _
   | exact slices_Concat_byte_byte.mono _ _
   | exact LeO.none _
   | refine LeO.ite ?_ ?_
   | refine LeO.bind ?_ (fun _ => ?_)
theorem impl_hashOf.mono : ∀ a0 a1 a2 a3 a4 a5 a6 a7 a8 a9 a10 a11 a12 a13 a14 k, LeO (impl_hashOf.f k a0 a1 a2 a3 a4 a5 a6 a7 a8 a9 a10 a11 a12 a13 a14) (impl_hashOf.f (k + 1) a0 a1 a2 a3 a4 a5 a6 a7 a8 a9 a10 a11 a12 a13 a14) := by
 intro a0 a1 a2 a3 a4 a5 a6 a7 a8 a9 a10 a11 a12 a13 a14 k
 have ih0 := impl_hashOf.mono_l k
 unfold impl_hashOf.f
 repeat' first
   | (with_reducible exact ih0 _ _ _ _)
   | (with_reducible exact impl_AddrBytes.mono _ _ _ _ _ _)
   | (with_reducible exact impl_Put16.mono _ _)
   | (with_reducible exact slices_Concat_byte_byte.mono _ _)
   | (with_reducible exact LeO.refl _)
   | (with_reducible exact LeO.none _)
   | (with_reducible refine LeO.ite ?_ ?_)
   | (with_reducible refine LeO.bind ?_ (fun _ => ?_))
   | exact ih0 _ _ _ _
   | exact impl_AddrBytes.mono _ _ _ _ _ _
   | exact impl_Put16.mono _ _
   | exact slices_Concat_byte_byte.mono _ _
   | exact LeO.none _
   | refine LeO.ite ?_ ?_
   | refine LeO.bind ?_ (fun _ => ?_)
def impl_hashOf.T1 : Bool × List (List Nat × List Nat) := (true, [([], []), ([0], [0]), ([1], [1]), ([], []), ([3], [3]), ([4], [4]), ([5], [5]), ([6], [6]), ([2, 7], [2, 7]), ([], []), ([9], [9]), ([10], [10]), ([11], [11]), ([], []), ([13], [13]), ([14], [14]), ([15, 12], [15]), ([], []), ([17], [17]), ([18], [18]), ([19], [19]), ([20], [20]), ([], []), ([22], [22]), ([23], [23]), ([24, 16], [24]), ([], []), ([26], [26]), ([27], [27]), ([28, 25], [28]), ([8, 12, 16, 21, 25, 29], [8, 12, 16, 21, 25, 29]), ([30, 29], [30]), ([31, 31, 0, 1, 2, 3, 4, 5, 6, 7, 8, 9, 10, 11, 12, 13, 14, 15, 16, 17, 18, 19, 20, 21, 22, 23, 24, 25, 26, 27, 28, 29, 30, 31], [31])])
def impl_hashOf.B1 : List Nat := [0, 1, 3, 0, 8, 24, 56, 120, 255, 0, 512, 1536, 3584, 0, 8192, 24576, 65024, 0, 131072, 393216, 917504, 1966080, 0, 4194304, 12582912, 29490688, 0, 67108864, 201326592, 532807168, 1073741823, 2147483647, 4294967295]
theorem impl_hashOf.tab1 : rtab .any (opsOf Try.f47 1) = impl_hashOf.T1 := by kernel_rfl
theorem impl_hashOf.bits1 : waitsOk impl_hashOf.T1.2 impl_hashOf.B1 = true := by kernel_rfl
set_option maxHeartbeats 8000000 in
set_option maxRecDepth 100000 in
theorem impl_hashOf.calls (k : Nat) (a0 : Int) (a1_0 : Int) (a1_1 : Int) (a1_2 : Int) (a1_3 : Int) (a1_4 : Int) (a1_5 : Int) (a1_6 : Int) (a1_7 : Int) (a1_8 : Int) (a1_9 : Int) (a1_10 : Int) (a1_11 : Int) (a1_12 : Int) (a1_13 : Int) (r : Int) (w : World) (h : impl_hashOf.f k a0 a1_0 a1_1 a1_2 a1_3 a1_4 a1_5 a1_6 a1_7 a1_8 a1_9 a1_10 a1_11 a1_12 a1_13 = some r) :
  Calls Try.prog 47 #[.int .i64 a0, .agg #[.int .i64 a1_0, .int .i64 a1_1, .int .i64 a1_2, .int .i64 a1_3, .int .i64 a1_4, .int .i64 a1_5, .int .i64 a1_6, .int .i64 a1_7, .int .i64 a1_8, .int .i64 a1_9, .int .i64 a1_10, .int .i64 a1_11, .int .i64 a1_12, .int .i64 a1_13]] w fun e w' => e = .returned (.int .i64 r) ∧ Below w.heap.size w w' := by
 have hu33 := Try.underlying33
 have hu29 := Try.underlying29
 have HB := Gv.a0 (Below.refl w.heap.size w)
 have H : ((impl_AddrBytes.f k a1_1 a1_2 a1_3 a1_4 a1_5).bind fun t387 => ((impl_AddrBytes.f k a1_6 a1_7 a1_8 a1_9 a1_10).bind fun t390 => ((impl_Put16.f k a1_12).bind fun t396 => ((impl_Put16.f k a1_13).bind fun t399 => ((slices_Concat_byte_byte.f k (([(([(a1_0) % 256, (a1_1) % 256] : List Int)), t387, t390, (([(a1_11) % 256] : List Int)), t396, t399] : List (List Int)))).bind fun t405 => (impl_hashOf.l0 k a0 t405 (t405.length : Int) 0)))))) = some r := h
 clear h
 obtain ⟨y384, hy384⟩ : ∃ y_ : List Int, y_ = (([(a1_0) % 256, (a1_1) % 256] : List Int)) := ⟨_, rfl⟩
 replace H : ((impl_AddrBytes.f k a1_1 a1_2 a1_3 a1_4 a1_5).bind fun t387 => ((impl_AddrBytes.f k a1_6 a1_7 a1_8 a1_9 a1_10).bind fun t390 => ((impl_Put16.f k a1_12).bind fun t396 => ((impl_Put16.f k a1_13).bind fun t399 => ((slices_Concat_byte_byte.f k (([y384, t387, t390, (([(a1_11) % 256] : List Int)), t396, t399] : List (List Int)))).bind fun t405 => (impl_hashOf.l0 k a0 t405 (t405.length : Int) 0)))))) = some r := by first | (rw [hy384]; with_reducible exact H) | (have H2_ := (Option.bind_some _ _).symm.trans H; rw [hy384]; with_reducible exact H2_) | (have H2_ := (Option.bind_some _ _).symm.trans H; with_reducible exact H2_) | with_reducible exact H | (rw [hy384]; exact H) | exact H
 have Ny384 := Gv.a0 hy384
 clear hy384
 replace H := Option.bind_eq_some_iff.mp H
 obtain ⟨t387, A30, H⟩ := H
 replace H : ((impl_AddrBytes.f k a1_6 a1_7 a1_8 a1_9 a1_10).bind fun t390 => ((impl_Put16.f k a1_12).bind fun t396 => ((impl_Put16.f k a1_13).bind fun t399 => ((slices_Concat_byte_byte.f k (([y384, t387, t390, (([(a1_11) % 256] : List Int)), t396, t399] : List (List Int)))).bind fun t405 => (impl_hashOf.l0 k a0 t405 (t405.length : Int) 0))))) = some r := H
 have A3 := Gv.a0 A30
 clear A30
 replace H := Option.bind_eq_some_iff.mp H
 obtain ⟨t390, A40, H⟩ := H
 replace H : ((impl_Put16.f k a1_12).bind fun t396 => ((impl_Put16.f k a1_13).bind fun t399 => ((slices_Concat_byte_byte.f k (([y384, t387, t390, (([(a1_11) % 256] : List Int)), t396, t399] : List (List Int)))).bind fun t405 => (impl_hashOf.l0 k a0 t405 (t405.length : Int) 0)))) = some r := H
 have A4 := Gv.a0 A40
 clear A40
 obtain ⟨y393, hy393⟩ : ∃ y_ : List Int, y_ = (([(a1_11) % 256] : List Int)) := ⟨_, rfl⟩
 replace H : ((impl_Put16.f k a1_12).bind fun t396 => ((impl_Put16.f k a1_13).bind fun t399 => ((slices_Concat_byte_byte.f k (([y384, t387, t390, y393, t396, t399] : List (List Int)))).bind fun t405 => (impl_hashOf.l0 k a0 t405 (t405.length : Int) 0)))) = some r := by first | (rw [hy393]; with_reducible exact H) | (have H2_ := (Option.bind_some _ _).symm.trans H; rw [hy393]; with_reducible exact H2_) | (have H2_ := (Option.bind_some _ _).symm.trans H; with_reducible exact H2_) | with_reducible exact H | (rw [hy393]; exact H) | exact H
 have Ny393 := Gv.a0 hy393
 clear hy393
 replace H := Option.bind_eq_some_iff.mp H
 obtain ⟨t396, A50, H⟩ := H
 replace H : ((impl_Put16.f k a1_13).bind fun t399 => ((slices_Concat_byte_byte.f k (([y384, t387, t390, y393, t396, t399] : List (List Int)))).bind fun t405 => (impl_hashOf.l0 k a0 t405 (t405.length : Int) 0))) = some r := H
 have A5 := Gv.a0 A50
 clear A50
 replace H := Option.bind_eq_some_iff.mp H
 obtain ⟨t399, A60, H⟩ := H
 replace H : ((slices_Concat_byte_byte.f k (([y384, t387, t390, y393, t396, t399] : List (List Int)))).bind fun t405 => (impl_hashOf.l0 k a0 t405 (t405.length : Int) 0)) = some r := H
 have A6 := Gv.a0 A60
 clear A60
 obtain ⟨y402, hy402⟩ : ∃ y_ : List (List Int), y_ = (([y384, t387, t390, y393, t396, t399] : List (List Int))) := ⟨_, rfl⟩
 replace H : ((slices_Concat_byte_byte.f k y402).bind fun t405 => (impl_hashOf.l0 k a0 t405 (t405.length : Int) 0)) = some r := by first | (rw [hy402]; with_reducible exact H) | (have H2_ := (Option.bind_some _ _).symm.trans H; rw [hy402]; with_reducible exact H2_) | (have H2_ := (Option.bind_some _ _).symm.trans H; with_reducible exact H2_) | with_reducible exact H | (rw [hy402]; exact H) | exact H
 have Ny402 := Gv.a0 hy402
 clear hy402
 replace H := Option.bind_eq_some_iff.mp H
 obtain ⟨t405, A70, H⟩ := H
 replace H : (impl_hashOf.l0 k a0 t405 (t405.length : Int) 0) = some r := H
 have A7 := Gv.a0 A70
 clear A70
 have H' := Gv.a0 H
 clear H
 go_enter Try.func47, Try.ntmps47
 try go_wp2_with (first | ((with_reducible refine gate_dst (N := 3) rfl ?_); refine box_event ?hg (N := 3) ?hd (cs := #[.int .i64 a1_0, .int .i64 a1_1, .int .i64 a1_2, .int .i64 a1_3, .int .i64 a1_4, .int .i64 a1_5, .int .i64 a1_6, .int .i64 a1_7, .int .i64 a1_8, .int .i64 a1_9, .int .i64 a1_10, .int .i64 a1_11, .int .i64 a1_12, .int .i64 a1_13]) (t := 33) ?hr ?_; (case hd => rfl); (case hg => rfl); (case hr => first | (go_simp; done) | (go_simp; rfl)); intro gb383 hg w8 hbox hb; have n0_ := Gv.a0 (below_step Gv.bw hb); have n1_ := Gv.a0 (hbox); have n2_ := Gv.a0 ((Gv.ble hg Gv.bw : w.heap.size ≤ gb383)); have n3_ := Gv.a0 ((Gv.ble hg Gv.bw : w.heap.size ≤ gb383)); clear HB; have HB := n0_; have BK383 := n1_; have GW383 := n2_; have GE383 := n3_; clear n0_ n1_ n2_ n3_; clear hb hbox hg))
 have n0_ := Gv.a0 (blk_drew BK383.out)
 have n1_ := Gv.a0 (below_drew1 HB.out)
 clear BK383
 clear HB
 have BK383 := n0_
 have HB := n1_
 clear n0_ n1_
 refine start_ (n := 33) (S := fun w' => True) (ds := []) #[false, false, false, false, false, false, false, false, false, false, false, false, false, false, false, false, false, false, false, false, false, false, false, false, false, false, false, false, false, false, false, false, false] (by kernel_rfl) rfl rfl trivial (fun hHeld => ?_); refine with_tabW impl_hashOf.tab1 impl_hashOf.bits1 (fun HT_ HW_ => ?_)
 generalize w8.drew = w9 at BK383 HB hHeld ⊢
 refine pure_ (i := 0) (N := some 9) (v := ?_) (a' := ?_) #[true, false, false, false, false, false, false, false, false, false, false, false, false, false, false, false, false, false, false, false, false, false, false, false, false, false, false, false, false, false, false, false, false] rfl rfl (any_of HT_.out (by kernel_rfl)) (fun _ _ _ h => h) (Or.inl ⟨by rfl, ?_⟩) ?_ ?_
 rotate_left
 ·intro w'
  go_simp
  with_reducible rfl
 rotate_left
 ·simp only [Act.put, List.setIfInBounds_toArray, List.set_cons_zero, List.set_cons_succ, i64_w, i32_w]
  rfl
 refine pure_ (i := 3) (N := some 12) (v := ?_) (a' := ?_) #[true, false, false, true, false, false, false, false, false, false, false, false, false, false, false, false, false, false, false, false, false, false, false, false, false, false, false, false, false, false, false, false, false] rfl rfl (any_of HT_.out (by kernel_rfl)) (fun _ _ _ h => h) (Or.inl ⟨by rfl, ?_⟩) ?_ ?_
 rotate_left
 ·intro w'
  go_simp
  with_reducible rfl
 rotate_left
 ·simp only [Act.put, List.setIfInBounds_toArray, List.set_cons_zero, List.set_cons_succ, i64_w, i32_w]
  rfl
 refine pure_ (i := 4) (N := some 13) (v := ?_) (a' := ?_) #[true, false, false, true, true, false, false, false, false, false, false, false, false, false, false, false, false, false, false, false, false, false, false, false, false, false, false, false, false, false, false, false, false] rfl rfl (any_of HT_.out (by kernel_rfl)) (fun _ _ _ h => h) (Or.inl ⟨by rfl, ?_⟩) ?_ ?_
 rotate_left
 ·intro w'
  go_simp
  with_reducible rfl
 rotate_left
 ·simp only [Act.put, List.setIfInBounds_toArray, List.set_cons_zero, List.set_cons_succ, i64_w, i32_w]
  rfl
 refine pure_ (i := 5) (N := some 14) (v := ?_) (a' := ?_) #[true, false, false, true, true, true, false, false, false, false, false, false, false, false, false, false, false, false, false, false, false, false, false, false, false, false, false, false, false, false, false, false, false] rfl rfl (any_of HT_.out (by kernel_rfl)) (fun _ _ _ h => h) (Or.inl ⟨by rfl, ?_⟩) ?_ ?_
 rotate_left
 ·intro w'
  go_simp
  with_reducible rfl
 rotate_left
 ·simp only [Act.put, List.setIfInBounds_toArray, List.set_cons_zero, List.set_cons_succ, i64_w, i32_w]
  rfl
 refine pure_ (i := 9) (N := some 18) (v := ?_) (a' := ?_) #[true, false, false, true, true, true, false, false, false, true, false, false, false, false, false, false, false, false, false, false, false, false, false, false, false, false, false, false, false, false, false, false, false] rfl rfl (any_of HT_.out (by kernel_rfl)) (fun _ _ _ h => h) (Or.inl ⟨by rfl, ?_⟩) ?_ ?_
 rotate_left
 ·intro w'
  go_simp
  with_reducible rfl
 rotate_left
 ·simp only [Act.put, List.setIfInBounds_toArray, List.set_cons_zero, List.set_cons_succ, i64_w, i32_w]
  rfl
 refine pure_ (i := 10) (N := some 19) (v := ?_) (a' := ?_) #[true, false, false, true, true, true, false, false, false, true, true, false, false, false, false, false, false, false, false, false, false, false, false, false, false, false, false, false, false, false, false, false, false] rfl rfl (any_of HT_.out (by kernel_rfl)) (fun _ _ _ h => h) (Or.inl ⟨by rfl, ?_⟩) ?_ ?_
 rotate_left
 ·intro w'
  go_simp
  with_reducible rfl
 rotate_left
 ·simp only [Act.put, List.setIfInBounds_toArray, List.set_cons_zero, List.set_cons_succ, i64_w, i32_w]
  rfl
 refine pure_ (i := 13) (N := some 22) (v := ?_) (a' := ?_) #[true, false, false, true, true, true, false, false, false, true, true, false, false, true, false, false, false, false, false, false, false, false, false, false, false, false, false, false, false, false, false, false, false] rfl rfl (any_of HT_.out (by kernel_rfl)) (fun _ _ _ h => h) (Or.inl ⟨by rfl, ?_⟩) ?_ ?_
 rotate_left
 ·intro w'
  go_simp
  with_reducible rfl
 rotate_left
 ·simp only [Act.put, List.setIfInBounds_toArray, List.set_cons_zero, List.set_cons_succ, i64_w, i32_w]
  rfl
 refine pure_ (i := 14) (N := some 23) (v := ?_) (a' := ?_) #[true, false, false, true, true, true, false, false, false, true, true, false, false, true, true, false, false, false, false, false, false, false, false, false, false, false, false, false, false, false, false, false, false] rfl rfl (any_of HT_.out (by kernel_rfl)) (fun _ _ _ h => h) (Or.inl ⟨by rfl, ?_⟩) ?_ ?_
 rotate_left
 ·intro w'
  go_simp
  with_reducible rfl
 rotate_left
 ·simp only [Act.put, List.setIfInBounds_toArray, List.set_cons_zero, List.set_cons_succ, i64_w, i32_w]
  rfl
 refine pure_ (i := 17) (N := some 26) (v := ?_) (a' := ?_) #[true, false, false, true, true, true, false, false, false, true, true, false, false, true, true, false, false, true, false, false, false, false, false, false, false, false, false, false, false, false, false, false, false] rfl rfl (any_of HT_.out (by kernel_rfl)) (fun _ _ _ h => h) (Or.inl ⟨by rfl, ?_⟩) ?_ ?_
 rotate_left
 ·intro w'
  go_simp
  with_reducible rfl
 rotate_left
 ·simp only [Act.put, List.setIfInBounds_toArray, List.set_cons_zero, List.set_cons_succ, i64_w, i32_w]
  rfl
 refine pure_ (i := 18) (N := some 27) (v := ?_) (a' := ?_) #[true, false, false, true, true, true, false, false, false, true, true, false, false, true, true, false, false, true, true, false, false, false, false, false, false, false, false, false, false, false, false, false, false] rfl rfl (any_of HT_.out (by kernel_rfl)) (fun _ _ _ h => h) (Or.inl ⟨by rfl, ?_⟩) ?_ ?_
 rotate_left
 ·intro w'
  go_simp
  with_reducible rfl
 rotate_left
 ·simp only [Act.put, List.setIfInBounds_toArray, List.set_cons_zero, List.set_cons_succ, i64_w, i32_w]
  rfl
 refine pure_ (i := 22) (N := some 31) (v := ?_) (a' := ?_) #[true, false, false, true, true, true, false, false, false, true, true, false, false, true, true, false, false, true, true, false, false, false, true, false, false, false, false, false, false, false, false, false, false] rfl rfl (any_of HT_.out (by kernel_rfl)) (fun _ _ _ h => h) (Or.inl ⟨by rfl, ?_⟩) ?_ ?_
 rotate_left
 ·intro w'
  go_simp
  with_reducible rfl
 rotate_left
 ·simp only [Act.put, List.setIfInBounds_toArray, List.set_cons_zero, List.set_cons_succ, i64_w, i32_w]
  rfl
 refine pure_ (i := 23) (N := some 32) (v := ?_) (a' := ?_) #[true, false, false, true, true, true, false, false, false, true, true, false, false, true, true, false, false, true, true, false, false, false, true, true, false, false, false, false, false, false, false, false, false] rfl rfl (any_of HT_.out (by kernel_rfl)) (fun _ _ _ h => h) (Or.inl ⟨by rfl, ?_⟩) ?_ ?_
 rotate_left
 ·intro w'
  go_simp
  with_reducible rfl
 rotate_left
 ·simp only [Act.put, List.setIfInBounds_toArray, List.set_cons_zero, List.set_cons_succ, i64_w, i32_w]
  rfl
 refine pure_ (i := 26) (N := some 35) (v := ?_) (a' := ?_) #[true, false, false, true, true, true, false, false, false, true, true, false, false, true, true, false, false, true, true, false, false, false, true, true, false, false, true, false, false, false, false, false, false] rfl rfl (any_of HT_.out (by kernel_rfl)) (fun _ _ _ h => h) (Or.inl ⟨by rfl, ?_⟩) ?_ ?_
 rotate_left
 ·intro w'
  go_simp
  with_reducible rfl
 rotate_left
 ·simp only [Act.put, List.setIfInBounds_toArray, List.set_cons_zero, List.set_cons_succ, i64_w, i32_w]
  rfl
 refine pure_ (i := 27) (N := some 36) (v := ?_) (a' := ?_) #[true, false, false, true, true, true, false, false, false, true, true, false, false, true, true, false, false, true, true, false, false, false, true, true, false, false, true, true, false, false, false, false, false] rfl rfl (any_of HT_.out (by kernel_rfl)) (fun _ _ _ h => h) (Or.inl ⟨by rfl, ?_⟩) ?_ ?_
 rotate_left
 ·intro w'
  go_simp
  with_reducible rfl
 rotate_left
 ·simp only [Act.put, List.setIfInBounds_toArray, List.set_cons_zero, List.set_cons_succ, i64_w, i32_w]
  rfl
 refine inv_at [1, 2, 6, 7, 8, 11, 12, 15, 16, 19, 20, 21, 24, 25, 28, 29, 30, 31, 32] (fun a0_ b a w' => ∃ (v385 : Value) (v388 : Value) (v391 : Value) (v394 : Value) (v397 : Value) (v400 : Value) (v403 : Value) (v406 : Value) (m32_ : Value), a = putSel a0_ b [(1, 10, .int .i64 a1_0), (2, 11, .int .u8 ((a1_0) % 256)), (6, 15, .int .i64 a1_1), (7, 16, .int .u8 ((a1_1) % 256)), (8, 17, v385), (11, 20, .agg #[.int .i64 a1_1, .int .i64 a1_2, .int .i64 a1_3, .int .i64 a1_4, .int .i64 a1_5]), (12, 21, v388), (15, 24, .agg #[.int .i64 a1_6, .int .i64 a1_7, .int .i64 a1_8, .int .i64 a1_9, .int .i64 a1_10]), (16, 25, v391), (19, 28, .int .i64 a1_11), (20, 29, .int .u8 ((a1_11) % 256)), (21, 30, v394), (24, 33, .int .i64 a1_12), (25, 34, v397), (28, 37, .int .i64 a1_13), (29, 38, v400), (30, 39, v403), (31, 40, v406), (32, 5, m32_)] ∧ (w'.heap[gb383]? = some (.cells #[.int .i64 a1_0, .int .i64 a1_1, .int .i64 a1_2, .int .i64 a1_3, .int .i64 a1_4, .int .i64 a1_5, .int .i64 a1_6, .int .i64 a1_7, .int .i64 a1_8, .int .i64 a1_9, .int .i64 a1_10, .int .i64 a1_11, .int .i64 a1_12, .int .i64 a1_13] 33 (0, 0))) ∧ (Below w.heap.size w w') ∧ (b 8 = true → b 30 = false → Kd.R (Kd.int .u8) 5 w' w.heap.size (fun _ => True) v385 y384) ∧ (b 12 = true → b 30 = false → Kd.R (Kd.int .u8) 5 w' w.heap.size (fun _ => True) v388 t387) ∧ (b 16 = true → b 30 = false → Kd.R (Kd.int .u8) 5 w' w.heap.size (fun _ => True) v391 t390) ∧ (b 21 = true → b 30 = false → Kd.R (Kd.int .u8) 5 w' w.heap.size (fun _ => True) v394 y393) ∧ (b 25 = true → b 30 = false → Kd.R (Kd.int .u8) 5 w' w.heap.size (fun _ => True) v397 t396) ∧ (b 29 = true → b 30 = false → Kd.R (Kd.int .u8) 5 w' w.heap.size (fun _ => True) v400 t399) ∧ (b 30 = true → Kd.N (Kd.slice 5 (Kd.int .u8)) 68 w' w.heap.size (fun k_ => k_ ≠ gb383) v403 y402) ∧ (b 31 = true → Kd.R (Kd.int .u8) 5 w' w.heap.size (fun _ => True) v406 t405) ∧ (b 32 = true → (m32_ : Value) = v406)) HT_.out HW_.out (by kernel_rfl) (by kernel_rfl) ?_ ?_ ?_
 ·exact ⟨.bool false, .bool false, .bool false, .bool false, .bool false, .bool false, .bool false, .bool false, .bool false, by simp only [putSel, Bool.false_eq_true, if_false], BK383.out, HB.out, fun h_ => absurd h_ (by decide), fun h_ => absurd h_ (by decide), fun h_ => absurd h_ (by decide), fun h_ => absurd h_ (by decide), fun h_ => absurd h_ (by decide), fun h_ => absurd h_ (by decide), fun h_ => absurd h_ (by decide), fun h_ => absurd h_ (by decide), fun h_ => absurd h_ (by decide)⟩
 ·skip
  clear BK383 HB
  refine steps_cons ?_ ?_
  ·rintro b a w' ⟨v385, v388, v391, v394, v397, v400, v403, v406, m32_, ha, Q_BK383, Q_HB, Q_HO386, Q_HO389, Q_HO392, Q_HO395, Q_HO398, Q_HO401, Q_HO404, Q_HO407, Q_X32_⟩ hb_ hon hoff
   refine ⟨_, rfl, fun K hK => ?_⟩
   have e9 : a.tmps[9]? = some (.pointer (some ⟨gb383, 0, none⟩)) := by rw [ha]; exact (putSel_off rfl).trans rfl
   replace ha := Gv.a0 ha
   have BK383 := Gv.a0 Q_BK383
   have HB := Gv.a0 Q_HB
   have hc0_ : w'.cell? ⟨gb383, 0, none⟩ = some (.int .i64 a1_0) := (blk_cell BK383.out 0).trans rfl
   have hc1_ : w'.cell? ⟨gb383, 1, none⟩ = some (.int .i64 a1_1) := (blk_cell BK383.out 1).trans rfl
   have hc2_ : w'.cell? ⟨gb383, 2, none⟩ = some (.int .i64 a1_2) := (blk_cell BK383.out 2).trans rfl
   have hc3_ : w'.cell? ⟨gb383, 3, none⟩ = some (.int .i64 a1_3) := (blk_cell BK383.out 3).trans rfl
   have hc4_ : w'.cell? ⟨gb383, 4, none⟩ = some (.int .i64 a1_4) := (blk_cell BK383.out 4).trans rfl
   have hc5_ : w'.cell? ⟨gb383, 5, none⟩ = some (.int .i64 a1_5) := (blk_cell BK383.out 5).trans rfl
   have hc6_ : w'.cell? ⟨gb383, 6, none⟩ = some (.int .i64 a1_6) := (blk_cell BK383.out 6).trans rfl
   have hc7_ : w'.cell? ⟨gb383, 7, none⟩ = some (.int .i64 a1_7) := (blk_cell BK383.out 7).trans rfl
   have hc8_ : w'.cell? ⟨gb383, 8, none⟩ = some (.int .i64 a1_8) := (blk_cell BK383.out 8).trans rfl
   have hc9_ : w'.cell? ⟨gb383, 9, none⟩ = some (.int .i64 a1_9) := (blk_cell BK383.out 9).trans rfl
   have hc10_ : w'.cell? ⟨gb383, 10, none⟩ = some (.int .i64 a1_10) := (blk_cell BK383.out 10).trans rfl
   have hc11_ : w'.cell? ⟨gb383, 11, none⟩ = some (.int .i64 a1_11) := (blk_cell BK383.out 11).trans rfl
   have hc12_ : w'.cell? ⟨gb383, 12, none⟩ = some (.int .i64 a1_12) := (blk_cell BK383.out 12).trans rfl
   have hc13_ : w'.cell? ⟨gb383, 13, none⟩ = some (.int .i64 a1_13) := (blk_cell BK383.out 13).trans rfl
   refine value_ (w1 := w') (v := .int .i64 a1_0) (by rfl) rfl ?_ ?_
   ·go_simp
    (try simp only [i64_w])
    try rfl
   refine hK.out _ _ ⟨v385, v388, v391, v394, v397, v400, v403, v406, m32_, (by rw [ha.out]; exact putSel_upk 0 hb_ rfl rfl rfl), Q_BK383, Q_HB, fun h0_ _ => absurd ((hoff 8 (by kernel_rfl)).symm.trans h0_) (by decide), Q_HO389, Q_HO392, Q_HO395, Q_HO398, Q_HO401, fun h0_ => absurd ((hoff 30 (by kernel_rfl)).symm.trans h0_) (by decide), fun h0_ => absurd ((hoff 31 (by kernel_rfl)).symm.trans h0_) (by decide), fun h0_ => absurd ((hoff 32 (by kernel_rfl)).symm.trans h0_) (by decide)⟩
  refine steps_cons ?_ ?_
  ·rintro b a w' ⟨v385, v388, v391, v394, v397, v400, v403, v406, m32_, ha, Q_BK383, Q_HB, Q_HO386, Q_HO389, Q_HO392, Q_HO395, Q_HO398, Q_HO401, Q_HO404, Q_HO407, Q_X32_⟩ hb_ hon hoff
   refine ⟨_, rfl, fun K hK => ?_⟩
   have e10 : a.tmps[10]? = some (.int .i64 a1_0) := by rw [ha]; exact putSel_on (e := (1, 10, .int .i64 a1_0)) 0 rfl rfl (hon 1 (by kernel_rfl)) rfl
   replace ha := Gv.a0 ha
   have BK383 := Gv.a0 Q_BK383
   have HB := Gv.a0 Q_HB
   refine value_ (w1 := w') (v := .int .u8 ((a1_0) % 256)) (by rfl) rfl ?_ ?_
   ·go_simp
    (try simp only [i64_w])
    try rfl
   refine hK.out _ _ ⟨v385, v388, v391, v394, v397, v400, v403, v406, m32_, (by rw [ha.out]; exact putSel_upk 1 hb_ rfl rfl rfl), Q_BK383, Q_HB, fun h0_ _ => absurd ((hoff 8 (by kernel_rfl)).symm.trans h0_) (by decide), Q_HO389, Q_HO392, Q_HO395, Q_HO398, Q_HO401, fun h0_ => absurd ((hoff 30 (by kernel_rfl)).symm.trans h0_) (by decide), fun h0_ => absurd ((hoff 31 (by kernel_rfl)).symm.trans h0_) (by decide), fun h0_ => absurd ((hoff 32 (by kernel_rfl)).symm.trans h0_) (by decide)⟩
  refine steps_cons ?_ ?_
  ·rintro b a w' ⟨v385, v388, v391, v394, v397, v400, v403, v406, m32_, ha, Q_BK383, Q_HB, Q_HO386, Q_HO389, Q_HO392, Q_HO395, Q_HO398, Q_HO401, Q_HO404, Q_HO407, Q_X32_⟩ hb_ hon hoff
   refine ⟨_, rfl, fun K hK => ?_⟩
   have e14 : a.tmps[14]? = some (.pointer (some ⟨gb383, 1, none⟩)) := by rw [ha]; exact (putSel_off rfl).trans rfl
   replace ha := Gv.a0 ha
   have BK383 := Gv.a0 Q_BK383
   have HB := Gv.a0 Q_HB
   have hc0_ : w'.cell? ⟨gb383, 0, none⟩ = some (.int .i64 a1_0) := (blk_cell BK383.out 0).trans rfl
   have hc1_ : w'.cell? ⟨gb383, 1, none⟩ = some (.int .i64 a1_1) := (blk_cell BK383.out 1).trans rfl
   have hc2_ : w'.cell? ⟨gb383, 2, none⟩ = some (.int .i64 a1_2) := (blk_cell BK383.out 2).trans rfl
   have hc3_ : w'.cell? ⟨gb383, 3, none⟩ = some (.int .i64 a1_3) := (blk_cell BK383.out 3).trans rfl
   have hc4_ : w'.cell? ⟨gb383, 4, none⟩ = some (.int .i64 a1_4) := (blk_cell BK383.out 4).trans rfl
   have hc5_ : w'.cell? ⟨gb383, 5, none⟩ = some (.int .i64 a1_5) := (blk_cell BK383.out 5).trans rfl
   have hc6_ : w'.cell? ⟨gb383, 6, none⟩ = some (.int .i64 a1_6) := (blk_cell BK383.out 6).trans rfl
   have hc7_ : w'.cell? ⟨gb383, 7, none⟩ = some (.int .i64 a1_7) := (blk_cell BK383.out 7).trans rfl
   have hc8_ : w'.cell? ⟨gb383, 8, none⟩ = some (.int .i64 a1_8) := (blk_cell BK383.out 8).trans rfl
   have hc9_ : w'.cell? ⟨gb383, 9, none⟩ = some (.int .i64 a1_9) := (blk_cell BK383.out 9).trans rfl
   have hc10_ : w'.cell? ⟨gb383, 10, none⟩ = some (.int .i64 a1_10) := (blk_cell BK383.out 10).trans rfl
   have hc11_ : w'.cell? ⟨gb383, 11, none⟩ = some (.int .i64 a1_11) := (blk_cell BK383.out 11).trans rfl
   have hc12_ : w'.cell? ⟨gb383, 12, none⟩ = some (.int .i64 a1_12) := (blk_cell BK383.out 12).trans rfl
   have hc13_ : w'.cell? ⟨gb383, 13, none⟩ = some (.int .i64 a1_13) := (blk_cell BK383.out 13).trans rfl
   refine value_ (w1 := w') (v := .int .i64 a1_1) (by rfl) rfl ?_ ?_
   ·go_simp
    (try simp only [i64_w])
    try rfl
   refine hK.out _ _ ⟨v385, v388, v391, v394, v397, v400, v403, v406, m32_, (by rw [ha.out]; exact putSel_upk 2 hb_ rfl rfl rfl), Q_BK383, Q_HB, fun h0_ _ => absurd ((hoff 8 (by kernel_rfl)).symm.trans h0_) (by decide), Q_HO389, Q_HO392, Q_HO395, Q_HO398, Q_HO401, fun h0_ => absurd ((hoff 30 (by kernel_rfl)).symm.trans h0_) (by decide), fun h0_ => absurd ((hoff 31 (by kernel_rfl)).symm.trans h0_) (by decide), fun h0_ => absurd ((hoff 32 (by kernel_rfl)).symm.trans h0_) (by decide)⟩
  refine steps_cons ?_ ?_
  ·rintro b a w' ⟨v385, v388, v391, v394, v397, v400, v403, v406, m32_, ha, Q_BK383, Q_HB, Q_HO386, Q_HO389, Q_HO392, Q_HO395, Q_HO398, Q_HO401, Q_HO404, Q_HO407, Q_X32_⟩ hb_ hon hoff
   refine ⟨_, rfl, fun K hK => ?_⟩
   have e15 : a.tmps[15]? = some (.int .i64 a1_1) := by rw [ha]; exact putSel_on (e := (6, 15, .int .i64 a1_1)) 2 rfl rfl (hon 6 (by kernel_rfl)) rfl
   replace ha := Gv.a0 ha
   have BK383 := Gv.a0 Q_BK383
   have HB := Gv.a0 Q_HB
   refine value_ (w1 := w') (v := .int .u8 ((a1_1) % 256)) (by rfl) rfl ?_ ?_
   ·go_simp
    (try simp only [i64_w])
    try rfl
   refine hK.out _ _ ⟨v385, v388, v391, v394, v397, v400, v403, v406, m32_, (by rw [ha.out]; exact putSel_upk 3 hb_ rfl rfl rfl), Q_BK383, Q_HB, fun h0_ _ => absurd ((hoff 8 (by kernel_rfl)).symm.trans h0_) (by decide), Q_HO389, Q_HO392, Q_HO395, Q_HO398, Q_HO401, fun h0_ => absurd ((hoff 30 (by kernel_rfl)).symm.trans h0_) (by decide), fun h0_ => absurd ((hoff 31 (by kernel_rfl)).symm.trans h0_) (by decide), fun h0_ => absurd ((hoff 32 (by kernel_rfl)).symm.trans h0_) (by decide)⟩
  refine steps_cons ?_ ?_
  ·rintro b a w' ⟨v385, v388, v391, v394, v397, v400, v403, v406, m32_, ha, Q_BK383, Q_HB, Q_HO386, Q_HO389, Q_HO392, Q_HO395, Q_HO398, Q_HO401, Q_HO404, Q_HO407, Q_X32_⟩ hb_ hon hoff
   refine ⟨_, rfl, fun K hK => ?_⟩
   have e11 : a.tmps[11]? = some (.int .u8 ((a1_0) % 256)) := by rw [ha]; exact putSel_on (e := (2, 11, .int .u8 ((a1_0) % 256))) 1 rfl rfl (hon 2 (by kernel_rfl)) rfl
   have e16 : a.tmps[16]? = some (.int .u8 ((a1_1) % 256)) := by rw [ha]; exact putSel_on (e := (7, 16, .int .u8 ((a1_1) % 256))) 3 rfl rfl (hon 7 (by kernel_rfl)) rfl
   replace ha := Gv.a0 ha
   have BK383 := Gv.a0 Q_BK383
   have HB := Gv.a0 Q_HB
   refine Kd.R_lit_step (Kd.int .u8) _ 5 ?hg (N := 17) ?hd (xs := ([(a1_0) % 256, (a1_1) % 256] : List Int)) (inner := [.int .u8 ((a1_0) % 256), .int .u8 ((a1_1) % 256)]) (ok := fun _ => True) (okp := fun _ => True) ?hr ?hp (fun _ hk => hk) trivial (Below.refl _ _) (Nat.le_refl _) (by simp) ?_; (case hd => rfl); (case hg => rfl); (case hr => first | (go_simp; done) | (go_simp; rfl)); (case hp => exact (Reps.one (show Kd.M (Kd.int .u8) _ _ _ ((a1_0) % 256) [.int .u8 ((a1_0) % 256)] from rfl) (Reps.one (show Kd.M (Kd.int .u8) _ _ _ ((a1_1) % 256) [.int .u8 ((a1_1) % 256)] from rfl) (Reps.none _ _))))
   intro v385 w10 ho11 hb hg_ hnew_
   clear hg_ hnew_
   (first | rw [← Ny384.out] at ho11 | (simp only [Int.reduceToNat] at ho11; rw [← Ny384.out] at ho11))
   have n0_ := Gv.a0 (Kd.R_lower ho11 (below_size Gv.bw))
   have n1_ := Gv.a0 (Gv.bb BK383.out hb)
   have n2_ := Gv.a0 (below_step Gv.bw hb)
   have z_HO389 := fun (h0_ : b 12 = true) (h1_ : b 30 = false) => (show Kd.R (Kd.int .u8) 5 w10 w.heap.size (fun _ => True) v388 t387 from by first | exact (Kd.R_elder' (by (with_reducible repeat (first | apply Kd.R_alloc | apply Kd.R_drewN | apply Kd.R_drew)); exact (Q_HO389 h0_ h1_)) (Kd.R_base ho11) hb) | exact Kd.R_mono (Kd.R_elder' (by (with_reducible repeat (first | apply Kd.R_alloc | apply Kd.R_drewN | apply Kd.R_drew)); exact (Q_HO389 h0_ h1_)) (Kd.R_base ho11) hb) (fun _ h_ => by first | trivial | exact h_ | exact h_.1))
   have z_HO392 := fun (h0_ : b 16 = true) (h1_ : b 30 = false) => (show Kd.R (Kd.int .u8) 5 w10 w.heap.size (fun _ => True) v391 t390 from by first | exact (Kd.R_elder' (by (with_reducible repeat (first | apply Kd.R_alloc | apply Kd.R_drewN | apply Kd.R_drew)); exact (Q_HO392 h0_ h1_)) (Kd.R_base ho11) hb) | exact Kd.R_mono (Kd.R_elder' (by (with_reducible repeat (first | apply Kd.R_alloc | apply Kd.R_drewN | apply Kd.R_drew)); exact (Q_HO392 h0_ h1_)) (Kd.R_base ho11) hb) (fun _ h_ => by first | trivial | exact h_ | exact h_.1))
   have z_HO395 := fun (h0_ : b 21 = true) (h1_ : b 30 = false) => (show Kd.R (Kd.int .u8) 5 w10 w.heap.size (fun _ => True) v394 y393 from by first | exact (Kd.R_elder' (by (with_reducible repeat (first | apply Kd.R_alloc | apply Kd.R_drewN | apply Kd.R_drew)); exact (Q_HO395 h0_ h1_)) (Kd.R_base ho11) hb) | exact Kd.R_mono (Kd.R_elder' (by (with_reducible repeat (first | apply Kd.R_alloc | apply Kd.R_drewN | apply Kd.R_drew)); exact (Q_HO395 h0_ h1_)) (Kd.R_base ho11) hb) (fun _ h_ => by first | trivial | exact h_ | exact h_.1))
   have z_HO398 := fun (h0_ : b 25 = true) (h1_ : b 30 = false) => (show Kd.R (Kd.int .u8) 5 w10 w.heap.size (fun _ => True) v397 t396 from by first | exact (Kd.R_elder' (by (with_reducible repeat (first | apply Kd.R_alloc | apply Kd.R_drewN | apply Kd.R_drew)); exact (Q_HO398 h0_ h1_)) (Kd.R_base ho11) hb) | exact Kd.R_mono (Kd.R_elder' (by (with_reducible repeat (first | apply Kd.R_alloc | apply Kd.R_drewN | apply Kd.R_drew)); exact (Q_HO398 h0_ h1_)) (Kd.R_base ho11) hb) (fun _ h_ => by first | trivial | exact h_ | exact h_.1))
   have z_HO401 := fun (h0_ : b 29 = true) (h1_ : b 30 = false) => (show Kd.R (Kd.int .u8) 5 w10 w.heap.size (fun _ => True) v400 t399 from by first | exact (Kd.R_elder' (by (with_reducible repeat (first | apply Kd.R_alloc | apply Kd.R_drewN | apply Kd.R_drew)); exact (Q_HO401 h0_ h1_)) (Kd.R_base ho11) hb) | exact Kd.R_mono (Kd.R_elder' (by (with_reducible repeat (first | apply Kd.R_alloc | apply Kd.R_drewN | apply Kd.R_drew)); exact (Q_HO401 h0_ h1_)) (Kd.R_base ho11) hb) (fun _ h_ => by first | trivial | exact h_ | exact h_.1))
   clear BK383
   clear HB
   have HO386 := n0_
   have BK383 := n1_
   have HB := n2_
   clear n0_ n1_ n2_
   clear hb ho11
   refine hK.out _ _ ⟨v385, v388, v391, v394, v397, v400, v403, v406, m32_, (by rw [ha.out]; exact putSel_upk 4 hb_ rfl rfl rfl), Gv.bk, Gv.bw, fun _ _ => (by (with_reducible repeat (first | apply Kd.R_alloc | apply Kd.R_drewN | apply Kd.R_drew)); first | exact HO386.out | exact Kd.R_mono HO386.out (fun _ hk => by first | exact hk.2 | trivial | exact ⟨hk.1.2, hk.2⟩ | exact ⟨trivial, hk.2⟩ | exact hk.1.2 | exact hk | exact ⟨trivial, hk⟩ | exact hk.1 | (simp only [true_and, and_true] at hk ⊢; first | exact hk | exact hk.2 | exact hk.1 | exact ⟨hk.2, hk.1⟩ | omega | (constructor <;> first | exact hk.1 | exact hk.2 | exact hk.1.1 | exact hk.1.2 | exact hk.2.1 | exact hk.2.2)))), z_HO389, z_HO392, z_HO395, z_HO398, z_HO401, fun h0_ => absurd ((hoff 30 (by kernel_rfl)).symm.trans h0_) (by decide), fun h0_ => absurd ((hoff 31 (by kernel_rfl)).symm.trans h0_) (by decide), fun h0_ => absurd ((hoff 32 (by kernel_rfl)).symm.trans h0_) (by decide)⟩
  refine steps_cons ?_ ?_
  ·rintro b a w' ⟨v385, v388, v391, v394, v397, v400, v403, v406, m32_, ha, Q_BK383, Q_HB, Q_HO386, Q_HO389, Q_HO392, Q_HO395, Q_HO398, Q_HO401, Q_HO404, Q_HO407, Q_X32_⟩ hb_ hon hoff
   refine ⟨_, rfl, fun K hK => ?_⟩
   have e19 : a.tmps[19]? = some (.pointer (some ⟨gb383, 1, none⟩)) := by rw [ha]; exact (putSel_off rfl).trans rfl
   replace ha := Gv.a0 ha
   have BK383 := Gv.a0 Q_BK383
   have HB := Gv.a0 Q_HB
   have hc0_ : w'.cell? ⟨gb383, 0, none⟩ = some (.int .i64 a1_0) := (blk_cell BK383.out 0).trans rfl
   have hc1_ : w'.cell? ⟨gb383, 1, none⟩ = some (.int .i64 a1_1) := (blk_cell BK383.out 1).trans rfl
   have hc2_ : w'.cell? ⟨gb383, 2, none⟩ = some (.int .i64 a1_2) := (blk_cell BK383.out 2).trans rfl
   have hc3_ : w'.cell? ⟨gb383, 3, none⟩ = some (.int .i64 a1_3) := (blk_cell BK383.out 3).trans rfl
   have hc4_ : w'.cell? ⟨gb383, 4, none⟩ = some (.int .i64 a1_4) := (blk_cell BK383.out 4).trans rfl
   have hc5_ : w'.cell? ⟨gb383, 5, none⟩ = some (.int .i64 a1_5) := (blk_cell BK383.out 5).trans rfl
   have hc6_ : w'.cell? ⟨gb383, 6, none⟩ = some (.int .i64 a1_6) := (blk_cell BK383.out 6).trans rfl
   have hc7_ : w'.cell? ⟨gb383, 7, none⟩ = some (.int .i64 a1_7) := (blk_cell BK383.out 7).trans rfl
   have hc8_ : w'.cell? ⟨gb383, 8, none⟩ = some (.int .i64 a1_8) := (blk_cell BK383.out 8).trans rfl
   have hc9_ : w'.cell? ⟨gb383, 9, none⟩ = some (.int .i64 a1_9) := (blk_cell BK383.out 9).trans rfl
   have hc10_ : w'.cell? ⟨gb383, 10, none⟩ = some (.int .i64 a1_10) := (blk_cell BK383.out 10).trans rfl
   have hc11_ : w'.cell? ⟨gb383, 11, none⟩ = some (.int .i64 a1_11) := (blk_cell BK383.out 11).trans rfl
   have hc12_ : w'.cell? ⟨gb383, 12, none⟩ = some (.int .i64 a1_12) := (blk_cell BK383.out 12).trans rfl
   have hc13_ : w'.cell? ⟨gb383, 13, none⟩ = some (.int .i64 a1_13) := (blk_cell BK383.out 13).trans rfl
   refine value_ (w1 := w') (v := .agg #[.int .i64 a1_1, .int .i64 a1_2, .int .i64 a1_3, .int .i64 a1_4, .int .i64 a1_5]) (by rfl) rfl ?_ ?_
   ·go_simp
    (try simp only [i64_w])
    try rfl
   refine hK.out _ _ ⟨v385, v388, v391, v394, v397, v400, v403, v406, m32_, (by rw [ha.out]; exact putSel_upk 5 hb_ rfl rfl rfl), Q_BK383, Q_HB, Q_HO386, fun h0_ _ => absurd ((hoff 12 (by kernel_rfl)).symm.trans h0_) (by decide), fun h0_ _ => absurd ((hoff 16 (by kernel_rfl)).symm.trans h0_) (by decide), Q_HO395, fun h0_ _ => absurd ((hoff 25 (by kernel_rfl)).symm.trans h0_) (by decide), fun h0_ _ => absurd ((hoff 29 (by kernel_rfl)).symm.trans h0_) (by decide), fun h0_ => absurd ((hoff 30 (by kernel_rfl)).symm.trans h0_) (by decide), fun h0_ => absurd ((hoff 31 (by kernel_rfl)).symm.trans h0_) (by decide), fun h0_ => absurd ((hoff 32 (by kernel_rfl)).symm.trans h0_) (by decide)⟩
  refine steps_cons ?_ ?_
  ·rintro b a w' ⟨v385, v388, v391, v394, v397, v400, v403, v406, m32_, ha, Q_BK383, Q_HB, Q_HO386, Q_HO389, Q_HO392, Q_HO395, Q_HO398, Q_HO401, Q_HO404, Q_HO407, Q_X32_⟩ hb_ hon hoff
   refine ⟨_, rfl, fun K hK => ?_⟩
   have e20 : a.tmps[20]? = some (.agg #[.int .i64 a1_1, .int .i64 a1_2, .int .i64 a1_3, .int .i64 a1_4, .int .i64 a1_5]) := by rw [ha]; exact putSel_on (e := (11, 20, .agg #[.int .i64 a1_1, .int .i64 a1_2, .int .i64 a1_3, .int .i64 a1_4, .int .i64 a1_5])) 5 rfl rfl (hon 11 (by kernel_rfl)) rfl
   replace ha := Gv.a0 ha
   have BK383 := Gv.a0 Q_BK383
   have HB := Gv.a0 Q_HB
   refine goes_ Try.func74 (by kernel_rfl) rfl #[.agg #[.int .i64 a1_1, .int .i64 a1_2, .int .i64 a1_3, .int .i64 a1_4, .int .i64 a1_5]] (by rfl) rfl rfl (by first | (simp only [List.map_toArray, List.map_cons, List.map_nil, Act.eval, Array.getD_eq_getD_getElem?, Option.getD_some, e20]; done) | (simp only [List.map_toArray, List.map_cons, List.map_nil, Act.eval, Array.getD_eq_getD_getElem?, Option.getD_some, e20]; rfl)) ?_
   with_reducible refine (impl_AddrBytes.calls k a1_1 a1_2 a1_3 a1_4 a1_5 t387 _ A3.out).mono ?_
   rintro e w10 ⟨v388, rfl, ho0, hb⟩
   refine ⟨_, rfl, ?_⟩
   have n0_ := Gv.a0 (Kd.R_lower ho0 (below_size Gv.bw))
   have n1_ := Gv.a0 (Gv.bb BK383.out hb)
   have n2_ := Gv.a0 (below_step Gv.bw hb)
   have z_HO386 := fun (h0_ : b 8 = true) (h1_ : b 30 = false) => (show Kd.R (Kd.int .u8) 5 w10 w.heap.size (fun _ => True) v385 y384 from by first | exact (Kd.R_elder' (by (with_reducible repeat (first | apply Kd.R_alloc | apply Kd.R_drewN | apply Kd.R_drew)); exact (Q_HO386 h0_ h1_)) (Kd.R_base ho0) hb) | exact Kd.R_mono (Kd.R_elder' (by (with_reducible repeat (first | apply Kd.R_alloc | apply Kd.R_drewN | apply Kd.R_drew)); exact (Q_HO386 h0_ h1_)) (Kd.R_base ho0) hb) (fun _ h_ => by first | trivial | exact h_ | exact h_.1))
   have z_HO395 := fun (h0_ : b 21 = true) (h1_ : b 30 = false) => (show Kd.R (Kd.int .u8) 5 w10 w.heap.size (fun _ => True) v394 y393 from by first | exact (Kd.R_elder' (by (with_reducible repeat (first | apply Kd.R_alloc | apply Kd.R_drewN | apply Kd.R_drew)); exact (Q_HO395 h0_ h1_)) (Kd.R_base ho0) hb) | exact Kd.R_mono (Kd.R_elder' (by (with_reducible repeat (first | apply Kd.R_alloc | apply Kd.R_drewN | apply Kd.R_drew)); exact (Q_HO395 h0_ h1_)) (Kd.R_base ho0) hb) (fun _ h_ => by first | trivial | exact h_ | exact h_.1))
   clear BK383
   clear HB
   have HO389 := n0_
   have BK383 := n1_
   have HB := n2_
   clear n0_ n1_ n2_
   (try clear hb)
   (try clear hb2)
   (try clear hk)
   (try clear hi)
   (try clear ho0)
   refine hK.out _ _ ⟨v385, v388, v391, v394, v397, v400, v403, v406, m32_, (by rw [ha.out]; exact putSel_upk 6 hb_ rfl rfl rfl), Gv.bk, Gv.bw, z_HO386, fun _ _ => (by (with_reducible repeat (first | apply Kd.R_alloc | apply Kd.R_drewN | apply Kd.R_drew)); first | exact HO389.out | exact Kd.R_mono HO389.out (fun _ hk => by first | exact hk.2 | trivial | exact ⟨hk.1.2, hk.2⟩ | exact ⟨trivial, hk.2⟩ | exact hk.1.2 | exact hk | exact ⟨trivial, hk⟩ | exact hk.1 | (simp only [true_and, and_true] at hk ⊢; first | exact hk | exact hk.2 | exact hk.1 | exact ⟨hk.2, hk.1⟩ | omega | (constructor <;> first | exact hk.1 | exact hk.2 | exact hk.1.1 | exact hk.1.2 | exact hk.2.1 | exact hk.2.2)))), fun h0_ _ => absurd ((hoff 16 (by kernel_rfl)).symm.trans h0_) (by decide), z_HO395, fun h0_ _ => absurd ((hoff 25 (by kernel_rfl)).symm.trans h0_) (by decide), fun h0_ _ => absurd ((hoff 29 (by kernel_rfl)).symm.trans h0_) (by decide), fun h0_ => absurd ((hoff 30 (by kernel_rfl)).symm.trans h0_) (by decide), fun h0_ => absurd ((hoff 31 (by kernel_rfl)).symm.trans h0_) (by decide), fun h0_ => absurd ((hoff 32 (by kernel_rfl)).symm.trans h0_) (by decide)⟩
  refine steps_cons ?_ ?_
  ·rintro b a w' ⟨v385, v388, v391, v394, v397, v400, v403, v406, m32_, ha, Q_BK383, Q_HB, Q_HO386, Q_HO389, Q_HO392, Q_HO395, Q_HO398, Q_HO401, Q_HO404, Q_HO407, Q_X32_⟩ hb_ hon hoff
   refine ⟨_, rfl, fun K hK => ?_⟩
   have e23 : a.tmps[23]? = some (.pointer (some ⟨gb383, 6, none⟩)) := by rw [ha]; exact (putSel_off rfl).trans rfl
   replace ha := Gv.a0 ha
   have BK383 := Gv.a0 Q_BK383
   have HB := Gv.a0 Q_HB
   have hc0_ : w'.cell? ⟨gb383, 0, none⟩ = some (.int .i64 a1_0) := (blk_cell BK383.out 0).trans rfl
   have hc1_ : w'.cell? ⟨gb383, 1, none⟩ = some (.int .i64 a1_1) := (blk_cell BK383.out 1).trans rfl
   have hc2_ : w'.cell? ⟨gb383, 2, none⟩ = some (.int .i64 a1_2) := (blk_cell BK383.out 2).trans rfl
   have hc3_ : w'.cell? ⟨gb383, 3, none⟩ = some (.int .i64 a1_3) := (blk_cell BK383.out 3).trans rfl
   have hc4_ : w'.cell? ⟨gb383, 4, none⟩ = some (.int .i64 a1_4) := (blk_cell BK383.out 4).trans rfl
   have hc5_ : w'.cell? ⟨gb383, 5, none⟩ = some (.int .i64 a1_5) := (blk_cell BK383.out 5).trans rfl
   have hc6_ : w'.cell? ⟨gb383, 6, none⟩ = some (.int .i64 a1_6) := (blk_cell BK383.out 6).trans rfl
   have hc7_ : w'.cell? ⟨gb383, 7, none⟩ = some (.int .i64 a1_7) := (blk_cell BK383.out 7).trans rfl
   have hc8_ : w'.cell? ⟨gb383, 8, none⟩ = some (.int .i64 a1_8) := (blk_cell BK383.out 8).trans rfl
   have hc9_ : w'.cell? ⟨gb383, 9, none⟩ = some (.int .i64 a1_9) := (blk_cell BK383.out 9).trans rfl
   have hc10_ : w'.cell? ⟨gb383, 10, none⟩ = some (.int .i64 a1_10) := (blk_cell BK383.out 10).trans rfl
   have hc11_ : w'.cell? ⟨gb383, 11, none⟩ = some (.int .i64 a1_11) := (blk_cell BK383.out 11).trans rfl
   have hc12_ : w'.cell? ⟨gb383, 12, none⟩ = some (.int .i64 a1_12) := (blk_cell BK383.out 12).trans rfl
   have hc13_ : w'.cell? ⟨gb383, 13, none⟩ = some (.int .i64 a1_13) := (blk_cell BK383.out 13).trans rfl
   refine value_ (w1 := w') (v := .agg #[.int .i64 a1_6, .int .i64 a1_7, .int .i64 a1_8, .int .i64 a1_9, .int .i64 a1_10]) (by rfl) rfl ?_ ?_
   ·go_simp
    (try simp only [i64_w])
    try rfl
   refine hK.out _ _ ⟨v385, v388, v391, v394, v397, v400, v403, v406, m32_, (by rw [ha.out]; exact putSel_upk 7 hb_ rfl rfl rfl), Q_BK383, Q_HB, Q_HO386, Q_HO389, fun h0_ _ => absurd ((hoff 16 (by kernel_rfl)).symm.trans h0_) (by decide), Q_HO395, fun h0_ _ => absurd ((hoff 25 (by kernel_rfl)).symm.trans h0_) (by decide), fun h0_ _ => absurd ((hoff 29 (by kernel_rfl)).symm.trans h0_) (by decide), fun h0_ => absurd ((hoff 30 (by kernel_rfl)).symm.trans h0_) (by decide), fun h0_ => absurd ((hoff 31 (by kernel_rfl)).symm.trans h0_) (by decide), fun h0_ => absurd ((hoff 32 (by kernel_rfl)).symm.trans h0_) (by decide)⟩
  refine steps_cons ?_ ?_
  ·rintro b a w' ⟨v385, v388, v391, v394, v397, v400, v403, v406, m32_, ha, Q_BK383, Q_HB, Q_HO386, Q_HO389, Q_HO392, Q_HO395, Q_HO398, Q_HO401, Q_HO404, Q_HO407, Q_X32_⟩ hb_ hon hoff
   refine ⟨_, rfl, fun K hK => ?_⟩
   have e24 : a.tmps[24]? = some (.agg #[.int .i64 a1_6, .int .i64 a1_7, .int .i64 a1_8, .int .i64 a1_9, .int .i64 a1_10]) := by rw [ha]; exact putSel_on (e := (15, 24, .agg #[.int .i64 a1_6, .int .i64 a1_7, .int .i64 a1_8, .int .i64 a1_9, .int .i64 a1_10])) 7 rfl rfl (hon 15 (by kernel_rfl)) rfl
   replace ha := Gv.a0 ha
   have BK383 := Gv.a0 Q_BK383
   have HB := Gv.a0 Q_HB
   have HO389 := Gv.a0 (Q_HO389 (hon 12 (by kernel_rfl)) (hoff 30 (by kernel_rfl)))
   refine goes_ Try.func74 (by kernel_rfl) rfl #[.agg #[.int .i64 a1_6, .int .i64 a1_7, .int .i64 a1_8, .int .i64 a1_9, .int .i64 a1_10]] (by rfl) rfl rfl (by first | (simp only [List.map_toArray, List.map_cons, List.map_nil, Act.eval, Array.getD_eq_getD_getElem?, Option.getD_some, e24]; done) | (simp only [List.map_toArray, List.map_cons, List.map_nil, Act.eval, Array.getD_eq_getD_getElem?, Option.getD_some, e24]; rfl)) ?_
   with_reducible refine (impl_AddrBytes.calls k a1_6 a1_7 a1_8 a1_9 a1_10 t390 _ A4.out).mono ?_
   rintro e w12 ⟨v391, rfl, ho0, hb⟩
   refine ⟨_, rfl, ?_⟩
   have n0_ := Gv.a0 (Kd.R_elder' (Gv.kr HO389.out) (Kd.R_base ho0) hb)
   have n1_ := Gv.a0 (Kd.R_lower (Kd.R_new' ho0 (Kd.R_lt (Gv.kr HO389.out))) (below_size Gv.bw))
   have n2_ := Gv.a0 (Gv.bb BK383.out hb)
   have n3_ := Gv.a0 (below_step Gv.bw hb)
   have z_HO386 := fun (h0_ : b 8 = true) (h1_ : b 30 = false) => (show Kd.R (Kd.int .u8) 5 w12 w.heap.size (fun _ => True) v385 y384 from by first | exact (Kd.R_elder' (by (with_reducible repeat (first | apply Kd.R_alloc | apply Kd.R_drewN | apply Kd.R_drew)); exact (Q_HO386 h0_ h1_)) (Kd.R_base ho0) hb) | exact Kd.R_mono (Kd.R_elder' (by (with_reducible repeat (first | apply Kd.R_alloc | apply Kd.R_drewN | apply Kd.R_drew)); exact (Q_HO386 h0_ h1_)) (Kd.R_base ho0) hb) (fun _ h_ => by first | trivial | exact h_ | exact h_.1))
   have z_HO395 := fun (h0_ : b 21 = true) (h1_ : b 30 = false) => (show Kd.R (Kd.int .u8) 5 w12 w.heap.size (fun _ => True) v394 y393 from by first | exact (Kd.R_elder' (by (with_reducible repeat (first | apply Kd.R_alloc | apply Kd.R_drewN | apply Kd.R_drew)); exact (Q_HO395 h0_ h1_)) (Kd.R_base ho0) hb) | exact Kd.R_mono (Kd.R_elder' (by (with_reducible repeat (first | apply Kd.R_alloc | apply Kd.R_drewN | apply Kd.R_drew)); exact (Q_HO395 h0_ h1_)) (Kd.R_base ho0) hb) (fun _ h_ => by first | trivial | exact h_ | exact h_.1))
   clear HO389
   clear BK383
   clear HB
   have HO389 := n0_
   have HO392 := n1_
   have BK383 := n2_
   have HB := n3_
   clear n0_ n1_ n2_ n3_
   (try clear hb)
   (try clear hb2)
   (try clear hk)
   (try clear hi)
   (try clear ho0)
   refine hK.out _ _ ⟨v385, v388, v391, v394, v397, v400, v403, v406, m32_, (by rw [ha.out]; exact putSel_upk 8 hb_ rfl rfl rfl), Gv.bk, Gv.bw, z_HO386, fun _ _ => (by (with_reducible repeat (first | apply Kd.R_alloc | apply Kd.R_drewN | apply Kd.R_drew)); exact Kd.R_mono HO389.out (fun _ hk => by first | exact hk.2 | trivial | exact ⟨hk.1.2, hk.2⟩ | exact ⟨trivial, hk.2⟩ | exact hk.1.2 | exact hk | exact ⟨trivial, hk⟩ | exact hk.1 | (simp only [true_and, and_true] at hk ⊢; first | exact hk | exact hk.2 | exact hk.1 | exact ⟨hk.2, hk.1⟩ | omega | (constructor <;> first | exact hk.1 | exact hk.2 | exact hk.1.1 | exact hk.1.2 | exact hk.2.1 | exact hk.2.2)))), fun _ _ => (by (with_reducible repeat (first | apply Kd.R_alloc | apply Kd.R_drewN | apply Kd.R_drew)); exact Kd.R_mono HO392.out (fun _ hk => by first | exact hk.2 | trivial | exact ⟨hk.1.2, hk.2⟩ | exact ⟨trivial, hk.2⟩ | exact hk.1.2 | exact hk | exact ⟨trivial, hk⟩ | exact hk.1 | (simp only [true_and, and_true] at hk ⊢; first | exact hk | exact hk.2 | exact hk.1 | exact ⟨hk.2, hk.1⟩ | omega | (constructor <;> first | exact hk.1 | exact hk.2 | exact hk.1.1 | exact hk.1.2 | exact hk.2.1 | exact hk.2.2)))), z_HO395, fun h0_ _ => absurd ((hoff 25 (by kernel_rfl)).symm.trans h0_) (by decide), fun h0_ _ => absurd ((hoff 29 (by kernel_rfl)).symm.trans h0_) (by decide), fun h0_ => absurd ((hoff 30 (by kernel_rfl)).symm.trans h0_) (by decide), fun h0_ => absurd ((hoff 31 (by kernel_rfl)).symm.trans h0_) (by decide), fun h0_ => absurd ((hoff 32 (by kernel_rfl)).symm.trans h0_) (by decide)⟩
  refine steps_cons ?_ ?_
  ·rintro b a w' ⟨v385, v388, v391, v394, v397, v400, v403, v406, m32_, ha, Q_BK383, Q_HB, Q_HO386, Q_HO389, Q_HO392, Q_HO395, Q_HO398, Q_HO401, Q_HO404, Q_HO407, Q_X32_⟩ hb_ hon hoff
   refine ⟨_, rfl, fun K hK => ?_⟩
   have e27 : a.tmps[27]? = some (.pointer (some ⟨gb383, 11, none⟩)) := by rw [ha]; exact (putSel_off rfl).trans rfl
   replace ha := Gv.a0 ha
   have BK383 := Gv.a0 Q_BK383
   have HB := Gv.a0 Q_HB
   have hc0_ : w'.cell? ⟨gb383, 0, none⟩ = some (.int .i64 a1_0) := (blk_cell BK383.out 0).trans rfl
   have hc1_ : w'.cell? ⟨gb383, 1, none⟩ = some (.int .i64 a1_1) := (blk_cell BK383.out 1).trans rfl
   have hc2_ : w'.cell? ⟨gb383, 2, none⟩ = some (.int .i64 a1_2) := (blk_cell BK383.out 2).trans rfl
   have hc3_ : w'.cell? ⟨gb383, 3, none⟩ = some (.int .i64 a1_3) := (blk_cell BK383.out 3).trans rfl
   have hc4_ : w'.cell? ⟨gb383, 4, none⟩ = some (.int .i64 a1_4) := (blk_cell BK383.out 4).trans rfl
   have hc5_ : w'.cell? ⟨gb383, 5, none⟩ = some (.int .i64 a1_5) := (blk_cell BK383.out 5).trans rfl
   have hc6_ : w'.cell? ⟨gb383, 6, none⟩ = some (.int .i64 a1_6) := (blk_cell BK383.out 6).trans rfl
   have hc7_ : w'.cell? ⟨gb383, 7, none⟩ = some (.int .i64 a1_7) := (blk_cell BK383.out 7).trans rfl
   have hc8_ : w'.cell? ⟨gb383, 8, none⟩ = some (.int .i64 a1_8) := (blk_cell BK383.out 8).trans rfl
   have hc9_ : w'.cell? ⟨gb383, 9, none⟩ = some (.int .i64 a1_9) := (blk_cell BK383.out 9).trans rfl
   have hc10_ : w'.cell? ⟨gb383, 10, none⟩ = some (.int .i64 a1_10) := (blk_cell BK383.out 10).trans rfl
   have hc11_ : w'.cell? ⟨gb383, 11, none⟩ = some (.int .i64 a1_11) := (blk_cell BK383.out 11).trans rfl
   have hc12_ : w'.cell? ⟨gb383, 12, none⟩ = some (.int .i64 a1_12) := (blk_cell BK383.out 12).trans rfl
   have hc13_ : w'.cell? ⟨gb383, 13, none⟩ = some (.int .i64 a1_13) := (blk_cell BK383.out 13).trans rfl
   refine value_ (w1 := w') (v := .int .i64 a1_11) (by rfl) rfl ?_ ?_
   ·go_simp
    (try simp only [i64_w])
    try rfl
   refine hK.out _ _ ⟨v385, v388, v391, v394, v397, v400, v403, v406, m32_, (by rw [ha.out]; exact putSel_upk 9 hb_ rfl rfl rfl), Q_BK383, Q_HB, Q_HO386, Q_HO389, Q_HO392, fun h0_ _ => absurd ((hoff 21 (by kernel_rfl)).symm.trans h0_) (by decide), Q_HO398, Q_HO401, fun h0_ => absurd ((hoff 30 (by kernel_rfl)).symm.trans h0_) (by decide), fun h0_ => absurd ((hoff 31 (by kernel_rfl)).symm.trans h0_) (by decide), fun h0_ => absurd ((hoff 32 (by kernel_rfl)).symm.trans h0_) (by decide)⟩
  refine steps_cons ?_ ?_
  ·rintro b a w' ⟨v385, v388, v391, v394, v397, v400, v403, v406, m32_, ha, Q_BK383, Q_HB, Q_HO386, Q_HO389, Q_HO392, Q_HO395, Q_HO398, Q_HO401, Q_HO404, Q_HO407, Q_X32_⟩ hb_ hon hoff
   refine ⟨_, rfl, fun K hK => ?_⟩
   have e28 : a.tmps[28]? = some (.int .i64 a1_11) := by rw [ha]; exact putSel_on (e := (19, 28, .int .i64 a1_11)) 9 rfl rfl (hon 19 (by kernel_rfl)) rfl
   replace ha := Gv.a0 ha
   have BK383 := Gv.a0 Q_BK383
   have HB := Gv.a0 Q_HB
   refine value_ (w1 := w') (v := .int .u8 ((a1_11) % 256)) (by rfl) rfl ?_ ?_
   ·go_simp
    (try simp only [i64_w])
    try rfl
   refine hK.out _ _ ⟨v385, v388, v391, v394, v397, v400, v403, v406, m32_, (by rw [ha.out]; exact putSel_upk 10 hb_ rfl rfl rfl), Q_BK383, Q_HB, Q_HO386, Q_HO389, Q_HO392, fun h0_ _ => absurd ((hoff 21 (by kernel_rfl)).symm.trans h0_) (by decide), Q_HO398, Q_HO401, fun h0_ => absurd ((hoff 30 (by kernel_rfl)).symm.trans h0_) (by decide), fun h0_ => absurd ((hoff 31 (by kernel_rfl)).symm.trans h0_) (by decide), fun h0_ => absurd ((hoff 32 (by kernel_rfl)).symm.trans h0_) (by decide)⟩
  refine steps_cons ?_ ?_
  ·rintro b a w' ⟨v385, v388, v391, v394, v397, v400, v403, v406, m32_, ha, Q_BK383, Q_HB, Q_HO386, Q_HO389, Q_HO392, Q_HO395, Q_HO398, Q_HO401, Q_HO404, Q_HO407, Q_X32_⟩ hb_ hon hoff
   refine ⟨_, rfl, fun K hK => ?_⟩
   have e29 : a.tmps[29]? = some (.int .u8 ((a1_11) % 256)) := by rw [ha]; exact putSel_on (e := (20, 29, .int .u8 ((a1_11) % 256))) 10 rfl rfl (hon 20 (by kernel_rfl)) rfl
   replace ha := Gv.a0 ha
   have BK383 := Gv.a0 Q_BK383
   have HB := Gv.a0 Q_HB
   refine Kd.R_lit_step (Kd.int .u8) _ 5 ?hg (N := 30) ?hd (xs := ([(a1_11) % 256] : List Int)) (inner := [.int .u8 ((a1_11) % 256)]) (ok := fun _ => True) (okp := fun _ => True) ?hr ?hp (fun _ hk => hk) trivial (Below.refl _ _) (Nat.le_refl _) (by simp) ?_; (case hd => rfl); (case hg => rfl); (case hr => first | (go_simp; done) | (go_simp; rfl)); (case hp => exact (Reps.one (show Kd.M (Kd.int .u8) _ _ _ ((a1_11) % 256) [.int .u8 ((a1_11) % 256)] from rfl) (Reps.none _ _)))
   intro v394 w10 ho11 hb hg_ hnew_
   clear hg_ hnew_
   (first | rw [← Ny393.out] at ho11 | (simp only [Int.reduceToNat] at ho11; rw [← Ny393.out] at ho11))
   have n0_ := Gv.a0 (Kd.R_lower ho11 (below_size Gv.bw))
   have n1_ := Gv.a0 (Gv.bb BK383.out hb)
   have n2_ := Gv.a0 (below_step Gv.bw hb)
   have z_HO386 := fun (h0_ : b 8 = true) (h1_ : b 30 = false) => (show Kd.R (Kd.int .u8) 5 w10 w.heap.size (fun _ => True) v385 y384 from by first | exact (Kd.R_elder' (by (with_reducible repeat (first | apply Kd.R_alloc | apply Kd.R_drewN | apply Kd.R_drew)); exact (Q_HO386 h0_ h1_)) (Kd.R_base ho11) hb) | exact Kd.R_mono (Kd.R_elder' (by (with_reducible repeat (first | apply Kd.R_alloc | apply Kd.R_drewN | apply Kd.R_drew)); exact (Q_HO386 h0_ h1_)) (Kd.R_base ho11) hb) (fun _ h_ => by first | trivial | exact h_ | exact h_.1))
   have z_HO389 := fun (h0_ : b 12 = true) (h1_ : b 30 = false) => (show Kd.R (Kd.int .u8) 5 w10 w.heap.size (fun _ => True) v388 t387 from by first | exact (Kd.R_elder' (by (with_reducible repeat (first | apply Kd.R_alloc | apply Kd.R_drewN | apply Kd.R_drew)); exact (Q_HO389 h0_ h1_)) (Kd.R_base ho11) hb) | exact Kd.R_mono (Kd.R_elder' (by (with_reducible repeat (first | apply Kd.R_alloc | apply Kd.R_drewN | apply Kd.R_drew)); exact (Q_HO389 h0_ h1_)) (Kd.R_base ho11) hb) (fun _ h_ => by first | trivial | exact h_ | exact h_.1))
   have z_HO392 := fun (h0_ : b 16 = true) (h1_ : b 30 = false) => (show Kd.R (Kd.int .u8) 5 w10 w.heap.size (fun _ => True) v391 t390 from by first | exact (Kd.R_elder' (by (with_reducible repeat (first | apply Kd.R_alloc | apply Kd.R_drewN | apply Kd.R_drew)); exact (Q_HO392 h0_ h1_)) (Kd.R_base ho11) hb) | exact Kd.R_mono (Kd.R_elder' (by (with_reducible repeat (first | apply Kd.R_alloc | apply Kd.R_drewN | apply Kd.R_drew)); exact (Q_HO392 h0_ h1_)) (Kd.R_base ho11) hb) (fun _ h_ => by first | trivial | exact h_ | exact h_.1))
   have z_HO398 := fun (h0_ : b 25 = true) (h1_ : b 30 = false) => (show Kd.R (Kd.int .u8) 5 w10 w.heap.size (fun _ => True) v397 t396 from by first | exact (Kd.R_elder' (by (with_reducible repeat (first | apply Kd.R_alloc | apply Kd.R_drewN | apply Kd.R_drew)); exact (Q_HO398 h0_ h1_)) (Kd.R_base ho11) hb) | exact Kd.R_mono (Kd.R_elder' (by (with_reducible repeat (first | apply Kd.R_alloc | apply Kd.R_drewN | apply Kd.R_drew)); exact (Q_HO398 h0_ h1_)) (Kd.R_base ho11) hb) (fun _ h_ => by first | trivial | exact h_ | exact h_.1))
   have z_HO401 := fun (h0_ : b 29 = true) (h1_ : b 30 = false) => (show Kd.R (Kd.int .u8) 5 w10 w.heap.size (fun _ => True) v400 t399 from by first | exact (Kd.R_elder' (by (with_reducible repeat (first | apply Kd.R_alloc | apply Kd.R_drewN | apply Kd.R_drew)); exact (Q_HO401 h0_ h1_)) (Kd.R_base ho11) hb) | exact Kd.R_mono (Kd.R_elder' (by (with_reducible repeat (first | apply Kd.R_alloc | apply Kd.R_drewN | apply Kd.R_drew)); exact (Q_HO401 h0_ h1_)) (Kd.R_base ho11) hb) (fun _ h_ => by first | trivial | exact h_ | exact h_.1))
   clear BK383
   clear HB
   have HO395 := n0_
   have BK383 := n1_
   have HB := n2_
   clear n0_ n1_ n2_
   clear hb ho11
   refine hK.out _ _ ⟨v385, v388, v391, v394, v397, v400, v403, v406, m32_, (by rw [ha.out]; exact putSel_upk 11 hb_ rfl rfl rfl), Gv.bk, Gv.bw, z_HO386, z_HO389, z_HO392, fun _ _ => (by (with_reducible repeat (first | apply Kd.R_alloc | apply Kd.R_drewN | apply Kd.R_drew)); first | exact HO395.out | exact Kd.R_mono HO395.out (fun _ hk => by first | exact hk.2 | trivial | exact ⟨hk.1.2, hk.2⟩ | exact ⟨trivial, hk.2⟩ | exact hk.1.2 | exact hk | exact ⟨trivial, hk⟩ | exact hk.1 | (simp only [true_and, and_true] at hk ⊢; first | exact hk | exact hk.2 | exact hk.1 | exact ⟨hk.2, hk.1⟩ | omega | (constructor <;> first | exact hk.1 | exact hk.2 | exact hk.1.1 | exact hk.1.2 | exact hk.2.1 | exact hk.2.2)))), z_HO398, z_HO401, fun h0_ => absurd ((hoff 30 (by kernel_rfl)).symm.trans h0_) (by decide), fun h0_ => absurd ((hoff 31 (by kernel_rfl)).symm.trans h0_) (by decide), fun h0_ => absurd ((hoff 32 (by kernel_rfl)).symm.trans h0_) (by decide)⟩
  refine steps_cons ?_ ?_
  ·rintro b a w' ⟨v385, v388, v391, v394, v397, v400, v403, v406, m32_, ha, Q_BK383, Q_HB, Q_HO386, Q_HO389, Q_HO392, Q_HO395, Q_HO398, Q_HO401, Q_HO404, Q_HO407, Q_X32_⟩ hb_ hon hoff
   refine ⟨_, rfl, fun K hK => ?_⟩
   have e32 : a.tmps[32]? = some (.pointer (some ⟨gb383, 12, none⟩)) := by rw [ha]; exact (putSel_off rfl).trans rfl
   replace ha := Gv.a0 ha
   have BK383 := Gv.a0 Q_BK383
   have HB := Gv.a0 Q_HB
   have hc0_ : w'.cell? ⟨gb383, 0, none⟩ = some (.int .i64 a1_0) := (blk_cell BK383.out 0).trans rfl
   have hc1_ : w'.cell? ⟨gb383, 1, none⟩ = some (.int .i64 a1_1) := (blk_cell BK383.out 1).trans rfl
   have hc2_ : w'.cell? ⟨gb383, 2, none⟩ = some (.int .i64 a1_2) := (blk_cell BK383.out 2).trans rfl
   have hc3_ : w'.cell? ⟨gb383, 3, none⟩ = some (.int .i64 a1_3) := (blk_cell BK383.out 3).trans rfl
   have hc4_ : w'.cell? ⟨gb383, 4, none⟩ = some (.int .i64 a1_4) := (blk_cell BK383.out 4).trans rfl
   have hc5_ : w'.cell? ⟨gb383, 5, none⟩ = some (.int .i64 a1_5) := (blk_cell BK383.out 5).trans rfl
   have hc6_ : w'.cell? ⟨gb383, 6, none⟩ = some (.int .i64 a1_6) := (blk_cell BK383.out 6).trans rfl
   have hc7_ : w'.cell? ⟨gb383, 7, none⟩ = some (.int .i64 a1_7) := (blk_cell BK383.out 7).trans rfl
   have hc8_ : w'.cell? ⟨gb383, 8, none⟩ = some (.int .i64 a1_8) := (blk_cell BK383.out 8).trans rfl
   have hc9_ : w'.cell? ⟨gb383, 9, none⟩ = some (.int .i64 a1_9) := (blk_cell BK383.out 9).trans rfl
   have hc10_ : w'.cell? ⟨gb383, 10, none⟩ = some (.int .i64 a1_10) := (blk_cell BK383.out 10).trans rfl
   have hc11_ : w'.cell? ⟨gb383, 11, none⟩ = some (.int .i64 a1_11) := (blk_cell BK383.out 11).trans rfl
   have hc12_ : w'.cell? ⟨gb383, 12, none⟩ = some (.int .i64 a1_12) := (blk_cell BK383.out 12).trans rfl
   have hc13_ : w'.cell? ⟨gb383, 13, none⟩ = some (.int .i64 a1_13) := (blk_cell BK383.out 13).trans rfl
   refine value_ (w1 := w') (v := .int .i64 a1_12) (by rfl) rfl ?_ ?_
   ·go_simp
    (try simp only [i64_w])
    try rfl
   refine hK.out _ _ ⟨v385, v388, v391, v394, v397, v400, v403, v406, m32_, (by rw [ha.out]; exact putSel_upk 12 hb_ rfl rfl rfl), Q_BK383, Q_HB, Q_HO386, Q_HO389, Q_HO392, Q_HO395, fun h0_ _ => absurd ((hoff 25 (by kernel_rfl)).symm.trans h0_) (by decide), fun h0_ _ => absurd ((hoff 29 (by kernel_rfl)).symm.trans h0_) (by decide), fun h0_ => absurd ((hoff 30 (by kernel_rfl)).symm.trans h0_) (by decide), fun h0_ => absurd ((hoff 31 (by kernel_rfl)).symm.trans h0_) (by decide), fun h0_ => absurd ((hoff 32 (by kernel_rfl)).symm.trans h0_) (by decide)⟩
  refine steps_cons ?_ ?_
  ·rintro b a w' ⟨v385, v388, v391, v394, v397, v400, v403, v406, m32_, ha, Q_BK383, Q_HB, Q_HO386, Q_HO389, Q_HO392, Q_HO395, Q_HO398, Q_HO401, Q_HO404, Q_HO407, Q_X32_⟩ hb_ hon hoff
   refine ⟨_, rfl, fun K hK => ?_⟩
   have e33 : a.tmps[33]? = some (.int .i64 a1_12) := by rw [ha]; exact putSel_on (e := (24, 33, .int .i64 a1_12)) 12 rfl rfl (hon 24 (by kernel_rfl)) rfl
   replace ha := Gv.a0 ha
   have BK383 := Gv.a0 Q_BK383
   have HB := Gv.a0 Q_HB
   have HO389 := Gv.a0 (Q_HO389 (hon 12 (by kernel_rfl)) (hoff 30 (by kernel_rfl)))
   have HO392 := Gv.a0 (Q_HO392 (hon 16 (by kernel_rfl)) (hoff 30 (by kernel_rfl)))
   refine goes_ Try.func75 (by kernel_rfl) rfl #[.int .i64 a1_12] (by rfl) rfl rfl (by first | (simp only [List.map_toArray, List.map_cons, List.map_nil, Act.eval, Array.getD_eq_getD_getElem?, Option.getD_some, e33]; done) | (simp only [List.map_toArray, List.map_cons, List.map_nil, Act.eval, Array.getD_eq_getD_getElem?, Option.getD_some, e33]; rfl)) ?_
   with_reducible refine (impl_Put16.calls k a1_12 t396 _ A5.out).mono ?_
   rintro e w13 ⟨v397, rfl, ho0, hb⟩
   refine ⟨_, rfl, ?_⟩
   have n0_ := Gv.a0 (Kd.R_elder' (Gv.kr HO389.out) (Kd.R_base ho0) hb)
   have n1_ := Gv.a0 (Kd.R_elder' (Gv.kr HO392.out) (Kd.R_base ho0) hb)
   have n2_ := Gv.a0 (Kd.R_lower (Kd.R_new' (Kd.R_new' ho0 (Kd.R_lt (Gv.kr HO389.out))) (Kd.R_lt (Gv.kr HO392.out))) (below_size Gv.bw))
   have n3_ := Gv.a0 (Gv.bb BK383.out hb)
   have n4_ := Gv.a0 (below_step Gv.bw hb)
   have z_HO386 := fun (h0_ : b 8 = true) (h1_ : b 30 = false) => (show Kd.R (Kd.int .u8) 5 w13 w.heap.size (fun _ => True) v385 y384 from by first | exact (Kd.R_elder' (by (with_reducible repeat (first | apply Kd.R_alloc | apply Kd.R_drewN | apply Kd.R_drew)); exact (Q_HO386 h0_ h1_)) (Kd.R_base ho0) hb) | exact Kd.R_mono (Kd.R_elder' (by (with_reducible repeat (first | apply Kd.R_alloc | apply Kd.R_drewN | apply Kd.R_drew)); exact (Q_HO386 h0_ h1_)) (Kd.R_base ho0) hb) (fun _ h_ => by first | trivial | exact h_ | exact h_.1))
   have z_HO395 := fun (h0_ : b 21 = true) (h1_ : b 30 = false) => (show Kd.R (Kd.int .u8) 5 w13 w.heap.size (fun _ => True) v394 y393 from by first | exact (Kd.R_elder' (by (with_reducible repeat (first | apply Kd.R_alloc | apply Kd.R_drewN | apply Kd.R_drew)); exact (Q_HO395 h0_ h1_)) (Kd.R_base ho0) hb) | exact Kd.R_mono (Kd.R_elder' (by (with_reducible repeat (first | apply Kd.R_alloc | apply Kd.R_drewN | apply Kd.R_drew)); exact (Q_HO395 h0_ h1_)) (Kd.R_base ho0) hb) (fun _ h_ => by first | trivial | exact h_ | exact h_.1))
   clear HO389
   clear HO392
   clear BK383
   clear HB
   have HO389 := n0_
   have HO392 := n1_
   have HO398 := n2_
   have BK383 := n3_
   have HB := n4_
   clear n0_ n1_ n2_ n3_ n4_
   (try clear hb)
   (try clear hb2)
   (try clear hk)
   (try clear hi)
   (try clear ho0)
   refine hK.out _ _ ⟨v385, v388, v391, v394, v397, v400, v403, v406, m32_, (by rw [ha.out]; exact putSel_upk 13 hb_ rfl rfl rfl), Gv.bk, Gv.bw, z_HO386, fun _ _ => (by (with_reducible repeat (first | apply Kd.R_alloc | apply Kd.R_drewN | apply Kd.R_drew)); first | exact HO389.out | exact Kd.R_mono HO389.out (fun _ hk => by first | exact hk.2 | trivial | exact ⟨hk.1.2, hk.2⟩ | exact ⟨trivial, hk.2⟩ | exact hk.1.2 | exact hk | exact ⟨trivial, hk⟩ | exact hk.1 | (simp only [true_and, and_true] at hk ⊢; first | exact hk | exact hk.2 | exact hk.1 | exact ⟨hk.2, hk.1⟩ | omega | (constructor <;> first | exact hk.1 | exact hk.2 | exact hk.1.1 | exact hk.1.2 | exact hk.2.1 | exact hk.2.2)))), fun _ _ => (by (with_reducible repeat (first | apply Kd.R_alloc | apply Kd.R_drewN | apply Kd.R_drew)); first | exact HO392.out | exact Kd.R_mono HO392.out (fun _ hk => by first | exact hk.2 | trivial | exact ⟨hk.1.2, hk.2⟩ | exact ⟨trivial, hk.2⟩ | exact hk.1.2 | exact hk | exact ⟨trivial, hk⟩ | exact hk.1 | (simp only [true_and, and_true] at hk ⊢; first | exact hk | exact hk.2 | exact hk.1 | exact ⟨hk.2, hk.1⟩ | omega | (constructor <;> first | exact hk.1 | exact hk.2 | exact hk.1.1 | exact hk.1.2 | exact hk.2.1 | exact hk.2.2)))), z_HO395, fun _ _ => (by (with_reducible repeat (first | apply Kd.R_alloc | apply Kd.R_drewN | apply Kd.R_drew)); exact Kd.R_mono HO398.out (fun _ hk => by first | exact hk.2 | trivial | exact ⟨hk.1.2, hk.2⟩ | exact ⟨trivial, hk.2⟩ | exact hk.1.2 | exact hk | exact ⟨trivial, hk⟩ | exact hk.1 | (simp only [true_and, and_true] at hk ⊢; first | exact hk | exact hk.2 | exact hk.1 | exact ⟨hk.2, hk.1⟩ | omega | (constructor <;> first | exact hk.1 | exact hk.2 | exact hk.1.1 | exact hk.1.2 | exact hk.2.1 | exact hk.2.2)))), fun h0_ _ => absurd ((hoff 29 (by kernel_rfl)).symm.trans h0_) (by decide), fun h0_ => absurd ((hoff 30 (by kernel_rfl)).symm.trans h0_) (by decide), fun h0_ => absurd ((hoff 31 (by kernel_rfl)).symm.trans h0_) (by decide), fun h0_ => absurd ((hoff 32 (by kernel_rfl)).symm.trans h0_) (by decide)⟩
  refine steps_cons ?_ ?_
  ·rintro b a w' ⟨v385, v388, v391, v394, v397, v400, v403, v406, m32_, ha, Q_BK383, Q_HB, Q_HO386, Q_HO389, Q_HO392, Q_HO395, Q_HO398, Q_HO401, Q_HO404, Q_HO407, Q_X32_⟩ hb_ hon hoff
   refine ⟨_, rfl, fun K hK => ?_⟩
   have e36 : a.tmps[36]? = some (.pointer (some ⟨gb383, 13, none⟩)) := by rw [ha]; exact (putSel_off rfl).trans rfl
   replace ha := Gv.a0 ha
   have BK383 := Gv.a0 Q_BK383
   have HB := Gv.a0 Q_HB
   have hc0_ : w'.cell? ⟨gb383, 0, none⟩ = some (.int .i64 a1_0) := (blk_cell BK383.out 0).trans rfl
   have hc1_ : w'.cell? ⟨gb383, 1, none⟩ = some (.int .i64 a1_1) := (blk_cell BK383.out 1).trans rfl
   have hc2_ : w'.cell? ⟨gb383, 2, none⟩ = some (.int .i64 a1_2) := (blk_cell BK383.out 2).trans rfl
   have hc3_ : w'.cell? ⟨gb383, 3, none⟩ = some (.int .i64 a1_3) := (blk_cell BK383.out 3).trans rfl
   have hc4_ : w'.cell? ⟨gb383, 4, none⟩ = some (.int .i64 a1_4) := (blk_cell BK383.out 4).trans rfl
   have hc5_ : w'.cell? ⟨gb383, 5, none⟩ = some (.int .i64 a1_5) := (blk_cell BK383.out 5).trans rfl
   have hc6_ : w'.cell? ⟨gb383, 6, none⟩ = some (.int .i64 a1_6) := (blk_cell BK383.out 6).trans rfl
   have hc7_ : w'.cell? ⟨gb383, 7, none⟩ = some (.int .i64 a1_7) := (blk_cell BK383.out 7).trans rfl
   have hc8_ : w'.cell? ⟨gb383, 8, none⟩ = some (.int .i64 a1_8) := (blk_cell BK383.out 8).trans rfl
   have hc9_ : w'.cell? ⟨gb383, 9, none⟩ = some (.int .i64 a1_9) := (blk_cell BK383.out 9).trans rfl
   have hc10_ : w'.cell? ⟨gb383, 10, none⟩ = some (.int .i64 a1_10) := (blk_cell BK383.out 10).trans rfl
   have hc11_ : w'.cell? ⟨gb383, 11, none⟩ = some (.int .i64 a1_11) := (blk_cell BK383.out 11).trans rfl
   have hc12_ : w'.cell? ⟨gb383, 12, none⟩ = some (.int .i64 a1_12) := (blk_cell BK383.out 12).trans rfl
   have hc13_ : w'.cell? ⟨gb383, 13, none⟩ = some (.int .i64 a1_13) := (blk_cell BK383.out 13).trans rfl
   refine value_ (w1 := w') (v := .int .i64 a1_13) (by rfl) rfl ?_ ?_
   ·go_simp
    (try simp only [i64_w])
    try rfl
   refine hK.out _ _ ⟨v385, v388, v391, v394, v397, v400, v403, v406, m32_, (by rw [ha.out]; exact putSel_upk 14 hb_ rfl rfl rfl), Q_BK383, Q_HB, Q_HO386, Q_HO389, Q_HO392, Q_HO395, Q_HO398, fun h0_ _ => absurd ((hoff 29 (by kernel_rfl)).symm.trans h0_) (by decide), fun h0_ => absurd ((hoff 30 (by kernel_rfl)).symm.trans h0_) (by decide), fun h0_ => absurd ((hoff 31 (by kernel_rfl)).symm.trans h0_) (by decide), fun h0_ => absurd ((hoff 32 (by kernel_rfl)).symm.trans h0_) (by decide)⟩
  refine steps_cons ?_ ?_
  ·rintro b a w' ⟨v385, v388, v391, v394, v397, v400, v403, v406, m32_, ha, Q_BK383, Q_HB, Q_HO386, Q_HO389, Q_HO392, Q_HO395, Q_HO398, Q_HO401, Q_HO404, Q_HO407, Q_X32_⟩ hb_ hon hoff
   refine ⟨_, rfl, fun K hK => ?_⟩
   have e37 : a.tmps[37]? = some (.int .i64 a1_13) := by rw [ha]; exact putSel_on (e := (28, 37, .int .i64 a1_13)) 14 rfl rfl (hon 28 (by kernel_rfl)) rfl
   replace ha := Gv.a0 ha
   have BK383 := Gv.a0 Q_BK383
   have HB := Gv.a0 Q_HB
   have HO389 := Gv.a0 (Q_HO389 (hon 12 (by kernel_rfl)) (hoff 30 (by kernel_rfl)))
   have HO392 := Gv.a0 (Q_HO392 (hon 16 (by kernel_rfl)) (hoff 30 (by kernel_rfl)))
   have HO398 := Gv.a0 (Q_HO398 (hon 25 (by kernel_rfl)) (hoff 30 (by kernel_rfl)))
   refine goes_ Try.func75 (by kernel_rfl) rfl #[.int .i64 a1_13] (by rfl) rfl rfl (by first | (simp only [List.map_toArray, List.map_cons, List.map_nil, Act.eval, Array.getD_eq_getD_getElem?, Option.getD_some, e37]; done) | (simp only [List.map_toArray, List.map_cons, List.map_nil, Act.eval, Array.getD_eq_getD_getElem?, Option.getD_some, e37]; rfl)) ?_
   with_reducible refine (impl_Put16.calls k a1_13 t399 _ A6.out).mono ?_
   rintro e w14 ⟨v400, rfl, ho0, hb⟩
   refine ⟨_, rfl, ?_⟩
   have n0_ := Gv.a0 (Kd.R_elder' (Gv.kr HO389.out) (Kd.R_base ho0) hb)
   have n1_ := Gv.a0 (Kd.R_elder' (Gv.kr HO392.out) (Kd.R_base ho0) hb)
   have n2_ := Gv.a0 (Kd.R_elder' (Gv.kr HO398.out) (Kd.R_base ho0) hb)
   have n3_ := Gv.a0 (Kd.R_lower (Kd.R_new' (Kd.R_new' (Kd.R_new' ho0 (Kd.R_lt (Gv.kr HO389.out))) (Kd.R_lt (Gv.kr HO392.out))) (Kd.R_lt (Gv.kr HO398.out))) (below_size Gv.bw))
   have n4_ := Gv.a0 (Gv.bb BK383.out hb)
   have n5_ := Gv.a0 (below_step Gv.bw hb)
   have z_HO386 := fun (h0_ : b 8 = true) (h1_ : b 30 = false) => (show Kd.R (Kd.int .u8) 5 w14 w.heap.size (fun _ => True) v385 y384 from by first | exact (Kd.R_elder' (by (with_reducible repeat (first | apply Kd.R_alloc | apply Kd.R_drewN | apply Kd.R_drew)); exact (Q_HO386 h0_ h1_)) (Kd.R_base ho0) hb) | exact Kd.R_mono (Kd.R_elder' (by (with_reducible repeat (first | apply Kd.R_alloc | apply Kd.R_drewN | apply Kd.R_drew)); exact (Q_HO386 h0_ h1_)) (Kd.R_base ho0) hb) (fun _ h_ => by first | trivial | exact h_ | exact h_.1))
   have z_HO395 := fun (h0_ : b 21 = true) (h1_ : b 30 = false) => (show Kd.R (Kd.int .u8) 5 w14 w.heap.size (fun _ => True) v394 y393 from by first | exact (Kd.R_elder' (by (with_reducible repeat (first | apply Kd.R_alloc | apply Kd.R_drewN | apply Kd.R_drew)); exact (Q_HO395 h0_ h1_)) (Kd.R_base ho0) hb) | exact Kd.R_mono (Kd.R_elder' (by (with_reducible repeat (first | apply Kd.R_alloc | apply Kd.R_drewN | apply Kd.R_drew)); exact (Q_HO395 h0_ h1_)) (Kd.R_base ho0) hb) (fun _ h_ => by first | trivial | exact h_ | exact h_.1))
   clear HO389
   clear HO392
   clear HO398
   clear BK383
   clear HB
   have HO389 := n0_
   have HO392 := n1_
   have HO398 := n2_
   have HO401 := n3_
   have BK383 := n4_
   have HB := n5_
   clear n0_ n1_ n2_ n3_ n4_ n5_
   (try clear hb)
   (try clear hb2)
   (try clear hk)
   (try clear hi)
   (try clear ho0)
   refine hK.out _ _ ⟨v385, v388, v391, v394, v397, v400, v403, v406, m32_, (by rw [ha.out]; exact putSel_upk 15 hb_ rfl rfl rfl), Gv.bk, Gv.bw, z_HO386, fun _ _ => (by (with_reducible repeat (first | apply Kd.R_alloc | apply Kd.R_drewN | apply Kd.R_drew)); exact Kd.R_mono HO389.out (fun _ hk => by first | exact hk.2 | trivial | exact ⟨hk.1.2, hk.2⟩ | exact ⟨trivial, hk.2⟩ | exact hk.1.2 | exact hk | exact ⟨trivial, hk⟩ | exact hk.1 | (simp only [true_and, and_true] at hk ⊢; first | exact hk | exact hk.2 | exact hk.1 | exact ⟨hk.2, hk.1⟩ | omega | (constructor <;> first | exact hk.1 | exact hk.2 | exact hk.1.1 | exact hk.1.2 | exact hk.2.1 | exact hk.2.2)))), fun _ _ => (by (with_reducible repeat (first | apply Kd.R_alloc | apply Kd.R_drewN | apply Kd.R_drew)); exact Kd.R_mono HO392.out (fun _ hk => by first | exact hk.2 | trivial | exact ⟨hk.1.2, hk.2⟩ | exact ⟨trivial, hk.2⟩ | exact hk.1.2 | exact hk | exact ⟨trivial, hk⟩ | exact hk.1 | (simp only [true_and, and_true] at hk ⊢; first | exact hk | exact hk.2 | exact hk.1 | exact ⟨hk.2, hk.1⟩ | omega | (constructor <;> first | exact hk.1 | exact hk.2 | exact hk.1.1 | exact hk.1.2 | exact hk.2.1 | exact hk.2.2)))), z_HO395, fun _ _ => (by (with_reducible repeat (first | apply Kd.R_alloc | apply Kd.R_drewN | apply Kd.R_drew)); exact Kd.R_mono HO398.out (fun _ hk => by first | exact hk.2 | trivial | exact ⟨hk.1.2, hk.2⟩ | exact ⟨trivial, hk.2⟩ | exact hk.1.2 | exact hk | exact ⟨trivial, hk⟩ | exact hk.1 | (simp only [true_and, and_true] at hk ⊢; first | exact hk | exact hk.2 | exact hk.1 | exact ⟨hk.2, hk.1⟩ | omega | (constructor <;> first | exact hk.1 | exact hk.2 | exact hk.1.1 | exact hk.1.2 | exact hk.2.1 | exact hk.2.2)))), fun _ _ => (by (with_reducible repeat (first | apply Kd.R_alloc | apply Kd.R_drewN | apply Kd.R_drew)); exact Kd.R_mono HO401.out (fun _ hk => by first | exact hk.2 | trivial | exact ⟨hk.1.2, hk.2⟩ | exact ⟨trivial, hk.2⟩ | exact hk.1.2 | exact hk | exact ⟨trivial, hk⟩ | exact hk.1 | (simp only [true_and, and_true] at hk ⊢; first | exact hk | exact hk.2 | exact hk.1 | exact ⟨hk.2, hk.1⟩ | omega | (constructor <;> first | exact hk.1 | exact hk.2 | exact hk.1.1 | exact hk.1.2 | exact hk.2.1 | exact hk.2.2)))), fun h0_ => absurd ((hoff 30 (by kernel_rfl)).symm.trans h0_) (by decide), fun h0_ => absurd ((hoff 31 (by kernel_rfl)).symm.trans h0_) (by decide), fun h0_ => absurd ((hoff 32 (by kernel_rfl)).symm.trans h0_) (by decide)⟩
  refine steps_cons ?_ ?_
  ·rintro b a w' ⟨v385, v388, v391, v394, v397, v400, v403, v406, m32_, ha, Q_BK383, Q_HB, Q_HO386, Q_HO389, Q_HO392, Q_HO395, Q_HO398, Q_HO401, Q_HO404, Q_HO407, Q_X32_⟩ hb_ hon hoff
   refine ⟨_, rfl, fun K hK => ?_⟩
   have e17 : a.tmps[17]? = some (v385) := by rw [ha]; exact putSel_on (e := (8, 17, v385)) 4 rfl rfl (hon 8 (by kernel_rfl)) rfl
   have e21 : a.tmps[21]? = some (v388) := by rw [ha]; exact putSel_on (e := (12, 21, v388)) 6 rfl rfl (hon 12 (by kernel_rfl)) rfl
   have e25 : a.tmps[25]? = some (v391) := by rw [ha]; exact putSel_on (e := (16, 25, v391)) 8 rfl rfl (hon 16 (by kernel_rfl)) rfl
   have e30 : a.tmps[30]? = some (v394) := by rw [ha]; exact putSel_on (e := (21, 30, v394)) 11 rfl rfl (hon 21 (by kernel_rfl)) rfl
   have e34 : a.tmps[34]? = some (v397) := by rw [ha]; exact putSel_on (e := (25, 34, v397)) 13 rfl rfl (hon 25 (by kernel_rfl)) rfl
   have e38 : a.tmps[38]? = some (v400) := by rw [ha]; exact putSel_on (e := (29, 38, v400)) 15 rfl rfl (hon 29 (by kernel_rfl)) rfl
   replace ha := Gv.a0 ha
   have BK383 := Gv.a0 Q_BK383
   have HB := Gv.a0 Q_HB
   have HO386 := Gv.a0 (Q_HO386 (hon 8 (by kernel_rfl)) hb_)
   have HO389 := Gv.a0 (Q_HO389 (hon 12 (by kernel_rfl)) hb_)
   have HO392 := Gv.a0 (Q_HO392 (hon 16 (by kernel_rfl)) hb_)
   have HO395 := Gv.a0 (Q_HO395 (hon 21 (by kernel_rfl)) hb_)
   have HO398 := Gv.a0 (Q_HO398 (hon 25 (by kernel_rfl)) hb_)
   have HO401 := Gv.a0 (Q_HO401 (hon 29 (by kernel_rfl)) hb_)
   obtain ⟨Ao19, co19, eo19⟩ := Kd.R_slice HO386.out
   (first | subst eo19 | (injection eo19 with f1_ f2_ f3_; have f4_ := f1_.symm; have f5_ := f3_.symm; clear f1_ f2_ f3_; subst f4_; subst f5_))
   obtain ⟨Ao20, co20, eo20⟩ := Kd.R_slice HO389.out
   (first | subst eo20 | (injection eo20 with f1_ f2_ f3_; have f4_ := f1_.symm; have f5_ := f3_.symm; clear f1_ f2_ f3_; subst f4_; subst f5_))
   obtain ⟨Ao21, co21, eo21⟩ := Kd.R_slice HO392.out
   (first | subst eo21 | (injection eo21 with f1_ f2_ f3_; have f4_ := f1_.symm; have f5_ := f3_.symm; clear f1_ f2_ f3_; subst f4_; subst f5_))
   obtain ⟨Ao22, co22, eo22⟩ := Kd.R_slice HO395.out
   (first | subst eo22 | (injection eo22 with f1_ f2_ f3_; have f4_ := f1_.symm; have f5_ := f3_.symm; clear f1_ f2_ f3_; subst f4_; subst f5_))
   obtain ⟨Ao23, co23, eo23⟩ := Kd.R_slice HO398.out
   (first | subst eo23 | (injection eo23 with f1_ f2_ f3_; have f4_ := f1_.symm; have f5_ := f3_.symm; clear f1_ f2_ f3_; subst f4_; subst f5_))
   obtain ⟨Ao24, co24, eo24⟩ := Kd.R_slice HO401.out
   (first | subst eo24 | (injection eo24 with f1_ f2_ f3_; have f4_ := f1_.symm; have f5_ := f3_.symm; clear f1_ f2_ f3_; subst f4_; subst f5_))
   refine Kd.N_lit_step (Kd.slice 5 (Kd.int .u8)) _ 68 ?hg (N' := 39) ?hd (xs := ([y384, t387, t390, y393, t396, t399] : List (List Int))) (inner := [.slice Ao19 y384.length co19, .slice Ao20 t387.length co20, .slice Ao21 t390.length co21, .slice Ao22 y393.length co22, .slice Ao23 t396.length co23, .slice Ao24 t399.length co24]) (ok := (fun k_ => k_ ≠ gb383)) (okp := (fun k_ => k_ ≠ gb383)) ?hr ?hp (fun _ hk => hk) ((show ∀ k_, w'.heap.size ≤ k_ → (fun k_ => k_ ≠ gb383) k_ from fun k_ hk => Kd.freshB (g := gb383) (o := .cells #[.int .i64 a1_0, .int .i64 a1_1, .int .i64 a1_2, .int .i64 a1_3, .int .i64 a1_4, .int .i64 a1_5, .int .i64 a1_6, .int .i64 a1_7, .int .i64 a1_8, .int .i64 a1_9, .int .i64 a1_10, .int .i64 a1_11, .int .i64 a1_12, .int .i64 a1_13] 33 (0, 0)) Gv.bk k_ hk) _ (Nat.le_refl _)) (Below.refl _ _) (Nat.le_refl _) (by simp) ?_; (case hd => rfl); (case hg => rfl); (case hr => first | (go_simp; done) | (go_simp; rfl)); (case hp => exact (Reps.one (show Kd.FK (Kd.slice 5 (Kd.int .u8)) _ _ y384 [.slice Ao19 y384.length co19] from (Kd.FK_slice_mk (Kd.R_reads' (Kd.R_mono (ok' := (fun k_ => k_ ≠ gb383)) (Kd.R_types (HO386.out) BK383.out (by decide)) (fun k_ hk => hk.2))).2.1 (Kd.R_F (Kd.R_mono (ok' := (fun k_ => k_ ≠ gb383)) (Kd.R_types (HO386.out) BK383.out (by decide)) (fun k_ hk => hk.2))))) (Reps.one (show Kd.FK (Kd.slice 5 (Kd.int .u8)) _ _ t387 [.slice Ao20 t387.length co20] from (Kd.FK_slice_mk (Kd.R_reads' (Kd.R_mono (ok' := (fun k_ => k_ ≠ gb383)) (Kd.R_types (HO389.out) BK383.out (by decide)) (fun k_ hk => hk.2))).2.1 (Kd.R_F (Kd.R_mono (ok' := (fun k_ => k_ ≠ gb383)) (Kd.R_types (HO389.out) BK383.out (by decide)) (fun k_ hk => hk.2))))) (Reps.one (show Kd.FK (Kd.slice 5 (Kd.int .u8)) _ _ t390 [.slice Ao21 t390.length co21] from (Kd.FK_slice_mk (Kd.R_reads' (Kd.R_mono (ok' := (fun k_ => k_ ≠ gb383)) (Kd.R_types (HO392.out) BK383.out (by decide)) (fun k_ hk => hk.2))).2.1 (Kd.R_F (Kd.R_mono (ok' := (fun k_ => k_ ≠ gb383)) (Kd.R_types (HO392.out) BK383.out (by decide)) (fun k_ hk => hk.2))))) (Reps.one (show Kd.FK (Kd.slice 5 (Kd.int .u8)) _ _ y393 [.slice Ao22 y393.length co22] from (Kd.FK_slice_mk (Kd.R_reads' (Kd.R_mono (ok' := (fun k_ => k_ ≠ gb383)) (Kd.R_types (HO395.out) BK383.out (by decide)) (fun k_ hk => hk.2))).2.1 (Kd.R_F (Kd.R_mono (ok' := (fun k_ => k_ ≠ gb383)) (Kd.R_types (HO395.out) BK383.out (by decide)) (fun k_ hk => hk.2))))) (Reps.one (show Kd.FK (Kd.slice 5 (Kd.int .u8)) _ _ t396 [.slice Ao23 t396.length co23] from (Kd.FK_slice_mk (Kd.R_reads' (Kd.R_mono (ok' := (fun k_ => k_ ≠ gb383)) (Kd.R_types (HO398.out) BK383.out (by decide)) (fun k_ hk => hk.2))).2.1 (Kd.R_F (Kd.R_mono (ok' := (fun k_ => k_ ≠ gb383)) (Kd.R_types (HO398.out) BK383.out (by decide)) (fun k_ hk => hk.2))))) (Reps.one (show Kd.FK (Kd.slice 5 (Kd.int .u8)) _ _ t399 [.slice Ao24 t399.length co24] from (Kd.FK_slice_mk (Kd.R_reads' (Kd.R_mono (ok' := (fun k_ => k_ ≠ gb383)) (Kd.R_types (HO401.out) BK383.out (by decide)) (fun k_ hk => hk.2))).2.1 (Kd.R_F (Kd.R_mono (ok' := (fun k_ => k_ ≠ gb383)) (Kd.R_types (HO401.out) BK383.out (by decide)) (fun k_ hk => hk.2))))) (Reps.none _ _))))))))
   intro v403 w25 ho26 hb hg_ hnew_
   clear hg_ hnew_
   (first | rw [← Ny402.out] at ho26 | (simp only [Int.reduceToNat] at ho26; rw [← Ny402.out] at ho26))
   have n0_ := Gv.a0 (Kd.N_lower ho26 (below_size Gv.bw))
   have n1_ := Gv.a0 (Gv.bb BK383.out hb)
   have n2_ := Gv.a0 (below_step Gv.bw hb)
   clear BK383
   clear HB
   clear HO386
   clear HO389
   clear HO392
   clear HO395
   clear HO398
   clear HO401
   have HO404 := n0_
   have BK383 := n1_
   have HB := n2_
   clear n0_ n1_ n2_
   clear hb ho26
   refine hK.out _ _ ⟨.slice Ao19 y384.length co19, .slice Ao20 t387.length co20, .slice Ao21 t390.length co21, .slice Ao22 y393.length co22, .slice Ao23 t396.length co23, .slice Ao24 t399.length co24, v403, v406, m32_, (by rw [ha.out]; exact putSel_upk 16 hb_ rfl rfl rfl), Gv.bk, Gv.bw, fun _ h1_ => absurd ((up_self b 30).symm.trans h1_) (by decide), fun _ h1_ => absurd ((up_self b 30).symm.trans h1_) (by decide), fun _ h1_ => absurd ((up_self b 30).symm.trans h1_) (by decide), fun _ h1_ => absurd ((up_self b 30).symm.trans h1_) (by decide), fun _ h1_ => absurd ((up_self b 30).symm.trans h1_) (by decide), fun _ h1_ => absurd ((up_self b 30).symm.trans h1_) (by decide), fun _ => (by (with_reducible repeat (first | apply Kd.N_alloc | apply Kd.N_drewN | apply Kd.N_drew)); first | exact HO404.out | exact Kd.R_mono HO404.out (fun _ hk => by first | exact hk.2 | trivial | exact ⟨hk.1.2, hk.2⟩ | exact ⟨trivial, hk.2⟩ | exact hk.1.2 | exact hk | exact ⟨trivial, hk⟩ | exact hk.1 | (simp only [true_and, and_true] at hk ⊢; first | exact hk | exact hk.2 | exact hk.1 | exact ⟨hk.2, hk.1⟩ | omega | (constructor <;> first | exact hk.1 | exact hk.2 | exact hk.1.1 | exact hk.1.2 | exact hk.2.1 | exact hk.2.2)))), fun h0_ => absurd ((hoff 31 (by kernel_rfl)).symm.trans h0_) (by decide), fun h0_ => absurd ((hoff 32 (by kernel_rfl)).symm.trans h0_) (by decide)⟩
  refine steps_cons ?_ ?_
  ·rintro b a w' ⟨v385, v388, v391, v394, v397, v400, v403, v406, m32_, ha, Q_BK383, Q_HB, Q_HO386, Q_HO389, Q_HO392, Q_HO395, Q_HO398, Q_HO401, Q_HO404, Q_HO407, Q_X32_⟩ hb_ hon hoff
   refine ⟨_, rfl, fun K hK => ?_⟩
   have e39 : a.tmps[39]? = some (v403) := by rw [ha]; exact putSel_on (e := (30, 39, v403)) 16 rfl rfl (hon 30 (by kernel_rfl)) rfl
   replace ha := Gv.a0 ha
   have BK383 := Gv.a0 Q_BK383
   have HB := Gv.a0 Q_HB
   have HO404 := Gv.a0 (Q_HO404 (hon 30 (by kernel_rfl)))
   obtain ⟨Ao27, co27, eo27⟩ := Kd.N_slice HO404.out
   (first | subst eo27 | (injection eo27 with f1_ f2_ f3_; have f4_ := f1_.symm; have f5_ := f3_.symm; clear f1_ f2_ f3_; subst f4_; subst f5_))
   refine goes_ Try.func73 (by kernel_rfl) rfl #[.slice Ao27 y402.length co27] (by rfl) rfl rfl (by first | (simp only [List.map_toArray, List.map_cons, List.map_nil, Act.eval, Array.getD_eq_getD_getElem?, Option.getD_some, e39]; done) | (simp only [List.map_toArray, List.map_cons, List.map_nil, Act.eval, Array.getD_eq_getD_getElem?, Option.getD_some, e39]; rfl)) ?_
   with_reducible refine (slices_Concat_byte_byte.calls k _ _ y402 t405 _ ?side1 ?side2 A7.out).mono ?_
   (case side1 => repeat (first | exact (Kd.N_reads' HO404.out).2.2 | (with_reducible refine Kd.C_alloc ?_ _) | (with_reducible refine Kd.C_drewN ?_ _) | (with_reducible refine Kd.C_drew ?_)))
   (case side2 => exact (Kd.N_reads' HO404.out).2.1)
   rintro e w28 ⟨v406, rfl, ho0, hb⟩
   refine ⟨_, rfl, ?_⟩
   have n0_ := Gv.a0 (Kd.N_elder' (by (with_reducible repeat (first | apply Kd.N_alloc | apply Kd.N_drewN | apply Kd.N_drew)); exact HO404.out) (Kd.R_base ho0) hb)
   have n1_ := Gv.a0 (Kd.R_lower ho0 (below_size Gv.bw))
   have n2_ := Gv.a0 (Gv.bb BK383.out hb)
   have n3_ := Gv.a0 (below_step Gv.bw hb)
   clear HO404
   clear BK383
   clear HB
   have HO404 := n0_
   have HO407 := n1_
   have BK383 := n2_
   have HB := n3_
   clear n0_ n1_ n2_ n3_
   (try clear hb)
   (try clear hb2)
   (try clear hk)
   (try clear hi)
   (try clear ho0)
   refine hK.out _ _ ⟨v385, v388, v391, v394, v397, v400, .slice Ao27 y402.length co27, v406, m32_, (by rw [ha.out]; exact putSel_upk 17 hb_ rfl rfl rfl), Gv.bk, Gv.bw, fun _ h1_ => absurd ((hon 30 (by kernel_rfl)).symm.trans h1_) (by decide), fun _ h1_ => absurd ((hon 30 (by kernel_rfl)).symm.trans h1_) (by decide), fun _ h1_ => absurd ((hon 30 (by kernel_rfl)).symm.trans h1_) (by decide), fun _ h1_ => absurd ((hon 30 (by kernel_rfl)).symm.trans h1_) (by decide), fun _ h1_ => absurd ((hon 30 (by kernel_rfl)).symm.trans h1_) (by decide), fun _ h1_ => absurd ((hon 30 (by kernel_rfl)).symm.trans h1_) (by decide), fun _ => (by (with_reducible repeat (first | apply Kd.N_alloc | apply Kd.N_drewN | apply Kd.N_drew)); exact Kd.N_mono HO404.out (fun _ hk => by first | exact hk.2 | trivial | exact ⟨hk.1.2, hk.2⟩ | exact ⟨trivial, hk.2⟩ | exact hk.1.2 | exact hk | exact ⟨trivial, hk⟩ | exact hk.1 | (simp only [true_and, and_true] at hk ⊢; first | exact hk | exact hk.2 | exact hk.1 | exact ⟨hk.2, hk.1⟩ | omega | (constructor <;> first | exact hk.1 | exact hk.2 | exact hk.1.1 | exact hk.1.2 | exact hk.2.1 | exact hk.2.2)))), fun _ => (by (with_reducible repeat (first | apply Kd.R_alloc | apply Kd.R_drewN | apply Kd.R_drew)); first | exact HO407.out | exact Kd.R_mono HO407.out (fun _ hk => by first | exact hk.2 | trivial | exact ⟨hk.1.2, hk.2⟩ | exact ⟨trivial, hk.2⟩ | exact hk.1.2 | exact hk | exact ⟨trivial, hk⟩ | exact hk.1 | (simp only [true_and, and_true] at hk ⊢; first | exact hk | exact hk.2 | exact hk.1 | exact ⟨hk.2, hk.1⟩ | omega | (constructor <;> first | exact hk.1 | exact hk.2 | exact hk.1.1 | exact hk.1.2 | exact hk.2.1 | exact hk.2.2)))), fun h0_ => absurd ((hoff 32 (by kernel_rfl)).symm.trans h0_) (by decide)⟩
  refine steps_cons ?_ ?_
  ·rintro b a w' ⟨v385, v388, v391, v394, v397, v400, v403, v406, m32_, ha, Q_BK383, Q_HB, Q_HO386, Q_HO389, Q_HO392, Q_HO395, Q_HO398, Q_HO401, Q_HO404, Q_HO407, Q_X32_⟩ hb_ hon hoff
   refine ⟨_, rfl, fun K hK => ?_⟩
   have e40 : a.tmps[40]? = some (v406) := by rw [ha]; exact putSel_on (e := (31, 40, v406)) 17 rfl rfl (hon 31 (by kernel_rfl)) rfl
   replace ha := Gv.a0 ha
   have BK383 := Gv.a0 Q_BK383
   have HB := Gv.a0 Q_HB
   have HO404 := Gv.a0 (Q_HO404 (hon 30 (by kernel_rfl)))
   have HO407 := Gv.a0 (Q_HO407 (hon 31 (by kernel_rfl)))
   refine value_ (w1 := w') (v := v406) (by rfl) rfl ?_ ?_
   ·go_simp
    (try simp only [i64_w])
    try rfl
   refine hK.out _ _ ⟨v385, v388, v391, v394, v397, v400, v403, v406, (v406), (by rw [ha.out]; exact putSel_upk 18 hb_ rfl rfl rfl), Q_BK383, Q_HB, fun _ h1_ => absurd ((hon 30 (by kernel_rfl)).symm.trans h1_) (by decide), fun _ h1_ => absurd ((hon 30 (by kernel_rfl)).symm.trans h1_) (by decide), fun _ h1_ => absurd ((hon 30 (by kernel_rfl)).symm.trans h1_) (by decide), fun _ h1_ => absurd ((hon 30 (by kernel_rfl)).symm.trans h1_) (by decide), fun _ h1_ => absurd ((hon 30 (by kernel_rfl)).symm.trans h1_) (by decide), fun _ h1_ => absurd ((hon 30 (by kernel_rfl)).symm.trans h1_) (by decide), Q_HO404, Q_HO407, fun _ => rfl⟩
  exact steps_nil
 rintro b a w28 hall ⟨v385, v388, v391, v394, v397, v400, v403, v406, m32_, ha, Q_BK383, Q_HB, Q_HO386, Q_HO389, Q_HO392, Q_HO395, Q_HO398, Q_HO401, Q_HO404, Q_HO407, Q_X32_⟩
 clear BK383 HB
 have hb1_ := hall 1 (by kernel_rfl)
 have hb2_ := hall 2 (by kernel_rfl)
 have hb6_ := hall 6 (by kernel_rfl)
 have hb7_ := hall 7 (by kernel_rfl)
 have hb8_ := hall 8 (by kernel_rfl)
 have hb11_ := hall 11 (by kernel_rfl)
 have hb12_ := hall 12 (by kernel_rfl)
 have hb15_ := hall 15 (by kernel_rfl)
 have hb16_ := hall 16 (by kernel_rfl)
 have hb19_ := hall 19 (by kernel_rfl)
 have hb20_ := hall 20 (by kernel_rfl)
 have hb21_ := hall 21 (by kernel_rfl)
 have hb24_ := hall 24 (by kernel_rfl)
 have hb25_ := hall 25 (by kernel_rfl)
 have hb28_ := hall 28 (by kernel_rfl)
 have hb29_ := hall 29 (by kernel_rfl)
 have hb30_ := hall 30 (by kernel_rfl)
 have hb31_ := hall 31 (by kernel_rfl)
 have hb32_ := hall 32 (by kernel_rfl)
 subst ha
 obtain rfl := Q_X32_ hb32_
 simp only [putSel, hb1_, hb2_, hb6_, hb7_, hb8_, hb11_, hb12_, hb15_, hb16_, hb19_, hb20_, hb21_, hb24_, hb25_, hb28_, hb29_, hb30_, hb31_, hb32_, if_true, Act.put, List.setIfInBounds_toArray, List.set_cons_zero, List.set_cons_succ]
 have BK383 := Gv.a0 Q_BK383
 clear Q_BK383
 have HB := Gv.a0 Q_HB
 clear Q_HB
 clear Q_HO386
 clear Q_HO389
 clear Q_HO392
 clear Q_HO395
 clear Q_HO398
 clear Q_HO401
 have HO404 := Gv.a0 (Q_HO404 hb30_)
 clear Q_HO404
 have HO407 := Gv.a0 (Q_HO407 hb31_)
 clear Q_HO407
 clear hall hb1_ hb2_ hb6_ hb7_ hb8_ hb11_ hb12_ hb15_ hb16_ hb19_ hb20_ hb21_ hb24_ hb25_ hb28_ hb29_ hb30_ hb31_ hb32_
 obtain ⟨Ao29, co29, eo29⟩ := Kd.R_slice HO407.out
 subst eo29
 try go_wp2
 go_loopg [6, 44] k (fun kq v6 v44 w' => ∃ (x6_1 : Int) (x44_1 : Int), v6 = .int .i64 x6_1 ∧ v44 = .int .i64 x44_1 ∧ Aside0 (impl_hashOf.l0 kq x6_1 t405 (t405.length : Int) x44_1 = some r) ∧ Aside0 (kq ≤ k) ∧ Aside0 (Kd.R (Kd.int .u8) 5 w' w.heap.size (fun _ => True) (.slice Ao29 t405.length co29) t405) ∧ Aside0 (w'.heap[gb383]? = some (.cells #[.int .i64 a1_0, .int .i64 a1_1, .int .i64 a1_2, .int .i64 a1_3, .int .i64 a1_4, .int .i64 a1_5, .int .i64 a1_6, .int .i64 a1_7, .int .i64 a1_8, .int .i64 a1_9, .int .i64 a1_10, .int .i64 a1_11, .int .i64 a1_12, .int .i64 a1_13] 33 (0, 0))) ∧ Aside0 (Below w.heap.size w w'))
 case atStart => exact ⟨(a0), (0), (by first | rfl | (simp; done) | (simp [Int.tdiv_eq_ediv_of_nonneg]; done) | (simp [*]; done)), (by first | rfl | (simp; done) | (simp [Int.tdiv_eq_ediv_of_nonneg]; done) | (simp [*]; done)), H', ⟨Nat.le_refl _⟩, ⟨by (with_reducible repeat (first | apply Kd.R_alloc | apply Kd.R_drewN | apply Kd.R_drew)); exact HO407.out⟩, ⟨by (with_reducible repeat (first | refine blk_drewN ?_ _ | refine blk_drew ?_ | refine blk_alloc ?_ _)); exact BK383.out⟩, ⟨by repeat (first | (with_reducible first | exact HB.out | apply below_alloc | apply pw_below_drewN | apply below_drew1 | refine below_set ?_ GE383.out) | exact HB.out)⟩⟩
 case round =>
  clear H'
  try clear c1
  try clear c2
  try clear p2
  try clear c3
  try clear c4
  try clear c5
  try clear c6
  try clear c7
  try clear c8
  try clear c9
  try clear c10
  try clear c11
  try clear c12
  try clear c13
  obtain ⟨x6_1, x44_1, rfl, rfl, HA, HK1, HO_42, BK383, HB⟩ := hrel
  cases gk with
  | zero => exact absurd HA.out (by simp [impl_hashOf.l0])
  | succ k1 =>
   have H := HA.out
   clear HA
   simp only [impl_hashOf.l0] at H
   by_cases c30 : x44_1 < (t405.length : Int)
   ·rw [if_pos c30] at H
    have c30b0 : decide (x44_1 < (t405.length : Int)) = true := decide_eq_true c30
    clear c30
    by_cases c31 : 0 ≤ x44_1
    ·rw [if_pos c31] at H
     have c31b0 : decide (0 ≤ x44_1) = true := decide_eq_true c31
     clear c31
     by_cases c32 : x44_1 < (t405.length : Int)
     ·rw [if_pos c32] at H
      have c32b0 : decide (x44_1 < (t405.length : Int)) = true := decide_eq_true c32
      clear c32
      have H' := Gv.a0 H
      clear H
      have p408 : 0 ≤ (x44_1 : Int) := of_decide_eq_true (by first | (with_reducible assumption) | assumption)
      have q408 : x44_1 < (t405.length : Int) := of_decide_eq_true (by first | (with_reducible assumption) | assumption)
      obtain ⟨ad408, e408, hx408_0⟩ := Kd.at_int (Kd.R_reads' HO_42.out).2.2 x44_1 p408 q408
      cases e408
      replace p408 := eq_true p408
      replace q408 := eq_true q408
      go_wp2
      go_roundg k1
      case measure => have := HK1.out; omega
      case rel => exact ⟨(Int.tmod (wrap64 ((Go.bits .xor .i64 x6_1 (wrap64 (rd t405 x44_1))) * 16777619)) 4294967296), (wrap64 (x44_1 + 1)), (by first | rfl | (simp; done) | (simp [Int.tdiv_eq_ediv_of_nonneg]; done) | (simp [*]; done)), (by first | rfl | (simp; done) | (simp [Int.tdiv_eq_ediv_of_nonneg]; done) | (simp [*]; done)), H', ⟨by have := HK1.out; omega⟩, ⟨by (with_reducible repeat (first | apply Kd.R_alloc | apply Kd.R_drewN | apply Kd.R_drew)); exact HO_42.out⟩, ⟨by (with_reducible repeat (first | refine blk_drewN ?_ _ | refine blk_drew ?_ | refine blk_alloc ?_ _)); exact BK383.out⟩, ⟨by repeat (first | (with_reducible first | exact HB.out | apply below_alloc | apply pw_below_drewN | apply below_drew1 | refine below_set ?_ GE383.out) | exact HB.out)⟩⟩
     ·rw [if_neg c32] at H
      exact absurd H (by simp)
    ·rw [if_neg c31] at H
     exact absurd H (by simp)
   ·rw [if_neg c30] at H
    have c30b0 : decide (x44_1 < (t405.length : Int)) = false := decide_eq_false c30
    clear c30
    obtain rfl := Option.some.inj H
    go_wp2
    go_ret
    exact ⟨by first | rfl | (simp [errW_none, errW_some] <;> rfl) | (simp [*, errW_none, errW_some] <;> rfl), by repeat (first | (with_reducible first | exact HB.out | apply below_alloc | apply pw_below_drewN | apply below_drew1 | refine below_set ?_ GE383.out) | exact HB.out)⟩

/-! ### impl_Table_probe: function 58 -/
def impl_Table_probe.l0 : Nat → Int → Int → Int → Int → Int → List (S75) → Int → Int → Int → Int → Int → Int → Int → Int → Int → Int → Int → Int → Int → Int → Option (Int)
 | 0, _, _, _, _, _, _, _, _, _, _, _, _, _, _, _, _, _, _, _, _ => none
 | k + 1, x5, x6, x18, x19, x410000, x410001, x411000, x411001, x411002, x411003, x411004, x411005, x411006, x411007, x411008, x411009, x411010, x411011, x411012, x411013 => if x19 < x18 then (if x5 = 0 then (none) else (if 0 ≤ (Int.tmod (wrap64 (x6 + x19)) x5) then (if (Int.tmod (wrap64 (x6 + x19)) x5) < (x410001.length : Int) then (if ((rd_T75 x410001 (Int.tmod (wrap64 (x6 + x19)) x5)).f0 = true) then (if (((rd_T75 x410001 (Int.tmod (wrap64 (x6 + x19)) x5)).f1.f0) == x411000 && (((((rd_T75 x410001 (Int.tmod (wrap64 (x6 + x19)) x5)).f1.f1.f0.f0) == x411001 && (((rd_T75 x410001 (Int.tmod (wrap64 (x6 + x19)) x5)).f1.f1.f0.f1) == x411002 && (((rd_T75 x410001 (Int.tmod (wrap64 (x6 + x19)) x5)).f1.f1.f0.f2) == x411003 && (((rd_T75 x410001 (Int.tmod (wrap64 (x6 + x19)) x5)).f1.f1.f0.f3) == x411004 && (((rd_T75 x410001 (Int.tmod (wrap64 (x6 + x19)) x5)).f1.f1.f0.f4) == x411005))))) && ((((rd_T75 x410001 (Int.tmod (wrap64 (x6 + x19)) x5)).f1.f1.f1.f0) == x411006 && (((rd_T75 x410001 (Int.tmod (wrap64 (x6 + x19)) x5)).f1.f1.f1.f1) == x411007 && (((rd_T75 x410001 (Int.tmod (wrap64 (x6 + x19)) x5)).f1.f1.f1.f2) == x411008 && (((rd_T75 x410001 (Int.tmod (wrap64 (x6 + x19)) x5)).f1.f1.f1.f3) == x411009 && (((rd_T75 x410001 (Int.tmod (wrap64 (x6 + x19)) x5)).f1.f1.f1.f4) == x411010))))) && (((rd_T75 x410001 (Int.tmod (wrap64 (x6 + x19)) x5)).f1.f1.f2) == x411011 && (((rd_T75 x410001 (Int.tmod (wrap64 (x6 + x19)) x5)).f1.f1.f3) == x411012 && (((rd_T75 x410001 (Int.tmod (wrap64 (x6 + x19)) x5)).f1.f1.f4) == x411013))))))) = true then (some (Int.tmod (wrap64 (x6 + x19)) x5)) else (impl_Table_probe.l0 k x5 x6 x18 (wrap64 (x19 + 1)) x410000 x410001 x411000 x411001 x411002 x411003 x411004 x411005 x411006 x411007 x411008 x411009 x411010 x411011 x411012 x411013)) else (some (Int.tmod (wrap64 (x6 + x19)) x5))) else (none)) else (none))) else (some (-1))
def impl_Table_probe.f (k : Nat) (a0_0 : Int) (l0_1 : List (S75)) (a1_0 : Int) (a1_1 : Int) (a1_2 : Int) (a1_3 : Int) (a1_4 : Int) (a1_5 : Int) (a1_6 : Int) (a1_7 : Int) (a1_8 : Int) (a1_9 : Int) (a1_10 : Int) (a1_11 : Int) (a1_12 : Int) (a1_13 : Int) : Option (Int) := (impl_hashOf.f k a0_0 a1_0 a1_1 a1_2 a1_3 a1_4 a1_5 a1_6 a1_7 a1_8 a1_9 a1_10 a1_11 a1_12 a1_13).bind fun t411 => (if (l0_1.length : Int) = 0 then (none) else (impl_Table_probe.l0 k (l0_1.length : Int) (Int.tmod t411 (l0_1.length : Int)) (l0_1.length : Int) 0 a0_0 l0_1 a1_0 a1_1 a1_2 a1_3 a1_4 a1_5 a1_6 a1_7 a1_8 a1_9 a1_10 a1_11 a1_12 a1_13))
theorem impl_Table_probe.mono_l : ∀ k, (∀ y0 y1 y2 y3 y4 y5 y6 y7 y8 y9 y10 y11 y12 y13 y14 y15 y16 y17 y18 y19, LeO (impl_Table_probe.l0 k y0 y1 y2 y3 y4 y5 y6 y7 y8 y9 y10 y11 y12 y13 y14 y15 y16 y17 y18 y19) (impl_Table_probe.l0 (k + 1) y0 y1 y2 y3 y4 y5 y6 y7 y8 y9 y10 y11 y12 y13 y14 y15 y16 y17 y18 y19))
 | 0 => fun _ _ _ _ _ _ _ _ _ _ _ _ _ _ _ _ _ _ _ _ r h => by simp [impl_Table_probe.l0] at h
 | k + 1 => by
  have ih0 := impl_Table_probe.mono_l k
  ·intro y0 y1 y2 y3 y4 y5 y6 y7 y8 y9 y10 y11 y12 y13 y14 y15 y16 y17 y18 y19
   unfold impl_Table_probe.l0
   repeat' first
   | (with_reducible exact ih0 _ _ _ _ _ _ _ _ _ _ _ _ _ _ _ _ _ _ _ _)
   | (with_reducible exact impl_hashOf.mono _ _ _ _ _ _ _ _ _ _ _ _ _ _ _ _)
   | (with_reducible exact LeO.refl _)
   | (with_reducible exact LeO.none _)
   | (with_reducible refine LeO.ite ?_ ?_)
   | (with_reducible refine LeO.bind ?_ (fun _ => ?_))
   | exact ih0 _ _ _ _ _ _ _ _ _ _ _ _ _ _ _ _ _ _ _ _
   | exact impl_hashOf.mono _ _ _ _ _ _ _ _ _ _ _ _ _ _ _ _
   | exact LeO.none _
   | refine LeO.ite ?_ ?_
   | refine LeO.bind ?_ (fun _ => ?_)
theorem impl_Table_probe.mono : ∀ a0 a1 a2 a3 a4 a5 a6 a7 a8 a9 a10 a11 a12 a13 a14 a15 k, LeO (impl_Table_probe.f k a0 a1 a2 a3 a4 a5 a6 a7 a8 a9 a10 a11 a12 a13 a14 a15) (impl_Table_probe.f (k + 1) a0 a1 a2 a3 a4 a5 a6 a7 a8 a9 a10 a11 a12 a13 a14 a15) := by
 intro a0 a1 a2 a3 a4 a5 a6 a7 a8 a9 a10 a11 a12 a13 a14 a15 k
 have ih0 := impl_Table_probe.mono_l k
 unfold impl_Table_probe.f
 repeat' first
   | (with_reducible exact ih0 _ _ _ _ _ _ _ _ _ _ _ _ _ _ _ _ _ _ _ _)
   | (with_reducible exact impl_hashOf.mono _ _ _ _ _ _ _ _ _ _ _ _ _ _ _ _)
   | (with_reducible exact LeO.refl _)
   | (with_reducible exact LeO.none _)
   | (with_reducible refine LeO.ite ?_ ?_)
   | (with_reducible refine LeO.bind ?_ (fun _ => ?_))
   | exact ih0 _ _ _ _ _ _ _ _ _ _ _ _ _ _ _ _ _ _ _ _
   | exact impl_hashOf.mono _ _ _ _ _ _ _ _ _ _ _ _ _ _ _ _
   | exact LeO.none _
   | refine LeO.ite ?_ ?_
   | refine LeO.bind ?_ (fun _ => ?_)
set_option maxHeartbeats 8000000 in
set_option maxRecDepth 100000 in
theorem impl_Table_probe.calls (k : Nat) (a0_0 : Int) (A0_1 : Option Addr) (c0_1 : Nat) (l0_1 : List (S75)) (a1_0 : Int) (a1_1 : Int) (a1_2 : Int) (a1_3 : Int) (a1_4 : Int) (a1_5 : Int) (a1_6 : Int) (a1_7 : Int) (a1_8 : Int) (a1_9 : Int) (a1_10 : Int) (a1_11 : Int) (a1_12 : Int) (a1_13 : Int) (r : Int) (w : World) (hr0_1 : Kd.C k75 w A0_1 l0_1.length l0_1) (hc0_1 : l0_1.length ≤ c0_1) (h : impl_Table_probe.f k a0_0 l0_1 a1_0 a1_1 a1_2 a1_3 a1_4 a1_5 a1_6 a1_7 a1_8 a1_9 a1_10 a1_11 a1_12 a1_13 = some r) :
  Calls Try.prog 58 #[.agg #[.int .i64 a0_0, .slice A0_1 l0_1.length c0_1], .agg #[.int .i64 a1_0, .int .i64 a1_1, .int .i64 a1_2, .int .i64 a1_3, .int .i64 a1_4, .int .i64 a1_5, .int .i64 a1_6, .int .i64 a1_7, .int .i64 a1_8, .int .i64 a1_9, .int .i64 a1_10, .int .i64 a1_11, .int .i64 a1_12, .int .i64 a1_13]] w fun e w' => e = .returned (.int .i64 r) ∧ Below w.heap.size w w' := by
 have hu40 := Try.underlying40
 have hu33 := Try.underlying33
 have HR0_1 := Gv.a0 hr0_1
 have HC0_1 := Gv.a0 hc0_1
 clear hr0_1 hc0_1
 have HB := Gv.a0 (Below.refl w.heap.size w)
 have H : ((impl_hashOf.f k a0_0 a1_0 a1_1 a1_2 a1_3 a1_4 a1_5 a1_6 a1_7 a1_8 a1_9 a1_10 a1_11 a1_12 a1_13).bind fun t411 => (if (l0_1.length : Int) = 0 then (none) else (impl_Table_probe.l0 k (l0_1.length : Int) (Int.tmod t411 (l0_1.length : Int)) (l0_1.length : Int) 0 a0_0 l0_1 a1_0 a1_1 a1_2 a1_3 a1_4 a1_5 a1_6 a1_7 a1_8 a1_9 a1_10 a1_11 a1_12 a1_13))) = some r := h
 clear h
 replace H := Option.bind_eq_some_iff.mp H
 obtain ⟨t411, A30, H⟩ := H
 replace H : (if (l0_1.length : Int) = 0 then (none) else (impl_Table_probe.l0 k (l0_1.length : Int) (Int.tmod t411 (l0_1.length : Int)) (l0_1.length : Int) 0 a0_0 l0_1 a1_0 a1_1 a1_2 a1_3 a1_4 a1_5 a1_6 a1_7 a1_8 a1_9 a1_10 a1_11 a1_12 a1_13)) = some r := H
 have A3 := Gv.a0 A30
 clear A30
 by_cases c4 : (l0_1.length : Int) = 0
 ·rw [if_pos c4] at H
  exact absurd H (by simp)
 ·rw [if_neg c4] at H
  have c4b0 : ((l0_1.length : Int) == 0) = false := beq_eq_false_iff_ne.mpr c4
  have c4b1 : ((l0_1.length : Int) != 0) = true := bne_iff_ne.mpr c4
  have c4b2 : ¬ (l0_1 = []) := fun h_ => c4 (by rw [h_]; rfl)
  have H' := Gv.a0 H
  clear H
  go_enter Try.func58, Try.ntmps58
  go_wp2_with (first | ((with_reducible refine gate_dst (N := 2) rfl ?_); refine box_event ?hg (N := 2) ?hd (cs := #[.int .i64 a0_0, .slice A0_1 l0_1.length c0_1]) (t := 40) ?hr ?_; (case hd => rfl); (case hg => rfl); (case hr => first | (go_simp; done) | (go_simp; rfl)); intro gb409 hg w5 hbox hb; have n0_ := Gv.a0 (below_step Gv.bw hb); have n1_ := Gv.a0 (hbox); have n2_ := Gv.a0 ((Gv.ble hg Gv.bw : w.heap.size ≤ gb409)); have n3_ := Gv.a0 ((Gv.ble hg Gv.bw : w.heap.size ≤ gb409)); clear HB; have HB := n0_; have BK409 := n1_; have GW409 := n2_; have GE409 := n3_; clear n0_ n1_ n2_ n3_; clear hb hbox hg) | ((with_reducible refine gate_dst (N := 3) rfl ?_); refine box_event ?hg (N := 3) ?hd (cs := #[.int .i64 a1_0, .int .i64 a1_1, .int .i64 a1_2, .int .i64 a1_3, .int .i64 a1_4, .int .i64 a1_5, .int .i64 a1_6, .int .i64 a1_7, .int .i64 a1_8, .int .i64 a1_9, .int .i64 a1_10, .int .i64 a1_11, .int .i64 a1_12, .int .i64 a1_13]) (t := 33) ?hr ?_; (case hd => rfl); (case hg => rfl); (case hr => first | (go_simp; done) | (go_simp; rfl)); intro gb410 hg w6 hbox hb; have n0_ := Gv.a0 (Gv.bb BK409.out hb); have n1_ := Gv.a0 (below_step Gv.bw hb); have n2_ := Gv.a0 (hbox); have n3_ := Gv.a0 ((Gv.ble hg Gv.bw : w.heap.size ≤ gb410)); have n4_ := Gv.a0 ((Gv.ble hg Gv.bw : w.heap.size ≤ gb410)); have n5_ := Gv.a0 ((Gv.nlt hg (Gv.kb BK409.out) : gb409 ≠ gb410)); have n6_ := Gv.a0 ((Gv.ngt hg (Gv.kb BK409.out) : gb410 ≠ gb409)); clear BK409; clear HB; have BK409 := n0_; have HB := n1_; have BK410 := n2_; have GW410 := n3_; have GE410 := n4_; have NB409_410 := n5_; have NB410_409 := n6_; clear n0_ n1_ n2_ n3_ n4_ n5_ n6_; clear hb hbox hg; have hnb7 := NB409_410.out; have hnc7 := NB410_409.out; have hcz8_0 : w6.cell? ⟨gb409, 0, none⟩ = some (.int .i64 a0_0) := (blk_cell BK409.out 0).trans rfl; have hcz8_1 : w6.cell? ⟨gb409, 1, none⟩ = some (.slice A0_1 l0_1.length c0_1) := (blk_cell BK409.out 1).trans rfl; have hfz8_0 := blk_frozen BK409.out 0; have hfz8_1 := blk_frozen BK409.out 1; obtain ⟨hcz9_0, hcz9_1, hcz9_2, hcz9_3, hcz9_4, hcz9_5, hcz9_6, hcz9_7, hcz9_8, hcz9_9, hcz9_10, hcz9_11, hcz9_12, hcz9_13⟩ := Gv.c14 BK410.out; obtain ⟨hfz9_0, hfz9_1, hfz9_2, hfz9_3, hfz9_4, hfz9_5, hfz9_6, hfz9_7, hfz9_8, hfz9_9, hfz9_10, hfz9_11, hfz9_12, hfz9_13⟩ := Gv.f14 BK410.out) | (go_at_call 47; (with_reducible refine (impl_hashOf.calls k a0_0 a1_0 a1_1 a1_2 a1_3 a1_4 a1_5 a1_6 a1_7 a1_8 a1_9 a1_10 a1_11 a1_12 a1_13 t411 _ A3.out).mono ?_); rintro e w10 ⟨rfl, hb⟩; have n0_ := Gv.a0 (Gv.bb BK409.out hb); have n1_ := Gv.a0 (Gv.bb BK410.out hb); have n2_ := Gv.a0 (below_step Gv.bw hb); clear BK409; clear BK410; clear HB; have BK409 := n0_; have BK410 := n1_; have HB := n2_; clear n0_ n1_ n2_; (try clear hb); (try clear hb2); (try clear hk); (try clear hi)))
  repeat (go_quiet (first | ((with_reducible refine gate_dst (N := 2) rfl ?_); refine box_event ?hg (N := 2) ?hd (cs := #[.int .i64 a0_0, .slice A0_1 l0_1.length c0_1]) (t := 40) ?hr ?_; (case hd => rfl); (case hg => rfl); (case hr => first | (go_simp; done) | (go_simp; rfl)); intro gb409 hg w5 hbox hb; have n0_ := Gv.a0 (below_step Gv.bw hb); have n1_ := Gv.a0 (hbox); have n2_ := Gv.a0 ((Gv.ble hg Gv.bw : w.heap.size ≤ gb409)); have n3_ := Gv.a0 ((Gv.ble hg Gv.bw : w.heap.size ≤ gb409)); clear HB; have HB := n0_; have BK409 := n1_; have GW409 := n2_; have GE409 := n3_; clear n0_ n1_ n2_ n3_; clear hb hbox hg) | ((with_reducible refine gate_dst (N := 3) rfl ?_); refine box_event ?hg (N := 3) ?hd (cs := #[.int .i64 a1_0, .int .i64 a1_1, .int .i64 a1_2, .int .i64 a1_3, .int .i64 a1_4, .int .i64 a1_5, .int .i64 a1_6, .int .i64 a1_7, .int .i64 a1_8, .int .i64 a1_9, .int .i64 a1_10, .int .i64 a1_11, .int .i64 a1_12, .int .i64 a1_13]) (t := 33) ?hr ?_; (case hd => rfl); (case hg => rfl); (case hr => first | (go_simp; done) | (go_simp; rfl)); intro gb410 hg w6 hbox hb; have n0_ := Gv.a0 (Gv.bb BK409.out hb); have n1_ := Gv.a0 (below_step Gv.bw hb); have n2_ := Gv.a0 (hbox); have n3_ := Gv.a0 ((Gv.ble hg Gv.bw : w.heap.size ≤ gb410)); have n4_ := Gv.a0 ((Gv.ble hg Gv.bw : w.heap.size ≤ gb410)); have n5_ := Gv.a0 ((Gv.nlt hg (Gv.kb BK409.out) : gb409 ≠ gb410)); have n6_ := Gv.a0 ((Gv.ngt hg (Gv.kb BK409.out) : gb410 ≠ gb409)); clear BK409; clear HB; have BK409 := n0_; have HB := n1_; have BK410 := n2_; have GW410 := n3_; have GE410 := n4_; have NB409_410 := n5_; have NB410_409 := n6_; clear n0_ n1_ n2_ n3_ n4_ n5_ n6_; clear hb hbox hg; have hnb7 := NB409_410.out; have hnc7 := NB410_409.out; have hcz8_0 : w6.cell? ⟨gb409, 0, none⟩ = some (.int .i64 a0_0) := (blk_cell BK409.out 0).trans rfl; have hcz8_1 : w6.cell? ⟨gb409, 1, none⟩ = some (.slice A0_1 l0_1.length c0_1) := (blk_cell BK409.out 1).trans rfl; have hfz8_0 := blk_frozen BK409.out 0; have hfz8_1 := blk_frozen BK409.out 1; obtain ⟨hcz9_0, hcz9_1, hcz9_2, hcz9_3, hcz9_4, hcz9_5, hcz9_6, hcz9_7, hcz9_8, hcz9_9, hcz9_10, hcz9_11, hcz9_12, hcz9_13⟩ := Gv.c14 BK410.out; obtain ⟨hfz9_0, hfz9_1, hfz9_2, hfz9_3, hfz9_4, hfz9_5, hfz9_6, hfz9_7, hfz9_8, hfz9_9, hfz9_10, hfz9_11, hfz9_12, hfz9_13⟩ := Gv.f14 BK410.out) | (go_at_call 47; (with_reducible refine (impl_hashOf.calls k a0_0 a1_0 a1_1 a1_2 a1_3 a1_4 a1_5 a1_6 a1_7 a1_8 a1_9 a1_10 a1_11 a1_12 a1_13 t411 _ A3.out).mono ?_); rintro e w10 ⟨rfl, hb⟩; have n0_ := Gv.a0 (Gv.bb BK409.out hb); have n1_ := Gv.a0 (Gv.bb BK410.out hb); have n2_ := Gv.a0 (below_step Gv.bw hb); clear BK409; clear BK410; clear HB; have BK409 := n0_; have BK410 := n1_; have HB := n2_; clear n0_ n1_ n2_; (try clear hb); (try clear hb2); (try clear hk); (try clear hi))); try go_wp2_with (first | ((with_reducible refine gate_dst (N := 2) rfl ?_); refine box_event ?hg (N := 2) ?hd (cs := #[.int .i64 a0_0, .slice A0_1 l0_1.length c0_1]) (t := 40) ?hr ?_; (case hd => rfl); (case hg => rfl); (case hr => first | (go_simp; done) | (go_simp; rfl)); intro gb409 hg w5 hbox hb; have n0_ := Gv.a0 (below_step Gv.bw hb); have n1_ := Gv.a0 (hbox); have n2_ := Gv.a0 ((Gv.ble hg Gv.bw : w.heap.size ≤ gb409)); have n3_ := Gv.a0 ((Gv.ble hg Gv.bw : w.heap.size ≤ gb409)); clear HB; have HB := n0_; have BK409 := n1_; have GW409 := n2_; have GE409 := n3_; clear n0_ n1_ n2_ n3_; clear hb hbox hg) | ((with_reducible refine gate_dst (N := 3) rfl ?_); refine box_event ?hg (N := 3) ?hd (cs := #[.int .i64 a1_0, .int .i64 a1_1, .int .i64 a1_2, .int .i64 a1_3, .int .i64 a1_4, .int .i64 a1_5, .int .i64 a1_6, .int .i64 a1_7, .int .i64 a1_8, .int .i64 a1_9, .int .i64 a1_10, .int .i64 a1_11, .int .i64 a1_12, .int .i64 a1_13]) (t := 33) ?hr ?_; (case hd => rfl); (case hg => rfl); (case hr => first | (go_simp; done) | (go_simp; rfl)); intro gb410 hg w6 hbox hb; have n0_ := Gv.a0 (Gv.bb BK409.out hb); have n1_ := Gv.a0 (below_step Gv.bw hb); have n2_ := Gv.a0 (hbox); have n3_ := Gv.a0 ((Gv.ble hg Gv.bw : w.heap.size ≤ gb410)); have n4_ := Gv.a0 ((Gv.ble hg Gv.bw : w.heap.size ≤ gb410)); have n5_ := Gv.a0 ((Gv.nlt hg (Gv.kb BK409.out) : gb409 ≠ gb410)); have n6_ := Gv.a0 ((Gv.ngt hg (Gv.kb BK409.out) : gb410 ≠ gb409)); clear BK409; clear HB; have BK409 := n0_; have HB := n1_; have BK410 := n2_; have GW410 := n3_; have GE410 := n4_; have NB409_410 := n5_; have NB410_409 := n6_; clear n0_ n1_ n2_ n3_ n4_ n5_ n6_; clear hb hbox hg; have hnb7 := NB409_410.out; have hnc7 := NB410_409.out; have hcz8_0 : w6.cell? ⟨gb409, 0, none⟩ = some (.int .i64 a0_0) := (blk_cell BK409.out 0).trans rfl; have hcz8_1 : w6.cell? ⟨gb409, 1, none⟩ = some (.slice A0_1 l0_1.length c0_1) := (blk_cell BK409.out 1).trans rfl; have hfz8_0 := blk_frozen BK409.out 0; have hfz8_1 := blk_frozen BK409.out 1; obtain ⟨hcz9_0, hcz9_1, hcz9_2, hcz9_3, hcz9_4, hcz9_5, hcz9_6, hcz9_7, hcz9_8, hcz9_9, hcz9_10, hcz9_11, hcz9_12, hcz9_13⟩ := Gv.c14 BK410.out; obtain ⟨hfz9_0, hfz9_1, hfz9_2, hfz9_3, hfz9_4, hfz9_5, hfz9_6, hfz9_7, hfz9_8, hfz9_9, hfz9_10, hfz9_11, hfz9_12, hfz9_13⟩ := Gv.f14 BK410.out) | (go_at_call 47; (with_reducible refine (impl_hashOf.calls k a0_0 a1_0 a1_1 a1_2 a1_3 a1_4 a1_5 a1_6 a1_7 a1_8 a1_9 a1_10 a1_11 a1_12 a1_13 t411 _ A3.out).mono ?_); rintro e w10 ⟨rfl, hb⟩; have n0_ := Gv.a0 (Gv.bb BK409.out hb); have n1_ := Gv.a0 (Gv.bb BK410.out hb); have n2_ := Gv.a0 (below_step Gv.bw hb); clear BK409; clear BK410; clear HB; have BK409 := n0_; have BK410 := n1_; have HB := n2_; clear n0_ n1_ n2_; (try clear hb); (try clear hb2); (try clear hk); (try clear hi))))
  go_loopg [19] k (fun kq v19 w' => ∃ (x19_1 : Int), v19 = .int .i64 x19_1 ∧ Aside0 (impl_Table_probe.l0 kq (l0_1.length : Int) (Int.tmod t411 (l0_1.length : Int)) (l0_1.length : Int) x19_1 a0_0 l0_1 a1_0 a1_1 a1_2 a1_3 a1_4 a1_5 a1_6 a1_7 a1_8 a1_9 a1_10 a1_11 a1_12 a1_13 = some r) ∧ Aside0 (kq ≤ k) ∧ Aside0 (w'.heap[gb409]? = some (.cells #[.int .i64 a0_0, (.slice A0_1 l0_1.length c0_1)] 40 (0, 0))) ∧ Aside0 (w'.heap[gb410]? = some (.cells #[.int .i64 a1_0, .int .i64 a1_1, .int .i64 a1_2, .int .i64 a1_3, .int .i64 a1_4, .int .i64 a1_5, .int .i64 a1_6, .int .i64 a1_7, .int .i64 a1_8, .int .i64 a1_9, .int .i64 a1_10, .int .i64 a1_11, .int .i64 a1_12, .int .i64 a1_13] 33 (0, 0))) ∧ Aside0 (Below w.heap.size w w'))
  case atStart => exact ⟨(0), (by first | rfl | (simp; done) | (simp [Int.tdiv_eq_ediv_of_nonneg]; done) | (simp [*]; done)), H', ⟨Nat.le_refl _⟩, ⟨by (with_reducible repeat (first | refine blk_drewN ?_ _ | refine blk_drew ?_ | refine blk_alloc ?_ _)); exact BK409.out⟩, ⟨by (with_reducible repeat (first | refine blk_drewN ?_ _ | refine blk_drew ?_ | refine blk_alloc ?_ _)); exact BK410.out⟩, ⟨by repeat (first | (with_reducible first | exact HB.out | apply below_alloc | apply pw_below_drewN | apply below_drew1 | refine below_set ?_ GE409.out | refine below_set ?_ GE410.out) | exact HB.out)⟩⟩
  case round =>
   clear H'
   try clear p2
   try clear c4
   try clear c4b0
   try clear c4b1
   try clear c4b2
   try clear c5
   try clear c7
   try clear hcz8_0 hcz8_1
   try clear hcz9_0 hcz9_1
   try clear hcz9_10 hcz9_11 hcz9_12 hcz9_13
   try clear hcz9_2 hcz9_3 hcz9_4 hcz9_5 hcz9_6 hcz9_7 hcz9_8 hcz9_9
   try clear hfz8_0 hfz8_1
   try clear hfz9_0 hfz9_1
   try clear hfz9_10 hfz9_11 hfz9_12 hfz9_13
   try clear hfz9_2 hfz9_3 hfz9_4 hfz9_5 hfz9_6 hfz9_7 hfz9_8 hfz9_9
   obtain ⟨x19_1, rfl, HA, HK1, BK409, BK410, HB⟩ := hrel
   cases gk with
   | zero => exact absurd HA.out (by simp [impl_Table_probe.l0])
   | succ k1 =>
    have H := HA.out
    clear HA
    simp only [impl_Table_probe.l0] at H
    by_cases c11 : x19_1 < (l0_1.length : Int)
    ·rw [if_pos c11] at H
     have c11b0 : decide (x19_1 < (l0_1.length : Int)) = true := decide_eq_true c11
     clear c11
     by_cases c12 : (l0_1.length : Int) = 0
     ·rw [if_pos c12] at H
      exact absurd H (by simp)
     ·rw [if_neg c12] at H
      have c12b0 : ((l0_1.length : Int) == 0) = false := beq_eq_false_iff_ne.mpr c12
      have c12b1 : ((l0_1.length : Int) != 0) = true := bne_iff_ne.mpr c12
      have c12b2 : ¬ (l0_1 = []) := fun h_ => c12 (by rw [h_]; rfl)
      obtain ⟨ji13, hji13⟩ : ∃ j_ : Int, (Int.tmod (wrap64 ((Int.tmod t411 (l0_1.length : Int)) + x19_1)) (l0_1.length : Int)) = j_ := ⟨_, rfl⟩
      replace H : (if 0 ≤ (ji13) then (if (ji13) < (l0_1.length : Int) then (if ((rd_T75 l0_1 (ji13)).f0 = true) then (if (((rd_T75 l0_1 (ji13)).f1.f0) == a1_0 && (((((rd_T75 l0_1 (ji13)).f1.f1.f0.f0) == a1_1 && (((rd_T75 l0_1 (ji13)).f1.f1.f0.f1) == a1_2 && (((rd_T75 l0_1 (ji13)).f1.f1.f0.f2) == a1_3 && (((rd_T75 l0_1 (ji13)).f1.f1.f0.f3) == a1_4 && (((rd_T75 l0_1 (ji13)).f1.f1.f0.f4) == a1_5))))) && ((((rd_T75 l0_1 (ji13)).f1.f1.f1.f0) == a1_6 && (((rd_T75 l0_1 (ji13)).f1.f1.f1.f1) == a1_7 && (((rd_T75 l0_1 (ji13)).f1.f1.f1.f2) == a1_8 && (((rd_T75 l0_1 (ji13)).f1.f1.f1.f3) == a1_9 && (((rd_T75 l0_1 (ji13)).f1.f1.f1.f4) == a1_10))))) && (((rd_T75 l0_1 (ji13)).f1.f1.f2) == a1_11 && (((rd_T75 l0_1 (ji13)).f1.f1.f3) == a1_12 && (((rd_T75 l0_1 (ji13)).f1.f1.f4) == a1_13))))))) = true then (some ji13) else (impl_Table_probe.l0 k1 (l0_1.length : Int) (Int.tmod t411 (l0_1.length : Int)) (l0_1.length : Int) (wrap64 (x19_1 + 1)) a0_0 l0_1 a1_0 a1_1 a1_2 a1_3 a1_4 a1_5 a1_6 a1_7 a1_8 a1_9 a1_10 a1_11 a1_12 a1_13)) else (some ji13)) else (none)) else (none)) = some r := by first | (rw [hji13] at H; exact H) | (simp only [hji13] at H ⊢; exact H)
      by_cases c14 : 0 ≤ (ji13)
      ·rw [if_pos c14] at H
       have c14b0 : decide (0 ≤ (ji13)) = true := decide_eq_true c14
       clear c14
       by_cases c15 : (ji13) < (l0_1.length : Int)
       ·rw [if_pos c15] at H
        have c15b0 : decide ((ji13) < (l0_1.length : Int)) = true := decide_eq_true c15
        clear c15
        obtain ⟨bq16, hbq16⟩ : ∃ b_ : Bool, b_ = ((rd_T75 l0_1 (ji13)).f0) := ⟨_, rfl⟩
        replace H : (if (bq16 = true) then (if (((rd_T75 l0_1 (ji13)).f1.f0) == a1_0 && (((((rd_T75 l0_1 (ji13)).f1.f1.f0.f0) == a1_1 && (((rd_T75 l0_1 (ji13)).f1.f1.f0.f1) == a1_2 && (((rd_T75 l0_1 (ji13)).f1.f1.f0.f2) == a1_3 && (((rd_T75 l0_1 (ji13)).f1.f1.f0.f3) == a1_4 && (((rd_T75 l0_1 (ji13)).f1.f1.f0.f4) == a1_5))))) && ((((rd_T75 l0_1 (ji13)).f1.f1.f1.f0) == a1_6 && (((rd_T75 l0_1 (ji13)).f1.f1.f1.f1) == a1_7 && (((rd_T75 l0_1 (ji13)).f1.f1.f1.f2) == a1_8 && (((rd_T75 l0_1 (ji13)).f1.f1.f1.f3) == a1_9 && (((rd_T75 l0_1 (ji13)).f1.f1.f1.f4) == a1_10))))) && (((rd_T75 l0_1 (ji13)).f1.f1.f2) == a1_11 && (((rd_T75 l0_1 (ji13)).f1.f1.f3) == a1_12 && (((rd_T75 l0_1 (ji13)).f1.f1.f4) == a1_13))))))) = true then (some ji13) else (impl_Table_probe.l0 k1 (l0_1.length : Int) (Int.tmod t411 (l0_1.length : Int)) (l0_1.length : Int) (wrap64 (x19_1 + 1)) a0_0 l0_1 a1_0 a1_1 a1_2 a1_3 a1_4 a1_5 a1_6 a1_7 a1_8 a1_9 a1_10 a1_11 a1_12 a1_13)) else (some ji13)) = some r := by rw [← hbq16] at H; exact H
        have Nbq16 := Gv.a0 hbq16
        clear hbq16
        by_cases c17 : (bq16 = true)
        ·subst c17
         have H1 : (if (((rd_T75 l0_1 (ji13)).f1.f0) == a1_0 && (((((rd_T75 l0_1 (ji13)).f1.f1.f0.f0) == a1_1 && (((rd_T75 l0_1 (ji13)).f1.f1.f0.f1) == a1_2 && (((rd_T75 l0_1 (ji13)).f1.f1.f0.f2) == a1_3 && (((rd_T75 l0_1 (ji13)).f1.f1.f0.f3) == a1_4 && (((rd_T75 l0_1 (ji13)).f1.f1.f0.f4) == a1_5))))) && ((((rd_T75 l0_1 (ji13)).f1.f1.f1.f0) == a1_6 && (((rd_T75 l0_1 (ji13)).f1.f1.f1.f1) == a1_7 && (((rd_T75 l0_1 (ji13)).f1.f1.f1.f2) == a1_8 && (((rd_T75 l0_1 (ji13)).f1.f1.f1.f3) == a1_9 && (((rd_T75 l0_1 (ji13)).f1.f1.f1.f4) == a1_10))))) && (((rd_T75 l0_1 (ji13)).f1.f1.f2) == a1_11 && (((rd_T75 l0_1 (ji13)).f1.f1.f3) == a1_12 && (((rd_T75 l0_1 (ji13)).f1.f1.f4) == a1_13))))))) = true then (some ji13) else (impl_Table_probe.l0 k1 (l0_1.length : Int) (Int.tmod t411 (l0_1.length : Int)) (l0_1.length : Int) (wrap64 (x19_1 + 1)) a0_0 l0_1 a1_0 a1_1 a1_2 a1_3 a1_4 a1_5 a1_6 a1_7 a1_8 a1_9 a1_10 a1_11 a1_12 a1_13)) = some r := by rw [if_pos rfl] at H; exact H
         clear H
         have H := H1
         clear H1
         by_cases c18 : (((rd_T75 l0_1 (ji13)).f1.f0) == a1_0 && (((((rd_T75 l0_1 (ji13)).f1.f1.f0.f0) == a1_1 && (((rd_T75 l0_1 (ji13)).f1.f1.f0.f1) == a1_2 && (((rd_T75 l0_1 (ji13)).f1.f1.f0.f2) == a1_3 && (((rd_T75 l0_1 (ji13)).f1.f1.f0.f3) == a1_4 && (((rd_T75 l0_1 (ji13)).f1.f1.f0.f4) == a1_5))))) && ((((rd_T75 l0_1 (ji13)).f1.f1.f1.f0) == a1_6 && (((rd_T75 l0_1 (ji13)).f1.f1.f1.f1) == a1_7 && (((rd_T75 l0_1 (ji13)).f1.f1.f1.f2) == a1_8 && (((rd_T75 l0_1 (ji13)).f1.f1.f1.f3) == a1_9 && (((rd_T75 l0_1 (ji13)).f1.f1.f1.f4) == a1_10))))) && (((rd_T75 l0_1 (ji13)).f1.f1.f2) == a1_11 && (((rd_T75 l0_1 (ji13)).f1.f1.f3) == a1_12 && (((rd_T75 l0_1 (ji13)).f1.f1.f4) == a1_13))))))) = true
         ·rw [if_pos c18] at H
          have c18b0 : (((rd_T75 l0_1 (ji13)).f1.f0) == a1_0 && (((((rd_T75 l0_1 (ji13)).f1.f1.f0.f0) == a1_1 && (((rd_T75 l0_1 (ji13)).f1.f1.f0.f1) == a1_2 && (((rd_T75 l0_1 (ji13)).f1.f1.f0.f2) == a1_3 && (((rd_T75 l0_1 (ji13)).f1.f1.f0.f3) == a1_4 && (((rd_T75 l0_1 (ji13)).f1.f1.f0.f4) == a1_5))))) && ((((rd_T75 l0_1 (ji13)).f1.f1.f1.f0) == a1_6 && (((rd_T75 l0_1 (ji13)).f1.f1.f1.f1) == a1_7 && (((rd_T75 l0_1 (ji13)).f1.f1.f1.f2) == a1_8 && (((rd_T75 l0_1 (ji13)).f1.f1.f1.f3) == a1_9 && (((rd_T75 l0_1 (ji13)).f1.f1.f1.f4) == a1_10))))) && (((rd_T75 l0_1 (ji13)).f1.f1.f2) == a1_11 && (((rd_T75 l0_1 (ji13)).f1.f1.f3) == a1_12 && (((rd_T75 l0_1 (ji13)).f1.f1.f4) == a1_13))))))) = true := c18
          (try (have c18b1 : decide (((rd_T75 l0_1 (ji13)).f1.f0) = a1_0 && (((((rd_T75 l0_1 (ji13)).f1.f1.f0.f0) == a1_1 && (((rd_T75 l0_1 (ji13)).f1.f1.f0.f1) == a1_2 && (((rd_T75 l0_1 (ji13)).f1.f1.f0.f2) == a1_3 && (((rd_T75 l0_1 (ji13)).f1.f1.f0.f3) == a1_4 && (((rd_T75 l0_1 (ji13)).f1.f1.f0.f4) == a1_5))))) && ((((rd_T75 l0_1 (ji13)).f1.f1.f1.f0) == a1_6 && (((rd_T75 l0_1 (ji13)).f1.f1.f1.f1) == a1_7 && (((rd_T75 l0_1 (ji13)).f1.f1.f1.f2) == a1_8 && (((rd_T75 l0_1 (ji13)).f1.f1.f1.f3) == a1_9 && (((rd_T75 l0_1 (ji13)).f1.f1.f1.f4) == a1_10))))) && (((rd_T75 l0_1 (ji13)).f1.f1.f2) == a1_11 && (((rd_T75 l0_1 (ji13)).f1.f1.f3) == a1_12 && (((rd_T75 l0_1 (ji13)).f1.f1.f4) == a1_13))))))) = true := by simpa using c18))
          (try (have c18b2 : (((rd_T75 l0_1 (ji13)).f1.f0) == a1_0 && (((((rd_T75 l0_1 (ji13)).f1.f1.f0.f0) == a1_1 && (((rd_T75 l0_1 (ji13)).f1.f1.f0.f1) == a1_2 && (((rd_T75 l0_1 (ji13)).f1.f1.f0.f2) == a1_3 && (((rd_T75 l0_1 (ji13)).f1.f1.f0.f3) == a1_4 && (((rd_T75 l0_1 (ji13)).f1.f1.f0.f4) == a1_5))))) && ((((rd_T75 l0_1 (ji13)).f1.f1.f1.f0) == a1_6 && (((rd_T75 l0_1 (ji13)).f1.f1.f1.f1) == a1_7 && (((rd_T75 l0_1 (ji13)).f1.f1.f1.f2) == a1_8 && (((rd_T75 l0_1 (ji13)).f1.f1.f1.f3) == a1_9 && (((rd_T75 l0_1 (ji13)).f1.f1.f1.f4) == a1_10))))) && (((rd_T75 l0_1 (ji13)).f1.f1.f2) == a1_11 && (((rd_T75 l0_1 (ji13)).f1.f1.f3) == a1_12 && (((rd_T75 l0_1 (ji13)).f1.f1.f4) == a1_13))))))) = true := by simpa using c18))
          clear c18
          obtain rfl := Option.some.inj H
          have hnb19 := NB409_410.out
          have hnc19 := NB410_409.out
          have hcz20_0 : wr.cell? ⟨gb409, 0, none⟩ = some (.int .i64 a0_0) := (blk_cell BK409.out 0).trans rfl
          have hcz20_1 : wr.cell? ⟨gb409, 1, none⟩ = some (.slice A0_1 l0_1.length c0_1) := (blk_cell BK409.out 1).trans rfl
          have hfz20_0 := blk_frozen BK409.out 0
          have hfz20_1 := blk_frozen BK409.out 1
          have p412 : 0 ≤ ((ji13) : Int) := of_decide_eq_true (by first | (with_reducible assumption) | assumption)
          have q412 : (ji13) < (l0_1.length : Int) := of_decide_eq_true (by first | (with_reducible assumption) | assumption)
          obtain ⟨ad412, e412, hx412_0, hx412_1, hx412_2, hx412_3, hx412_4, hx412_5, hx412_6, hx412_7, hx412_8, hx412_9, hx412_10, hx412_11, hx412_12, hx412_13, hx412_14, hx412_15⟩ := at_T75 HR0_1.out (ji13) p412 q412
          (try rw [← Nbq16.out] at hx412_0)
          cases e412
          replace hx412_0 := Gv.bx HB.out hx412_0
          replace hx412_1 := Gv.bx HB.out hx412_1
          replace hx412_2 := Gv.bx HB.out hx412_2
          replace hx412_3 := Gv.bx HB.out hx412_3
          replace hx412_4 := Gv.bx HB.out hx412_4
          replace hx412_5 := Gv.bx HB.out hx412_5
          replace hx412_6 := Gv.bx HB.out hx412_6
          replace hx412_7 := Gv.bx HB.out hx412_7
          replace hx412_8 := Gv.bx HB.out hx412_8
          replace hx412_9 := Gv.bx HB.out hx412_9
          replace hx412_10 := Gv.bx HB.out hx412_10
          replace hx412_11 := Gv.bx HB.out hx412_11
          replace hx412_12 := Gv.bx HB.out hx412_12
          replace hx412_13 := Gv.bx HB.out hx412_13
          replace hx412_14 := Gv.bx HB.out hx412_14
          replace hx412_15 := Gv.bx HB.out hx412_15
          replace p412 := eq_true p412
          replace q412 := eq_true q412
          have p413 : 0 ≤ ((ji13) : Int) := of_decide_eq_true (by first | (with_reducible assumption) | assumption)
          have q413 : (ji13) < (l0_1.length : Int) := of_decide_eq_true (by first | (with_reducible assumption) | assumption)
          obtain ⟨ad413, e413, hx413_0, hx413_1, hx413_2, hx413_3, hx413_4, hx413_5, hx413_6, hx413_7, hx413_8, hx413_9, hx413_10, hx413_11, hx413_12, hx413_13, hx413_14, hx413_15⟩ := at_T75 HR0_1.out (ji13) p413 q413
          (try rw [← Nbq16.out] at hx413_0)
          obtain rfl : ad412 = ad413 := (by injection e413)
          replace hx413_0 := Gv.bx HB.out hx413_0
          replace hx413_1 := Gv.bx HB.out hx413_1
          replace hx413_2 := Gv.bx HB.out hx413_2
          replace hx413_3 := Gv.bx HB.out hx413_3
          replace hx413_4 := Gv.bx HB.out hx413_4
          replace hx413_5 := Gv.bx HB.out hx413_5
          replace hx413_6 := Gv.bx HB.out hx413_6
          replace hx413_7 := Gv.bx HB.out hx413_7
          replace hx413_8 := Gv.bx HB.out hx413_8
          replace hx413_9 := Gv.bx HB.out hx413_9
          replace hx413_10 := Gv.bx HB.out hx413_10
          replace hx413_11 := Gv.bx HB.out hx413_11
          replace hx413_12 := Gv.bx HB.out hx413_12
          replace hx413_13 := Gv.bx HB.out hx413_13
          replace hx413_14 := Gv.bx HB.out hx413_14
          replace hx413_15 := Gv.bx HB.out hx413_15
          replace p413 := eq_true p413
          replace q413 := eq_true q413
          obtain ⟨hcz21_0, hcz21_1, hcz21_2, hcz21_3, hcz21_4, hcz21_5, hcz21_6, hcz21_7, hcz21_8, hcz21_9, hcz21_10, hcz21_11, hcz21_12, hcz21_13⟩ := Gv.c14 BK410.out
          obtain ⟨hfz21_0, hfz21_1, hfz21_2, hfz21_3, hfz21_4, hfz21_5, hfz21_6, hfz21_7, hfz21_8, hfz21_9, hfz21_10, hfz21_11, hfz21_12, hfz21_13⟩ := Gv.f14 BK410.out
          go_wp2
          repeat (go_quiet (fail); try go_wp2)
          go_ret
          exact ⟨by first | rfl | (simp [errW_none, errW_some] <;> rfl) | (simp only [← hji13]; first | rfl | (simp [errW_none, errW_some] <;> rfl)) | (simp [*, errW_none, errW_some] <;> rfl), by repeat (first | (with_reducible first | exact HB.out | apply below_alloc | apply pw_below_drewN | apply below_drew1 | refine below_set ?_ GE409.out | refine below_set ?_ GE410.out) | exact HB.out)⟩
         ·rw [if_neg c18] at H
          have c18b0 : (((rd_T75 l0_1 (ji13)).f1.f0) == a1_0 && (((((rd_T75 l0_1 (ji13)).f1.f1.f0.f0) == a1_1 && (((rd_T75 l0_1 (ji13)).f1.f1.f0.f1) == a1_2 && (((rd_T75 l0_1 (ji13)).f1.f1.f0.f2) == a1_3 && (((rd_T75 l0_1 (ji13)).f1.f1.f0.f3) == a1_4 && (((rd_T75 l0_1 (ji13)).f1.f1.f0.f4) == a1_5))))) && ((((rd_T75 l0_1 (ji13)).f1.f1.f1.f0) == a1_6 && (((rd_T75 l0_1 (ji13)).f1.f1.f1.f1) == a1_7 && (((rd_T75 l0_1 (ji13)).f1.f1.f1.f2) == a1_8 && (((rd_T75 l0_1 (ji13)).f1.f1.f1.f3) == a1_9 && (((rd_T75 l0_1 (ji13)).f1.f1.f1.f4) == a1_10))))) && (((rd_T75 l0_1 (ji13)).f1.f1.f2) == a1_11 && (((rd_T75 l0_1 (ji13)).f1.f1.f3) == a1_12 && (((rd_T75 l0_1 (ji13)).f1.f1.f4) == a1_13))))))) = false := by simpa using c18
          (try (have c18b1 : decide (((rd_T75 l0_1 (ji13)).f1.f0) = a1_0 && (((((rd_T75 l0_1 (ji13)).f1.f1.f0.f0) == a1_1 && (((rd_T75 l0_1 (ji13)).f1.f1.f0.f1) == a1_2 && (((rd_T75 l0_1 (ji13)).f1.f1.f0.f2) == a1_3 && (((rd_T75 l0_1 (ji13)).f1.f1.f0.f3) == a1_4 && (((rd_T75 l0_1 (ji13)).f1.f1.f0.f4) == a1_5))))) && ((((rd_T75 l0_1 (ji13)).f1.f1.f1.f0) == a1_6 && (((rd_T75 l0_1 (ji13)).f1.f1.f1.f1) == a1_7 && (((rd_T75 l0_1 (ji13)).f1.f1.f1.f2) == a1_8 && (((rd_T75 l0_1 (ji13)).f1.f1.f1.f3) == a1_9 && (((rd_T75 l0_1 (ji13)).f1.f1.f1.f4) == a1_10))))) && (((rd_T75 l0_1 (ji13)).f1.f1.f2) == a1_11 && (((rd_T75 l0_1 (ji13)).f1.f1.f3) == a1_12 && (((rd_T75 l0_1 (ji13)).f1.f1.f4) == a1_13))))))) = false := by simpa using c18))
          (try (have c18b2 : (((rd_T75 l0_1 (ji13)).f1.f0) == a1_0 && (((((rd_T75 l0_1 (ji13)).f1.f1.f0.f0) == a1_1 && (((rd_T75 l0_1 (ji13)).f1.f1.f0.f1) == a1_2 && (((rd_T75 l0_1 (ji13)).f1.f1.f0.f2) == a1_3 && (((rd_T75 l0_1 (ji13)).f1.f1.f0.f3) == a1_4 && (((rd_T75 l0_1 (ji13)).f1.f1.f0.f4) == a1_5))))) && ((((rd_T75 l0_1 (ji13)).f1.f1.f1.f0) == a1_6 && (((rd_T75 l0_1 (ji13)).f1.f1.f1.f1) == a1_7 && (((rd_T75 l0_1 (ji13)).f1.f1.f1.f2) == a1_8 && (((rd_T75 l0_1 (ji13)).f1.f1.f1.f3) == a1_9 && (((rd_T75 l0_1 (ji13)).f1.f1.f1.f4) == a1_10))))) && (((rd_T75 l0_1 (ji13)).f1.f1.f2) == a1_11 && (((rd_T75 l0_1 (ji13)).f1.f1.f3) == a1_12 && (((rd_T75 l0_1 (ji13)).f1.f1.f4) == a1_13))))))) = false := by simpa using c18))
          (try (have c18b3 : ¬ (((rd_T75 l0_1 (ji13)).f1.f0) = a1_0 && (((((rd_T75 l0_1 (ji13)).f1.f1.f0.f0) == a1_1 && (((rd_T75 l0_1 (ji13)).f1.f1.f0.f1) == a1_2 && (((rd_T75 l0_1 (ji13)).f1.f1.f0.f2) == a1_3 && (((rd_T75 l0_1 (ji13)).f1.f1.f0.f3) == a1_4 && (((rd_T75 l0_1 (ji13)).f1.f1.f0.f4) == a1_5))))) && ((((rd_T75 l0_1 (ji13)).f1.f1.f1.f0) == a1_6 && (((rd_T75 l0_1 (ji13)).f1.f1.f1.f1) == a1_7 && (((rd_T75 l0_1 (ji13)).f1.f1.f1.f2) == a1_8 && (((rd_T75 l0_1 (ji13)).f1.f1.f1.f3) == a1_9 && (((rd_T75 l0_1 (ji13)).f1.f1.f1.f4) == a1_10))))) && (((rd_T75 l0_1 (ji13)).f1.f1.f2) == a1_11 && (((rd_T75 l0_1 (ji13)).f1.f1.f3) == a1_12 && (((rd_T75 l0_1 (ji13)).f1.f1.f4) == a1_13))))))) := by simpa using c18))
          clear c18
          have H' := Gv.a0 H
          clear H
          have hnb22 := NB409_410.out
          have hnc22 := NB410_409.out
          have hcz23_0 : wr.cell? ⟨gb409, 0, none⟩ = some (.int .i64 a0_0) := (blk_cell BK409.out 0).trans rfl
          have hcz23_1 : wr.cell? ⟨gb409, 1, none⟩ = some (.slice A0_1 l0_1.length c0_1) := (blk_cell BK409.out 1).trans rfl
          have hfz23_0 := blk_frozen BK409.out 0
          have hfz23_1 := blk_frozen BK409.out 1
          have p412 : 0 ≤ ((ji13) : Int) := of_decide_eq_true (by first | (with_reducible assumption) | assumption)
          have q412 : (ji13) < (l0_1.length : Int) := of_decide_eq_true (by first | (with_reducible assumption) | assumption)
          obtain ⟨ad412, e412, hx412_0, hx412_1, hx412_2, hx412_3, hx412_4, hx412_5, hx412_6, hx412_7, hx412_8, hx412_9, hx412_10, hx412_11, hx412_12, hx412_13, hx412_14, hx412_15⟩ := at_T75 HR0_1.out (ji13) p412 q412
          (try rw [← Nbq16.out] at hx412_0)
          cases e412
          replace hx412_0 := Gv.bx HB.out hx412_0
          replace hx412_1 := Gv.bx HB.out hx412_1
          replace hx412_2 := Gv.bx HB.out hx412_2
          replace hx412_3 := Gv.bx HB.out hx412_3
          replace hx412_4 := Gv.bx HB.out hx412_4
          replace hx412_5 := Gv.bx HB.out hx412_5
          replace hx412_6 := Gv.bx HB.out hx412_6
          replace hx412_7 := Gv.bx HB.out hx412_7
          replace hx412_8 := Gv.bx HB.out hx412_8
          replace hx412_9 := Gv.bx HB.out hx412_9
          replace hx412_10 := Gv.bx HB.out hx412_10
          replace hx412_11 := Gv.bx HB.out hx412_11
          replace hx412_12 := Gv.bx HB.out hx412_12
          replace hx412_13 := Gv.bx HB.out hx412_13
          replace hx412_14 := Gv.bx HB.out hx412_14
          replace hx412_15 := Gv.bx HB.out hx412_15
          replace p412 := eq_true p412
          replace q412 := eq_true q412
          have p413 : 0 ≤ ((ji13) : Int) := of_decide_eq_true (by first | (with_reducible assumption) | assumption)
          have q413 : (ji13) < (l0_1.length : Int) := of_decide_eq_true (by first | (with_reducible assumption) | assumption)
          obtain ⟨ad413, e413, hx413_0, hx413_1, hx413_2, hx413_3, hx413_4, hx413_5, hx413_6, hx413_7, hx413_8, hx413_9, hx413_10, hx413_11, hx413_12, hx413_13, hx413_14, hx413_15⟩ := at_T75 HR0_1.out (ji13) p413 q413
          (try rw [← Nbq16.out] at hx413_0)
          obtain rfl : ad412 = ad413 := (by injection e413)
          replace hx413_0 := Gv.bx HB.out hx413_0
          replace hx413_1 := Gv.bx HB.out hx413_1
          replace hx413_2 := Gv.bx HB.out hx413_2
          replace hx413_3 := Gv.bx HB.out hx413_3
          replace hx413_4 := Gv.bx HB.out hx413_4
          replace hx413_5 := Gv.bx HB.out hx413_5
          replace hx413_6 := Gv.bx HB.out hx413_6
          replace hx413_7 := Gv.bx HB.out hx413_7
          replace hx413_8 := Gv.bx HB.out hx413_8
          replace hx413_9 := Gv.bx HB.out hx413_9
          replace hx413_10 := Gv.bx HB.out hx413_10
          replace hx413_11 := Gv.bx HB.out hx413_11
          replace hx413_12 := Gv.bx HB.out hx413_12
          replace hx413_13 := Gv.bx HB.out hx413_13
          replace hx413_14 := Gv.bx HB.out hx413_14
          replace hx413_15 := Gv.bx HB.out hx413_15
          replace p413 := eq_true p413
          replace q413 := eq_true q413
          obtain ⟨hcz24_0, hcz24_1, hcz24_2, hcz24_3, hcz24_4, hcz24_5, hcz24_6, hcz24_7, hcz24_8, hcz24_9, hcz24_10, hcz24_11, hcz24_12, hcz24_13⟩ := Gv.c14 BK410.out
          obtain ⟨hfz24_0, hfz24_1, hfz24_2, hfz24_3, hfz24_4, hfz24_5, hfz24_6, hfz24_7, hfz24_8, hfz24_9, hfz24_10, hfz24_11, hfz24_12, hfz24_13⟩ := Gv.f14 BK410.out
          go_wp2
          repeat (go_quiet (fail); try go_wp2)
          go_roundg k1
          case measure => have := HK1.out; omega
          case rel => exact ⟨(wrap64 (x19_1 + 1)), (by first | rfl | (simp; done) | (simp [Int.tdiv_eq_ediv_of_nonneg]; done) | (simp [*]; done)), H', ⟨by have := HK1.out; omega⟩, ⟨by (with_reducible repeat (first | refine blk_drewN ?_ _ | refine blk_drew ?_ | refine blk_alloc ?_ _)); exact BK409.out⟩, ⟨by (with_reducible repeat (first | refine blk_drewN ?_ _ | refine blk_drew ?_ | refine blk_alloc ?_ _)); exact BK410.out⟩, ⟨by repeat (first | (with_reducible first | exact HB.out | apply below_alloc | apply pw_below_drewN | apply below_drew1 | refine below_set ?_ GE409.out | refine below_set ?_ GE410.out) | exact HB.out)⟩⟩
        ·replace c17 := Bool.eq_false_iff.mpr c17
         subst c17
         have H1 : (some ji13) = some r := by rw [if_neg (show ¬ (false = true) by decide)] at H; exact H
         clear H
         have H := H1
         clear H1
         obtain rfl := Option.some.inj H
         have hnb25 := NB409_410.out
         have hnc25 := NB410_409.out
         have hcz26_0 : wr.cell? ⟨gb409, 0, none⟩ = some (.int .i64 a0_0) := (blk_cell BK409.out 0).trans rfl
         have hcz26_1 : wr.cell? ⟨gb409, 1, none⟩ = some (.slice A0_1 l0_1.length c0_1) := (blk_cell BK409.out 1).trans rfl
         have hfz26_0 := blk_frozen BK409.out 0
         have hfz26_1 := blk_frozen BK409.out 1
         have p412 : 0 ≤ ((ji13) : Int) := of_decide_eq_true (by first | (with_reducible assumption) | assumption)
         have q412 : (ji13) < (l0_1.length : Int) := of_decide_eq_true (by first | (with_reducible assumption) | assumption)
         obtain ⟨ad412, e412, hx412_0, hx412_1, hx412_2, hx412_3, hx412_4, hx412_5, hx412_6, hx412_7, hx412_8, hx412_9, hx412_10, hx412_11, hx412_12, hx412_13, hx412_14, hx412_15⟩ := at_T75 HR0_1.out (ji13) p412 q412
         (try rw [← Nbq16.out] at hx412_0)
         cases e412
         replace hx412_0 := Gv.bx HB.out hx412_0
         replace hx412_1 := Gv.bx HB.out hx412_1
         replace hx412_2 := Gv.bx HB.out hx412_2
         replace hx412_3 := Gv.bx HB.out hx412_3
         replace hx412_4 := Gv.bx HB.out hx412_4
         replace hx412_5 := Gv.bx HB.out hx412_5
         replace hx412_6 := Gv.bx HB.out hx412_6
         replace hx412_7 := Gv.bx HB.out hx412_7
         replace hx412_8 := Gv.bx HB.out hx412_8
         replace hx412_9 := Gv.bx HB.out hx412_9
         replace hx412_10 := Gv.bx HB.out hx412_10
         replace hx412_11 := Gv.bx HB.out hx412_11
         replace hx412_12 := Gv.bx HB.out hx412_12
         replace hx412_13 := Gv.bx HB.out hx412_13
         replace hx412_14 := Gv.bx HB.out hx412_14
         replace hx412_15 := Gv.bx HB.out hx412_15
         replace p412 := eq_true p412
         replace q412 := eq_true q412
         go_wp2
         repeat (go_quiet (fail); try go_wp2)
         go_ret
         exact ⟨by first | rfl | (simp [errW_none, errW_some] <;> rfl) | (simp only [← hji13]; first | rfl | (simp [errW_none, errW_some] <;> rfl)) | (simp [*, errW_none, errW_some] <;> rfl), by repeat (first | (with_reducible first | exact HB.out | apply below_alloc | apply pw_below_drewN | apply below_drew1 | refine below_set ?_ GE409.out | refine below_set ?_ GE410.out) | exact HB.out)⟩
       ·rw [if_neg c15] at H
        exact absurd H (by simp)
      ·rw [if_neg c14] at H
       exact absurd H (by simp)
    ·rw [if_neg c11] at H
     have c11b0 : decide (x19_1 < (l0_1.length : Int)) = false := decide_eq_false c11
     clear c11
     obtain rfl := Option.some.inj H
     go_wp2
     repeat (go_quiet (fail); try go_wp2)
     go_ret
     exact ⟨by first | rfl | (simp [errW_none, errW_some] <;> rfl) | (simp [*, errW_none, errW_some] <;> rfl), by repeat (first | (with_reducible first | exact HB.out | apply below_alloc | apply pw_below_drewN | apply below_drew1 | refine below_set ?_ GE409.out | refine below_set ?_ GE410.out) | exact HB.out)⟩

end Go.Proofs.Ytfnpodebjejhpaa.PTu
