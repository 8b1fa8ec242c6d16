/- Plain Lean functions of a law's Go functions, their contracts, by a program of this session (wip/pr.py over the kit's print). -/
import Derived.Test.YtfnpodebjejhpaaPTdx0
import Derived.Test.YtfnpodebjejhpaaPTdx1
import Derived.Test.YtfnpodebjejhpaaPTdx6
namespace Go.Proofs.Ytfnpodebjejhpaa.PTd
open Go.RowKit Go.Proofs.YtfnpodebjejhpaaW.PrintWords Go.Proofs.YtfnpodebjejhpaaW.PrintLast Go.Proofs.YtfnpodebjejhpaaW.PrintMore
attribute [local go_sem] max2_int min2_int max_two min_two max_three min_three max_four min_four   -- for this text's walks alone
set_option linter.unusedVariables false
set_option linter.unusedSimpArgs false

attribute [local go_sem high] eqA33
/-! ### slices_Concat_byte_byte: function 73 -/
mutual
def slices_Concat_byte_byte.l0 : Nat → List (List Int) → Int → List (List Int) → Int → Int → Option (List Int)
 | 0, _, _, _, _, _ => none
 | k + 1, x0, x3, x9, x10, x11 => if x11 < x10 then (if 0 ≤ x11 then (if x11 < (x9.length : Int) then (if (wrap64 (x3 + ((rd_L11 x9 x11).length : Int))) < 0 then (none) else (slices_Concat_byte_byte.l0 k x0 (wrap64 (x3 + ((rd_L11 x9 x11).length : Int))) x9 x10 (wrap64 (x11 + 1)))) else (none)) else (none)) else ((slices_Grow_byte_byte.f x3).bind fun t384 => (slices_Concat_byte_byte.l1 k t384 x0 (x0.length : Int) 0))
def slices_Concat_byte_byte.l1 : Nat → List Int → List (List Int) → Int → Int → Option (List Int)
 | 0, _, _, _, _ => none
 | k + 1, x6, x25, x26, x27 => if x27 < x26 then (if 0 ≤ x27 then (if x27 < (x25.length : Int) then (if x6.length + (rd_L11 x25 x27).length < 140737488355328 then (slices_Concat_byte_byte.l1 k (x6 ++ (rd_L11 x25 x27)) x25 x26 (wrap64 (x27 + 1))) else (none)) else (none)) else (none)) else (some x6)
end
def slices_Concat_byte_byte.f (k : Nat) (l0 : List (List Int)) : Option (List Int) := slices_Concat_byte_byte.l0 k l0 0 l0 (l0.length : Int) 0
set_option maxHeartbeats 8000000 in
set_option maxRecDepth 100000 in
theorem slices_Concat_byte_byte.calls (k : Nat) (A0 : Option Addr) (c0 : Nat) (l0 : List (List Int)) (r : List Int) (w : World) (hr0 : Kd.C (Kd.slice 5 (Kd.int .u8)) w A0 l0.length l0) (hc0 : l0.length ≤ c0) (h : slices_Concat_byte_byte.f k l0 = some r) :
  Calls Try.prog 73 #[.slice A0 l0.length c0] w fun e w' => ∃ v0_ : Value, e = .returned (v0_) ∧ Kd.R (Kd.int .u8) 5 w' w.heap.size (fun _ => True) v0_ r ∧ Below w.heap.size w w' := by
 have HR0 := Gv.a0 hr0; have HC0 := Gv.a0 hc0; clear hr0 hc0; have HB := Gv.a0 (Below.refl w.heap.size w); unfold slices_Concat_byte_byte.f at h; have H := h; clear h; have H' := Gv.a0 H; clear H
 go_enter Try.func73, Try.ntmps73
 go_wp2
 go_loopg [3, 11] k (fun kq v3 v11 w' => ∃ (x3_1 : Int) (x11_1 : Int), v3 = .int .i64 x3_1 ∧ v11 = .int .i64 x11_1 ∧ Aside0 (slices_Concat_byte_byte.l0 kq l0 x3_1 l0 (l0.length : Int) x11_1 = some r) ∧ Aside0 (kq ≤ k) ∧ Aside0 (Below w.heap.size w w'))
 case atStart => exact ⟨(0), (0), Gv.rq, Gv.rq, H', ⟨Nat.le_refl _⟩, ⟨Gv.bw⟩⟩
 case round =>
  clear H'; obtain ⟨x3_1, x11_1, rfl, rfl, HA, HK1, HB⟩ := hrel; cases gk with
  | zero => exact absurd HA.out (by simp [slices_Concat_byte_byte.l0])
  | succ k1 =>
   have H := HA.out; clear HA; simp only [slices_Concat_byte_byte.l0] at H
   by_cases c2 : x11_1 < (l0.length : Int)
   ·rw [if_pos c2] at H; have c2b0 := decide_eq_true c2; clear c2
    by_cases c3 : 0 ≤ x11_1
    rotate_left
    ·rw [if_neg c3] at H; cases H
    rw [if_pos c3] at H; have c3b0 := decide_eq_true c3; clear c3
    by_cases c4 : x11_1 < (l0.length : Int)
    rotate_left
    ·rw [if_neg c4] at H; cases H
    rw [if_pos c4] at H; have c4b0 := decide_eq_true c4; clear c4
    by_cases c5 : (wrap64 (x3_1 + ((rd_L11 l0 x11_1).length : Int))) < 0
    ·rw [if_pos c5] at H; cases H
    ·rw [if_neg c5] at H; have c5b0 := decide_eq_false c5; clear c5; have H' := Gv.a0 H; clear H; have p1 : 0 ≤ (x11_1 : Int) := Gv.od; have q1 : x11_1 < (l0.length : Int) := Gv.od; obtain ⟨ad1, A1_0, c1_0, e1, u1_0, hl1_0, hi1_0⟩ := at_L11 HR0.out x11_1 p1 q1; cases e1; replace u1_0 := Gv.bx HB.out u1_0; have HR1_0 := Gv.a0 hi1_0; have HC1_0 := Gv.a0 hl1_0; clear hi1_0 hl1_0; replace p1 := eq_true p1; replace q1 := eq_true q1
     go_wp2
     go_roundg k1
     case measure => have := HK1.out; omega
     case rel => exact ⟨(wrap64 (x3_1 + ((rd_L11 l0 x11_1).length : Int))), (wrap64 (x11_1 + 1)), Gv.rq, Gv.rq, H', ⟨by have := HK1.out; omega⟩, ⟨Gv.bw⟩⟩
   ·rw [if_neg c2] at H; have c2b0 := decide_eq_false c2; clear c2; replace H := Option.bind_eq_some_iff.mp H; obtain ⟨t2, A60, H⟩ := H
    (try dsimp only at H); have A6 := Gv.a0 A60; clear A60; have H' := Gv.a0 H; clear H
    go_wp2_with (first | ((with_reducible refine gate_callee (f := 85) rfl ?_); refine goesL_ (some 24) rfl rfl Try.func85 (by kernel_rfl) rfl #[.slice none 0 0, .int .i64 x3_1] rfl Gv.lm ?_; (with_reducible refine (slices_Grow_byte_byte.calls x3_1 t2 _ A6.out).mono ?_); rintro e w7 ⟨v5, rfl, ho0, hb⟩; refine ⟨_, rfl, ?_⟩; have HO3 := Gv.a0 (Kd.R_lower ho0 (below_size Gv.bw)); replace HB := Gv.hb hb; clear hb ho0))
    go_loopg [6, 27] k1 (fun kq v6 v27 w' => ∃ (x6_2 : List Int) (x27_2 : Int), v27 = .int .i64 x27_2 ∧ Aside0 (slices_Concat_byte_byte.l1 kq x6_2 l0 (l0.length : Int) x27_2 = some r) ∧ Aside0 (kq ≤ k1) ∧ Aside0 (Kd.R (Kd.int .u8) 5 w' w.heap.size (fun _ => True) v6 x6_2) ∧ Aside0 (Below w.heap.size w w'))
    case atStart => exact ⟨(t2), (0), Gv.rq, H', ⟨Nat.le_refl _⟩, ⟨Gv.kr HO3.out⟩, ⟨Gv.bw⟩⟩
    case round =>
     clear H'
     try clear c2
     try clear c2b0
     try clear p2
     try clear c3
     try clear c3b0
     try clear p3
     try clear q3
     try clear hx3
     try clear c4
     try clear c4b0
     try clear c5
     try clear c5b0
     try clear p6
     try clear c7
     try clear u1_0
     try clear p1
     try clear q1
     obtain ⟨x6_2, x27_2, rfl, HA, HK2, HO_6, HB⟩ := hrel; cases gk with
     | zero => exact absurd HA.out (by simp [slices_Concat_byte_byte.l1])
     | succ k2 =>
      have H := HA.out; clear HA; simp only [slices_Concat_byte_byte.l1] at H
      by_cases c8 : x27_2 < (l0.length : Int)
      rotate_left
      ·rw [if_neg c8] at H; have c8b0 := decide_eq_false c8; clear c8; obtain rfl := Option.some.inj H
       go_wp2
       go_ret
       exact ⟨_, Gv.rt, Gv.kr HO_6.out, Gv.bw⟩

      rw [if_pos c8] at H; have c8b0 := decide_eq_true c8; clear c8
      by_cases c9 : 0 ≤ x27_2
      rotate_left
      ·rw [if_neg c9] at H; cases H
      rw [if_pos c9] at H; have c9b0 := decide_eq_true c9; clear c9
      by_cases c10 : x27_2 < (l0.length : Int)
      rotate_left
      ·rw [if_neg c10] at H; cases H
      rw [if_pos c10] at H; have c10b0 := decide_eq_true c10; clear c10
      by_cases c11 : x6_2.length + (rd_L11 l0 x27_2).length < 140737488355328
      rotate_left
      ·rw [if_neg c11] at H; cases H
      rw [if_pos c11] at H; have LMc11 := Gv.a0 c11; clear c11; obtain ⟨y0, hy0⟩ : ∃ y_ : List Int, y_ = (x6_2 ++ (rd_L11 l0 x27_2)) := ⟨_, rfl⟩
      replace H : (slices_Concat_byte_byte.l1 k2 y0 l0 (l0.length : Int) (wrap64 (x27_2 + 1))) = some r := by first | (rw [hy0]; with_reducible exact H) | (have H2_ := (Option.bind_some _ _).symm.trans H; rw [hy0]; with_reducible exact H2_) | (have H2_ := (Option.bind_some _ _).symm.trans H; with_reducible exact H2_) | with_reducible exact H | (rw [hy0]; exact H) | exact H
      have Ny0 := Gv.a0 hy0; clear hy0; have H' := Gv.a0 H; clear H; have p12 : 0 ≤ (x27_2 : Int) := Gv.od; have q12 : x27_2 < (l0.length : Int) := Gv.od; obtain ⟨ad12, A12_0, c12_0, e12, u12_0, hl12_0, hi12_0⟩ := at_L11 HR0.out x27_2 p12 q12; cases e12; replace u12_0 := Gv.bx HB.out u12_0; have HR12_0 := Gv.a0 hi12_0; have HC12_0 := Gv.a0 hl12_0; clear hi12_0 hl12_0; replace p12 := eq_true p12; replace q12 := eq_true q12
      go_wp2_with (first | ((with_reducible refine gate_builtin (b := .append) (xs := #[.tmp 31, .tmp 32]) rfl ?_); at_builtin; refine Kd.R_append_rows (Kd.int .u8) (w0 := w) w.heap.size rfl (.tmp 31) (.tmp 32) 68 5 (.int .u8 0) 1 rfl Try.underlying68 info5 rfl (by decide) (by omega) u6 x6_2 (rd_L11 l0 x27_2) _ _ _ (fun _ => True) (fun _ => False) rfl rfl ?aO ?aR (fun _ _ h => h) (fun _ h => h.elim) ?aF ?aB ?aS ?aL ?_; (case aR => repeat (first | exact (Kd.C_below HR12_0.out HB.out) | (with_reducible refine Kd.C_alloc ?_ _) | (with_reducible refine Kd.C_drewN ?_ _) | (with_reducible refine Kd.C_drew ?_))); (case aB => exact Gv.bw); (case aF => exact (fun _ _ => trivial)); (case aO => exact (Gv.kr HO_6.out)); (case aS => exact (below_size Gv.bw)); (case aL => have := LMc11.out; omega); intro v7 w12 ho hb hg hat; rw [← Ny0.out] at ho; replace HB := Gv.a0 (hb); have HO4 := Gv.a0 (ho); clear HO_6 ho hb hg hat))
      go_roundg k2
      case measure => have := HK1.out; have := HK2.out; omega
      case rel => exact ⟨(y0), (wrap64 (x27_2 + 1)), Gv.rq, H', ⟨by have := HK1.out; have := HK2.out; omega⟩, ⟨Gv.kr HO4.out⟩, ⟨Gv.bw⟩⟩
/-! ### impl_put: function 87 -/
def impl_put.l0 : Nat → Int → Int → List Int → Int → Int → Option (List Int)
 | 0, _, _, _, _, _ => none
 | k + 1, x0, x1, x5, x10, x11 => if x11 < x10 then (if 0 ≤ (wrap64 (8 * (wrap64 ((wrap64 (x1 - 1)) - x11)))) then (if 0 ≤ x11 then (if x11 < (x5.length : Int) then (impl_put.l0 k x0 x1 (x5.set (x11 : Int).toNat ((shr .i64 x0 (wrap64 (8 * (wrap64 ((wrap64 (x1 - 1)) - x11))))) % 256)) x10 (wrap64 (x11 + 1))) else (none)) else (none)) else (none)) else (some x5)
def impl_put.f (k : Nat) (a0 : Int) (a1 : Int) : Option (List Int) := if 0 ≤ a1 then (if (a1 : Int).toNat ≤ 281474976710656 then ((some (List.replicate (a1 : Int).toNat 0 : List Int)).bind fun y391 => (impl_put.l0 k a0 a1 y391 (y391.length : Int) 0)) else (none)) else (none)
set_option maxHeartbeats 8000000 in
set_option maxRecDepth 100000 in
theorem impl_put.calls (k : Nat) (a0 : Int) (a1 : Int) (r : List Int) (w : World) (h : impl_put.f k a0 a1 = some r) :
  Calls Try.prog 87 #[.int .i64 a0, .int .i64 a1] w fun e w' => ∃ v0_ : Value, e = .returned (v0_) ∧ Kd.R (Kd.int .u8) 5 w' w.heap.size (fun _ => True) v0_ r ∧ Below w.heap.size w w' := by
 have HB := Gv.a0 (Below.refl w.heap.size w); unfold impl_put.f at h; have H := h; clear h
 by_cases c3 : 0 ≤ a1
 rotate_left
 ·rw [if_neg c3] at H; cases H

 rw [if_pos c3] at H; have c3b0 := eq_true c3; have c3b1 := decide_eq_true c3; clear c3
 by_cases c4 : (a1 : Int).toNat ≤ 281474976710656
 rotate_left
 ·rw [if_neg c4] at H; cases H
 rw [if_pos c4] at H; have c4b0 := eq_true c4; have c4b1 := decide_eq_true c4; clear c4; obtain ⟨y0, hy0⟩ : ∃ y_ : List Int, y_ = (List.replicate (a1 : Int).toNat 0) := ⟨_, rfl⟩
 replace H : (impl_put.l0 k a0 a1 y0 (y0.length : Int) 0) = some r := by first | (rw [hy0]; with_reducible exact H) | (have H2_ := (Option.bind_some _ _).symm.trans H; rw [hy0]; with_reducible exact H2_) | (have H2_ := (Option.bind_some _ _).symm.trans H; with_reducible exact H2_) | with_reducible exact H | (rw [hy0]; exact H) | exact H
 have Ny0 := Gv.a0 hy0; clear hy0; have H' := Gv.a0 H; clear H
 go_enter Try.func87, Try.ntmps87
 go_wp2_with (first | ((with_reducible refine gate_dst (N := 8) rfl ?_); refine Kd.R_make (Kd.int .u8) _ 5 rfl (N := 8) rfl 68 _ _ rfl a1 rfl rfl Try.underlying68 (.int .u8 0) 1 info5 rfl (by decide) (by omega) 0 (ok := fun _ => True) (okp := fun _ => True) rfl (fun _ hk => hk) trivial (Gv.od) (Nat.le_trans (Nat.mul_le_mul_right _ (Gv.od : a1.toNat ≤ 281474976710656)) (by omega)) (Below.refl _ _) (Nat.le_refl _) ?_; intro v3 w5 ho6 hb hg_ hnew_; clear hg_ hnew_; (first | rw [← Ny0.out] at ho6 | (simp only [Int.reduceToNat] at ho6; rw [← Ny0.out] at ho6)); have HO2 := Gv.a0 (Kd.R_lower ho6 (below_size Gv.bw)); replace HB := Gv.hb hb; clear hb ho6; obtain ⟨Ao7, co7, eo7⟩ := Kd.R_slice HO2.out; subst eo7))
 go_loopg [11] k (fun kq v11 w' => ∃ (x5_1 : List Int) (x11_1 : Int), v11 = .int .i64 x11_1 ∧ Aside0 (impl_put.l0 kq a0 a1 x5_1 (y0.length : Int) x11_1 = some r) ∧ Aside0 (kq ≤ k) ∧ Aside0 (Kd.R (Kd.int .u8) 5 w' w.heap.size (fun _ => True) (.slice Ao7 y0.length co7) x5_1) ∧ Aside0 (Below w.heap.size w w'))
 case atStart => exact ⟨(y0), (0), Gv.rq, H', ⟨Nat.le_refl _⟩, ⟨Gv.kr HO2.out⟩, ⟨Gv.bw⟩⟩
 case round =>
  clear H'
  try clear p2
  try clear c3
  try clear c3b0
  try clear c3b1
  try clear c4
  try clear c4b0
  try clear c4b1
  obtain ⟨x5_1, x11_1, rfl, HA, HK1, HO_5, HB⟩ := hrel; have hl5_1 := (Kd.R_reads' HO_5.out).1; rw [hl5_1] at HO_5
  (try simp only [hl5_1]); cases gk with
  | zero => exact absurd HA.out (by simp [impl_put.l0])
  | succ k1 =>
   have H := HA.out; clear HA; simp only [impl_put.l0] at H
   by_cases c8 : x11_1 < (y0.length : Int)
   rotate_left
   ·rw [if_neg c8] at H; have c8b0 := decide_eq_false c8
    (try (have c8b9 := c8b0; rw [hl5_1] at c8b9))
    (try (have c8b8 := c8b0; rw [← hl5_1] at c8b8)); clear c8; obtain rfl := Option.some.inj H
    go_wp2
    go_ret
    exact ⟨_, Gv.rt, Gv.kr HO_5.out, Gv.bw⟩
   rw [if_pos c8] at H; have c8b0 := decide_eq_true c8
   (try (have c8b9 := c8b0; rw [hl5_1] at c8b9))
   (try (have c8b8 := c8b0; rw [← hl5_1] at c8b8)); clear c8; obtain ⟨ji9, hji9⟩ : ∃ j_ : Int, (wrap64 (8 * (wrap64 ((wrap64 (a1 - 1)) - x11_1)))) = j_ := ⟨_, rfl⟩
   replace H : (if 0 ≤ (ji9) then (if 0 ≤ x11_1 then (if x11_1 < (x5_1.length : Int) then (impl_put.l0 k1 a0 a1 (x5_1.set (x11_1 : Int).toNat ((shr .i64 a0 (ji9)) % 256)) (y0.length : Int) (wrap64 (x11_1 + 1))) else (none)) else (none)) else (none)) = some r := by first | (rw [hji9] at H; exact H) | (simp only [hji9] at H ⊢; exact H)
   have hji9w : (IntKind.i64.wrap (8 * (wrap64 ((wrap64 (a1 - 1)) - x11_1)))) = ji9 := (i64_w _).trans hji9
   by_cases c10 : 0 ≤ (ji9)
   rotate_left
   ·rw [if_neg c10] at H; cases H
   rw [if_pos c10] at H; have c10b0 := eq_true c10; have c10b1 := decide_eq_true c10; clear c10; obtain ⟨ji11, hji11⟩ : ∃ j_ : Int, (shr .i64 a0 (ji9)) = j_ := ⟨_, rfl⟩
   replace H : (if 0 ≤ x11_1 then (if x11_1 < (x5_1.length : Int) then (impl_put.l0 k1 a0 a1 (x5_1.set (x11_1 : Int).toNat ((ji11) % 256)) (y0.length : Int) (wrap64 (x11_1 + 1))) else (none)) else (none)) = some r := by first | (rw [hji11] at H; exact H) | (simp only [hji11] at H ⊢; exact H)
   have hji11_ : (a0 / 2 ^ min (ji9).toNat 64) = ji11 := hji11; have hji11z : (ji9) ≤ 64 → (a0 / 2 ^ (ji9).toNat) = ji11 := shr_small hji11
   by_cases c12 : 0 ≤ x11_1
   rotate_left
   ·rw [if_neg c12] at H; cases H
   rw [if_pos c12] at H; have c12b0 := decide_eq_true c12; clear c12
   by_cases c13 : x11_1 < (x5_1.length : Int)
   rotate_left
   ·rw [if_neg c13] at H; cases H
   rw [if_pos c13] at H; have c13b0 := decide_eq_true c13; clear c13; obtain ⟨y1, hy1⟩ : ∃ y_ : List Int, y_ = (x5_1.set (x11_1 : Int).toNat ((ji11) % 256)) := ⟨_, rfl⟩
   replace H : (impl_put.l0 k1 a0 a1 y1 (y0.length : Int) (wrap64 (x11_1 + 1))) = some r := by first | (rw [hy1]; with_reducible exact H) | (have H2_ := (Option.bind_some _ _).symm.trans H; rw [hy1]; with_reducible exact H2_) | (have H2_ := (Option.bind_some _ _).symm.trans H; with_reducible exact H2_) | with_reducible exact H | (rw [hy1]; exact H) | exact H
   have Ny1 := Gv.a0 hy1; clear hy1; have H' := Gv.a0 H; clear H; have p14 : 0 ≤ (x11_1 : Int) := Gv.od; have q14 : (x11_1 : Int) < ((x5_1.length : Int) : Int) := Gv.od; obtain ⟨go14, co14, eo14, gb14, gl14, cl14, HG14⟩ := Kd.R_form HO_5.out (by omega)
   (first | cases eo14 | (injection eo14 with ea_ en_ ec_; (first | subst ea_ | (injection ea_ with ea_; subst ea_)); subst ec_; clear en_)); have GB14 := Gv.a0 gb14; have GG14 := Gv.a0 HG14; clear gb14 gl14 HG14; obtain ⟨u14_0, n14_0⟩ := Kd.R_celln 0 HO_5.out (x11_1 : Int) p14 q14; replace p14 := eq_true p14; replace q14 := eq_true q14; have HP15 := Kd.R_putg HO_5.out (x11_1 : Int) ((ji11) % 256)
   go_wp2_with (first | ((with_reducible refine gate_store (t := 5) (p := 24) rfl ?_); refine store_event (t := 5) (p := 24) (v := ?vo_w16) (w1 := (wr.setCell ⟨go14, (x11_1 : Int).toNat, none⟩ (.int .u8 ((ji11) % 256)))) ?hg ?ho ?hn ?hr ?_; (case ho => rfl); (case hg => rfl); (case hn => rfl); (case hr => first | (go_simp; done) | (go_simp; rfl)); intro w16 hw; have hg : wr.grownBy w16 (some go14) := (by rw [hw]; exact HP15.2); have hp_ : Kd.R (Kd.int .u8) 5 w16 w.heap.size (fun _ => True) (.slice (some ⟨go14, 0, none⟩) x5_1.length co7) y1 := (by rw [hw, Ny1.out]; exact HP15.1); clear HP15; replace HO_5 := Gv.a0 (hp_); replace HB := Gv.a0 ((by rw [hw]; exact below_set (HB.out) GB14.out : Below w.heap.size w w16)); clear hg hw hp_))
   (try simp only [← hl5_1])
   go_roundg k1
   case measure => have := HK1.out; omega
   case rel => exact ⟨(y1), (wrap64 (x11_1 + 1)), Gv.rq, H', ⟨by have := HK1.out; omega⟩, ⟨by (try simp only [hl5_1]); (with_reducible repeat (first | apply Kd.R_alloc | apply Kd.R_drewN | apply Kd.R_drew)); exact HO_5.out⟩, ⟨Gv.bw⟩⟩
/-! ### impl_Put32: function 86 -/
def impl_Put32.f (k : Nat) (a0 : Int) : Option (List Int) := (impl_put.f k a0 4).bind fun t395 => (some t395)
set_option maxHeartbeats 8000000 in
set_option maxRecDepth 100000 in
theorem impl_Put32.calls (k : Nat) (a0 : Int) (r : List Int) (w : World) (h : impl_Put32.f k a0 = some r) :
  Calls Try.prog 86 #[.int .i64 a0] w fun e w' => ∃ v0_ : Value, e = .returned (v0_) ∧ Kd.R (Kd.int .u8) 5 w' w.heap.size (fun _ => True) v0_ r ∧ Below w.heap.size w w' := by
 have HB := Gv.a0 (Below.refl w.heap.size w); unfold impl_Put32.f at h; have H := h; clear h; replace H := Option.bind_eq_some_iff.mp H; obtain ⟨t0, A20, H⟩ := H
 (try dsimp only at H); have A2 := Gv.a0 A20; clear A20; obtain rfl := Option.some.inj H
 go_enter Try.func86, Try.ntmps86
 go_wp2_with (first | ((with_reducible refine gate_callee (f := 87) rfl ?_); refine goesL_ (some 4) rfl rfl Try.func87 (by kernel_rfl) rfl #[.int .i64 a0, .int .i64 4] rfl Gv.lm ?_; (with_reducible refine (impl_put.calls k a0 4 t0 _ A2.out).mono ?_); rintro e w3 ⟨v2, rfl, ho0, hb⟩; refine ⟨_, rfl, ?_⟩; have HO1 := Gv.a0 (Kd.R_lower ho0 (below_size Gv.bw)); replace HB := Gv.hb hb; clear hb ho0))
 go_ret
 exact ⟨_, Gv.rt, Gv.kr HO1.out, Gv.bw⟩

/-! ### impl_AddrBytes: function 74 -/
def impl_AddrBytes.f (k : Nat) (a0_0 : Int) (a0_1 : Int) (a0_2 : Int) (a0_3 : Int) (a0_4 : Int) : Option (List Int) := (impl_AddrOk.f a0_0 a0_1 a0_2 a0_3 a0_4).bind fun t399 => (if t399 = true then (if a0_0 = 4 then ((impl_Put32.f k a0_4).bind fun t400 => (some t400)) else ((impl_Put32.f k a0_1).bind fun t403 => ((impl_Put32.f k a0_2).bind fun t406 => ((impl_Put32.f k a0_3).bind fun t409 => ((impl_Put32.f k a0_4).bind fun t412 => ((slices_Concat_byte_byte.f k (([t403, t406, t409, t412] : List (List Int)))).bind fun t418 => (some t418))))))) else (some ([] : List Int)))
def impl_AddrBytes.T5 : Bool × List (List Nat × List Nat) := (true, [([], []), ([0], [0]), ([1], [1]), ([], []), ([3], [3]), ([4, 2], [4]), ([], []), ([6], [6]), ([7, 5], [7]), ([], []), ([9], [9]), ([10, 8], [10]), ([2, 5, 8, 11], [2, 5, 8, 11]), ([12, 11], [12]), ([13, 13, 0, 1, 2, 3, 4, 5, 6, 7, 8, 9, 10, 11, 12, 13], [13])])
def impl_AddrBytes.B5 : List Nat := [0, 1, 3, 0, 8, 31, 0, 64, 255, 0, 512, 2047, 4095, 8191, 16383]
theorem impl_AddrBytes.tab5 : rtab .any (opsOf Try.f74 5) = impl_AddrBytes.T5 := by kernel_rfl
theorem impl_AddrBytes.bits5 : waitsOk impl_AddrBytes.T5.2 impl_AddrBytes.B5 = true := by kernel_rfl
set_option maxHeartbeats 8000000 in
set_option maxRecDepth 100000 in
theorem impl_AddrBytes.calls (k : Nat) (a0_0 : Int) (a0_1 : Int) (a0_2 : Int) (a0_3 : Int) (a0_4 : Int) (r : List Int) (w : World) (h : impl_AddrBytes.f k a0_0 a0_1 a0_2 a0_3 a0_4 = some r) :
  Calls Try.prog 74 #[.agg #[.int .i64 a0_0, .int .i64 a0_1, .int .i64 a0_2, .int .i64 a0_3, .int .i64 a0_4]] w fun e w' => ∃ v0_ : Value, e = .returned (v0_) ∧ Kd.R (Kd.int .u8) 5 w' w.heap.size (fun _ => True) v0_ r ∧ Below w.heap.size w w' := by
 have hu29 := Try.underlying29; have HB := Gv.a0 (Below.refl w.heap.size w); unfold impl_AddrBytes.f at h; have H := h; clear h; replace H := Option.bind_eq_some_iff.mp H; obtain ⟨t12, A20, H⟩ := H
 (try dsimp only at H); have A2 := Gv.a0 A20; clear A20
 by_cases c3 : t12 = true
 rotate_left
 ·replace c3 := Bool.eq_false_iff.mpr c3; subst c3; rw [if_neg (show ¬ (false = true) by decide)] at H
  (try dsimp only at H); obtain rfl := Option.some.inj H
  go_enter Try.func74, Try.ntmps74
  go_wp2_with (first | ((with_reducible refine gate_dst (N := 1) rfl ?_); refine Gv.bev 1 29 #[.int .i64 a0_0, .int .i64 a0_1, .int .i64 a0_2, .int .i64 a0_3, .int .i64 a0_4] ?_; intro gb0 hg w33 hbox hb; have BK0 := Gv.a0 (hbox); have GW0 := Gv.a0 ((Gv.ble hg Gv.bw : w.heap.size ≤ gb0)); have GE0 := GW0; replace HB := Gv.hb hb; clear hb hbox hg; obtain ⟨z34_0, z34_1, z34_2, z34_3, z34_4⟩ := Gv.c5 BK0.out; obtain ⟨o34_0, o34_1, o34_2, o34_3, o34_4⟩ := Gv.f5 BK0.out) | ((with_reducible refine gate_callee (f := 81) rfl ?_); refine goesL_ (some 5) rfl rfl Try.func81 (by kernel_rfl) rfl #[.agg #[.int .i64 a0_0, .int .i64 a0_1, .int .i64 a0_2, .int .i64 a0_3, .int .i64 a0_4]] rfl Gv.lm ?_; (with_reducible refine (impl_AddrOk.calls a0_0 a0_1 a0_2 a0_3 a0_4 false _ A2.out).mono ?_); rintro e w35 ⟨rfl, hb⟩; refine ⟨_, rfl, ?_⟩; replace BK0 := Gv.b1 BK0 hb; replace HB := Gv.hb hb; clear hb))
  go_ret
  exact ⟨_, Gv.rt, by first | exact Kd.R_nil _ _ _ _ _ | exact Kd.N_nil _ _ _ _ _ | exact Kd.V_nil _ _ _ _ _ | exact Kd.Q_nil _ _ _ _ _ | exact Kd.S_nil _ _ _ _ _, Gv.bw⟩

 subst c3; rw [if_pos rfl] at H
 (try dsimp only at H)
 by_cases c4 : a0_0 = 4
 ·rw [if_pos c4] at H; have c4b0 : (a0_0 == 4) = true := beq_iff_eq.mpr c4; have c4b1 : (a0_0 != 4) = false := bne_eq_false_iff_eq.mpr c4; clear c4; replace H := Option.bind_eq_some_iff.mp H; obtain ⟨t13, A50, H⟩ := H
  (try dsimp only at H); have A5 := Gv.a0 A50; clear A50; obtain rfl := Option.some.inj H
  go_enter Try.func74, Try.ntmps74
  go_wp2_with (first | ((with_reducible refine gate_dst (N := 1) rfl ?_); refine Gv.bev 1 29 #[.int .i64 a0_0, .int .i64 a0_1, .int .i64 a0_2, .int .i64 a0_3, .int .i64 a0_4] ?_; intro gb0 hg w6 hbox hb; have BK0 := Gv.a0 (hbox); have GW0 := Gv.a0 ((Gv.ble hg Gv.bw : w.heap.size ≤ gb0)); have GE0 := GW0; replace HB := Gv.hb hb; clear hb hbox hg; obtain ⟨z7_0, z7_1, z7_2, z7_3, z7_4⟩ := Gv.c5 BK0.out; obtain ⟨o7_0, o7_1, o7_2, o7_3, o7_4⟩ := Gv.f5 BK0.out) | ((with_reducible refine gate_callee (f := 81) rfl ?_); refine goesL_ (some 5) rfl rfl Try.func81 (by kernel_rfl) rfl #[.agg #[.int .i64 a0_0, .int .i64 a0_1, .int .i64 a0_2, .int .i64 a0_3, .int .i64 a0_4]] rfl Gv.lm ?_; (with_reducible refine (impl_AddrOk.calls a0_0 a0_1 a0_2 a0_3 a0_4 true _ A2.out).mono ?_); rintro e w8 ⟨rfl, hb⟩; refine ⟨_, rfl, ?_⟩; replace BK0 := Gv.b1 BK0 hb; replace HB := Gv.hb hb; clear hb; obtain ⟨z9_0, z9_1, z9_2, z9_3, z9_4⟩ := Gv.c5 BK0.out; obtain ⟨o9_0, o9_1, o9_2, o9_3, o9_4⟩ := Gv.f5 BK0.out) | ((with_reducible refine gate_callee (f := 86) rfl ?_); refine goesL_ (some 13) rfl rfl Try.func86 (by kernel_rfl) rfl #[.int .i64 a0_4] rfl Gv.lm ?_; (with_reducible refine (impl_Put32.calls k a0_4 t13 _ A5.out).mono ?_); rintro e w10 ⟨v20, rfl, ho0, hb⟩; refine ⟨_, rfl, ?_⟩; have HO14 := Gv.a0 (Kd.R_lower ho0 (below_size Gv.bw)); replace BK0 := Gv.b1 BK0 hb; replace HB := Gv.hb hb; clear hb ho0))
  go_ret
  exact ⟨_, Gv.rt, Gv.kr HO14.out, Gv.bw⟩
 ·rw [if_neg c4] at H; have c4b0 : (a0_0 == 4) = false := beq_eq_false_iff_ne.mpr c4; have c4b1 : (a0_0 != 4) = true := bne_iff_ne.mpr c4; replace H := Option.bind_eq_some_iff.mp H; obtain ⟨t5, A16, H⟩ := H
  (try dsimp only at H); have A11 := Gv.a0 A16; clear A16; replace H := Option.bind_eq_some_iff.mp H; obtain ⟨t6, A17, H⟩ := H
  (try dsimp only at H); have A12 := Gv.a0 A17; clear A17; replace H := Option.bind_eq_some_iff.mp H; obtain ⟨t7, A18, H⟩ := H
  (try dsimp only at H); have A13 := Gv.a0 A18; clear A18; replace H := Option.bind_eq_some_iff.mp H; obtain ⟨t8, A19, H⟩ := H
  (try dsimp only at H); have A14 := Gv.a0 A19; clear A19; obtain ⟨y2, hy2⟩ : ∃ y_ : List (List Int), y_ = (([t5, t6, t7, t8] : List (List Int))) := ⟨_, rfl⟩
  replace H : ((slices_Concat_byte_byte.f k y2).bind fun t11 => (some t11)) = some r := by first | (rw [hy2]; with_reducible exact H) | (have H2_ := (Option.bind_some _ _).symm.trans H; rw [hy2]; with_reducible exact H2_) | (have H2_ := (Option.bind_some _ _).symm.trans H; with_reducible exact H2_) | with_reducible exact H | (rw [hy2]; exact H) | exact H
  have Ny2 := Gv.a0 hy2; clear hy2; replace H := Option.bind_eq_some_iff.mp H; obtain ⟨t11, A21, H⟩ := H
  (try dsimp only at H); have A15 := Gv.a0 A21; clear A21; obtain rfl := Option.some.inj H
  go_enter Try.func74, Try.ntmps74
  try go_wp2_with (first | ((with_reducible refine gate_dst (N := 1) rfl ?_); refine Gv.bev 1 29 #[.int .i64 a0_0, .int .i64 a0_1, .int .i64 a0_2, .int .i64 a0_3, .int .i64 a0_4] ?_; intro gb0 hg w16 hbox hb; have BK0 := Gv.a0 (hbox); have GW0 := Gv.a0 ((Gv.ble hg Gv.bw : w.heap.size ≤ gb0)); have GE0 := GW0; replace HB := Gv.hb hb; clear hb hbox hg; obtain ⟨z17_0, z17_1, z17_2, z17_3, z17_4⟩ := Gv.c5 BK0.out; obtain ⟨o17_0, o17_1, o17_2, o17_3, o17_4⟩ := Gv.f5 BK0.out) | ((with_reducible refine gate_callee (f := 81) rfl ?_); refine goesL_ (some 5) rfl rfl Try.func81 (by kernel_rfl) rfl #[.agg #[.int .i64 a0_0, .int .i64 a0_1, .int .i64 a0_2, .int .i64 a0_3, .int .i64 a0_4]] rfl Gv.lm ?_; (with_reducible refine (impl_AddrOk.calls a0_0 a0_1 a0_2 a0_3 a0_4 true _ A2.out).mono ?_); rintro e w18 ⟨rfl, hb⟩; refine ⟨_, rfl, ?_⟩; replace BK0 := Gv.b1 BK0 hb; replace HB := Gv.hb hb; clear hb; obtain ⟨z19_0, z19_1, z19_2, z19_3, z19_4⟩ := Gv.c5 BK0.out; obtain ⟨o19_0, o19_1, o19_2, o19_3, o19_4⟩ := Gv.f5 BK0.out))
  replace BK0 := Gv.a0 (blk_drew BK0.out); replace HB := Gv.a0 (below_drew1 HB.out); refine start_ (n := 15) (S := fun w' => w'.cell? ⟨gb0, 0, none⟩ = some (.int .i64 a0_0) ∧ w'.cell? ⟨gb0, 1, none⟩ = some (.int .i64 a0_1) ∧ w'.cell? ⟨gb0, 2, none⟩ = some (.int .i64 a0_2) ∧ w'.cell? ⟨gb0, 3, none⟩ = some (.int .i64 a0_3) ∧ w'.cell? ⟨gb0, 4, none⟩ = some (.int .i64 a0_4)) (ds := []) #[false, false, false, false, false, false, false, false, false, false, false, false, false, false, false] (by kernel_rfl) rfl rfl Gv.qs (fun hHeld => ?_); refine with_tabW impl_AddrBytes.tab5 impl_AddrBytes.bits5 (fun HT_ HW_ => ?_); generalize w18.drew = w20 at BK0 HB hHeld ⊢; refine Gv.pu 0 (some 14) HT_ ?_; refine Gv.pu 3 (some 17) HT_ ?_; refine Gv.pu 6 (some 20) HT_ ?_; refine Gv.pu 9 (some 23) HT_ ?_; refine take_ (i := 1) (N := some 15) (v := ?_) (a' := ?_) #[true, true, false, true, false, false, true, false, false, true, false, false, false, false, false] rfl rfl (take_ofW HT_.out HW_.out (by kernel_rfl)) (fun _ _ _ h => h) (Or.inl ⟨by rfl, ?_⟩) hHeld ?_ ?_; rotate_left
  ·rintro w' ⟨s0, s1, s2, s3, s4⟩
   go_simp
   with_reducible rfl
  rotate_left
  ·simp only [Act.put, List.setIfInBounds_toArray, List.set_cons_zero, List.set_cons_succ, i64_w, i32_w]
   rfl
  refine take_ (i := 4) (N := some 18) (v := ?_) (a' := ?_) #[true, true, false, true, true, false, true, false, false, true, false, false, false, false, false] rfl rfl (take_ofW HT_.out HW_.out (by kernel_rfl)) (fun _ _ _ h => h) (Or.inl ⟨by rfl, ?_⟩) hHeld ?_ ?_; rotate_left
  ·rintro w' ⟨s0, s1, s2, s3, s4⟩
   go_simp
   with_reducible rfl
  rotate_left
  ·simp only [Act.put, List.setIfInBounds_toArray, List.set_cons_zero, List.set_cons_succ, i64_w, i32_w]
   rfl
  refine take_ (i := 7) (N := some 21) (v := ?_) (a' := ?_) #[true, true, false, true, true, false, true, true, false, true, false, false, false, false, false] rfl rfl (take_ofW HT_.out HW_.out (by kernel_rfl)) (fun _ _ _ h => h) (Or.inl ⟨by rfl, ?_⟩) hHeld ?_ ?_; rotate_left
  ·rintro w' ⟨s0, s1, s2, s3, s4⟩
   go_simp
   with_reducible rfl
  rotate_left
  ·simp only [Act.put, List.setIfInBounds_toArray, List.set_cons_zero, List.set_cons_succ, i64_w, i32_w]
   rfl
  refine take_ (i := 10) (N := some 24) (v := ?_) (a' := ?_) #[true, true, false, true, true, false, true, true, false, true, true, false, false, false, false] rfl rfl (take_ofW HT_.out HW_.out (by kernel_rfl)) (fun _ _ _ h => h) (Or.inl ⟨by rfl, ?_⟩) hHeld ?_ ?_; rotate_left
  ·rintro w' ⟨s0, s1, s2, s3, s4⟩
   go_simp
   with_reducible rfl
  rotate_left
  ·simp only [Act.put, List.setIfInBounds_toArray, List.set_cons_zero, List.set_cons_succ, i64_w, i32_w]
   rfl
  refine one_ (i := 2) (N := some 16) #[true, true, true, true, true, false, true, true, false, true, true, false, false, false, false] rfl rfl (one_of HT_.out (by kernel_rfl)) (by decide) (fun K hK => ?_); refine goes_ Try.func86 (by kernel_rfl) rfl #[.int .i64 a0_1] (by rfl) rfl rfl Gv.lm ?_
  with_reducible refine (impl_Put32.calls k a0_1 t5 _ A11.out).mono ?_
  rintro e w21 ⟨v22, rfl, ho0, hb⟩; refine ⟨_, rfl, ?_⟩; have HO1 := Gv.a0 (Kd.R_lower ho0 (below_size Gv.bw)); replace BK0 := Gv.b1 BK0 hb; replace HB := Gv.hb hb
  (try clear hb)
  (try clear hb2)
  (try clear hk)
  (try clear hi)
  (try clear ho0); refine hK.out _ _ Gv.qs (fun hHeld => ?_); clear hK K; refine norm_ (a' := ?_) ?_ ?_; rotate_left
  ·show Act.put _ (some 16) _ = _
   simp only [Act.put, List.setIfInBounds_toArray, List.set_cons_zero, List.set_cons_succ, i64_w, i32_w]
   rfl
  refine one_ (i := 5) (N := some 19) #[true, true, true, true, true, true, true, true, false, true, true, false, false, false, false] rfl rfl (one_of HT_.out (by kernel_rfl)) (by decide) (fun K hK => ?_); refine goes_ Try.func86 (by kernel_rfl) rfl #[.int .i64 a0_2] (by rfl) rfl rfl Gv.lm ?_
  with_reducible refine (impl_Put32.calls k a0_2 t6 _ A12.out).mono ?_
  rintro e w22 ⟨v23, rfl, ho0, hb⟩; refine ⟨_, rfl, ?_⟩; have HO3 := Gv.a0 (Kd.R_lower (Kd.R_new' ho0 (Kd.R_lt (Gv.kr HO1.out))) (below_size Gv.bw)); replace HO1 := Gv.a0 (Kd.R_elder' (Gv.kr HO1.out) (Kd.R_base ho0) hb); replace BK0 := Gv.b1 BK0 hb; replace HB := Gv.hb hb
  (try clear hb)
  (try clear hb2)
  (try clear hk)
  (try clear hi)
  (try clear ho0); refine hK.out _ _ Gv.qs (fun hHeld => ?_); clear hK K; refine norm_ (a' := ?_) ?_ ?_; rotate_left
  ·show Act.put _ (some 19) _ = _
   simp only [Act.put, List.setIfInBounds_toArray, List.set_cons_zero, List.set_cons_succ, i64_w, i32_w]
   rfl
  refine one_ (i := 8) (N := some 22) #[true, true, true, true, true, true, true, true, true, true, true, false, false, false, false] rfl rfl (one_of HT_.out (by kernel_rfl)) (by decide) (fun K hK => ?_); refine goes_ Try.func86 (by kernel_rfl) rfl #[.int .i64 a0_3] (by rfl) rfl rfl Gv.lm ?_
  with_reducible refine (impl_Put32.calls k a0_3 t7 _ A13.out).mono ?_
  rintro e w23 ⟨v24, rfl, ho0, hb⟩; refine ⟨_, rfl, ?_⟩; have HO4 := Gv.a0 (Kd.R_lower (Kd.R_new' (Kd.R_new' ho0 (Kd.R_lt (Gv.kr HO1.out))) (Kd.R_lt (Gv.kr HO3.out))) (below_size Gv.bw)); replace HO1 := Gv.a0 (Kd.R_elder' (Gv.kr HO1.out) (Kd.R_base ho0) hb); replace HO3 := Gv.a0 (Kd.R_elder' (Gv.kr HO3.out) (Kd.R_base ho0) hb); replace BK0 := Gv.b1 BK0 hb; replace HB := Gv.hb hb
  (try clear hb)
  (try clear hb2)
  (try clear hk)
  (try clear hi)
  (try clear ho0); refine hK.out _ _ Gv.qs (fun hHeld => ?_); clear hK K; refine norm_ (a' := ?_) ?_ ?_; rotate_left
  ·show Act.put _ (some 22) _ = _
   simp only [Act.put, List.setIfInBounds_toArray, List.set_cons_zero, List.set_cons_succ, i64_w, i32_w]
   rfl
  refine one_ (i := 11) (N := some 25) #[true, true, true, true, true, true, true, true, true, true, true, true, false, false, false] rfl rfl (one_of HT_.out (by kernel_rfl)) (by decide) (fun K hK => ?_); refine goes_ Try.func86 (by kernel_rfl) rfl #[.int .i64 a0_4] (by rfl) rfl rfl Gv.lm ?_
  with_reducible refine (impl_Put32.calls k a0_4 t8 _ A14.out).mono ?_
  rintro e w24 ⟨v25, rfl, ho0, hb⟩; refine ⟨_, rfl, ?_⟩; have HO10 := Gv.a0 (Kd.R_lower (Kd.R_new' (Kd.R_new' (Kd.R_new' ho0 (Kd.R_lt (Gv.kr HO1.out))) (Kd.R_lt (Gv.kr HO3.out))) (Kd.R_lt (Gv.kr HO4.out))) (below_size Gv.bw)); replace HO1 := Gv.a0 (Kd.R_elder' (Gv.kr HO1.out) (Kd.R_base ho0) hb); replace HO3 := Gv.a0 (Kd.R_elder' (Gv.kr HO3.out) (Kd.R_base ho0) hb); replace HO4 := Gv.a0 (Kd.R_elder' (Gv.kr HO4.out) (Kd.R_base ho0) hb); replace BK0 := Gv.b1 BK0 hb; replace HB := Gv.hb hb
  (try clear hb)
  (try clear hb2)
  (try clear hk)
  (try clear hi)
  (try clear ho0); obtain ⟨Ao25, co25, eo25⟩ := Kd.R_slice HO1.out
  (first | subst eo25 | (injection eo25 with f1_ f2_ f3_; have f4_ := f1_.symm; have f5_ := f3_.symm; clear f1_ f2_ f3_; subst f4_; subst f5_)); obtain ⟨Ao26, co26, eo26⟩ := Kd.R_slice HO3.out
  (first | subst eo26 | (injection eo26 with f1_ f2_ f3_; have f4_ := f1_.symm; have f5_ := f3_.symm; clear f1_ f2_ f3_; subst f4_; subst f5_)); obtain ⟨Ao27, co27, eo27⟩ := Kd.R_slice HO4.out
  (first | subst eo27 | (injection eo27 with f1_ f2_ f3_; have f4_ := f1_.symm; have f5_ := f3_.symm; clear f1_ f2_ f3_; subst f4_; subst f5_)); obtain ⟨Ao28, co28, eo28⟩ := Kd.R_slice HO10.out
  (first | subst eo28 | (injection eo28 with f1_ f2_ f3_; have f4_ := f1_.symm; have f5_ := f3_.symm; clear f1_ f2_ f3_; subst f4_; subst f5_)); refine hK.out _ _ Gv.qs (fun hHeld => ?_); clear hK K; refine norm_ (a' := ?_) ?_ ?_; rotate_left
  ·show Act.put _ (some 25) _ = _
   simp only [Act.put, List.setIfInBounds_toArray, List.set_cons_zero, List.set_cons_succ, i64_w, i32_w]
   rfl
  refine one_ (i := 12) (N := some 26) #[true, true, true, true, true, true, true, true, true, true, true, true, true, false, false] rfl rfl (one_of HT_.out (by kernel_rfl)) (by decide) (fun K hK => ?_); refine Kd.N_lit_step (Kd.slice 5 (Kd.int .u8)) _ 68 ?hg (N' := 26) ?hd (xs := ([t5, t6, t7, t8] : List (List Int))) (inner := [.slice Ao25 t5.length co25, .slice Ao26 t6.length co26, .slice Ao27 t7.length co27, .slice Ao28 t8.length co28]) (ok := (fun k_ => k_ ≠ gb0)) (okp := (fun k_ => k_ ≠ gb0)) ?hr ?hp (fun _ hk => hk) ((show ∀ k_, w24.heap.size ≤ k_ → (fun k_ => k_ ≠ gb0) k_ from fun k_ hk => Kd.freshB (g := gb0) (o := .cells #[.int .i64 a0_0, .int .i64 a0_1, .int .i64 a0_2, .int .i64 a0_3, .int .i64 a0_4] 29 (0, 0)) Gv.bk k_ hk) _ (Nat.le_refl _)) (Below.refl _ _) (Nat.le_refl _) (by simp) ?_; (case hd => rfl); (case hg => rfl); (case hr => first | (go_simp; done) | (go_simp; rfl)); (case hp => exact (Reps.one (show Kd.FK (Kd.slice 5 (Kd.int .u8)) _ _ t5 [.slice Ao25 t5.length co25] from (Kd.FK_slice_mk (Kd.R_reads' (Kd.R_mono (ok' := (fun k_ => k_ ≠ gb0)) (Kd.R_types (HO1.out) BK0.out (by decide)) (fun k_ hk => hk.2))).2.1 (Kd.R_F (Kd.R_mono (ok' := (fun k_ => k_ ≠ gb0)) (Kd.R_types (HO1.out) BK0.out (by decide)) (fun k_ hk => hk.2))))) (Reps.one (show Kd.FK (Kd.slice 5 (Kd.int .u8)) _ _ t6 [.slice Ao26 t6.length co26] from (Kd.FK_slice_mk (Kd.R_reads' (Kd.R_mono (ok' := (fun k_ => k_ ≠ gb0)) (Kd.R_types (HO3.out) BK0.out (by decide)) (fun k_ hk => hk.2))).2.1 (Kd.R_F (Kd.R_mono (ok' := (fun k_ => k_ ≠ gb0)) (Kd.R_types (HO3.out) BK0.out (by decide)) (fun k_ hk => hk.2))))) (Reps.one (show Kd.FK (Kd.slice 5 (Kd.int .u8)) _ _ t7 [.slice Ao27 t7.length co27] from (Kd.FK_slice_mk (Kd.R_reads' (Kd.R_mono (ok' := (fun k_ => k_ ≠ gb0)) (Kd.R_types (HO4.out) BK0.out (by decide)) (fun k_ hk => hk.2))).2.1 (Kd.R_F (Kd.R_mono (ok' := (fun k_ => k_ ≠ gb0)) (Kd.R_types (HO4.out) BK0.out (by decide)) (fun k_ hk => hk.2))))) (Reps.one (show Kd.FK (Kd.slice 5 (Kd.int .u8)) _ _ t8 [.slice Ao28 t8.length co28] from (Kd.FK_slice_mk (Kd.R_reads' (Kd.R_mono (ok' := (fun k_ => k_ ≠ gb0)) (Kd.R_types (HO10.out) BK0.out (by decide)) (fun k_ hk => hk.2))).2.1 (Kd.R_F (Kd.R_mono (ok' := (fun k_ => k_ ≠ gb0)) (Kd.R_types (HO10.out) BK0.out (by decide)) (fun k_ hk => hk.2))))) (Reps.none _ _)))))); intro v26 w29 ho30 hb hg_ hnew_; clear hg_ hnew_
  (first | rw [← Ny2.out] at ho30 | (simp only [Int.reduceToNat] at ho30; rw [← Ny2.out] at ho30)); have HO9 := Gv.a0 (Kd.N_lower ho30 (below_size Gv.bw)); replace BK0 := Gv.b1 BK0 hb; replace HB := Gv.hb hb; clear HO1 HO3 HO4 HO10 hb ho30; obtain ⟨Ao31, co31, eo31⟩ := Kd.N_slice HO9.out
  (first | subst eo31 | (injection eo31 with f1_ f2_ f3_; have f4_ := f1_.symm; have f5_ := f3_.symm; clear f1_ f2_ f3_; subst f4_; subst f5_)); refine hK.out _ _ Gv.qs (fun hHeld => ?_); clear hK K; refine norm_ (a' := ?_) ?_ ?_; rotate_left
  ·show Act.put _ (some 26) _ = _
   simp only [Act.put, List.setIfInBounds_toArray, List.set_cons_zero, List.set_cons_succ, i64_w, i32_w]
   rfl
  refine one_ (i := 13) (N := some 27) #[true, true, true, true, true, true, true, true, true, true, true, true, true, true, false] rfl rfl (one_of HT_.out (by kernel_rfl)) (by decide) (fun K hK => ?_); refine goes_ Try.func73 (by kernel_rfl) rfl #[.slice Ao31 y2.length co31] (by rfl) rfl rfl Gv.lm ?_
  with_reducible refine (slices_Concat_byte_byte.calls k _ _ y2 t11 _ ?side1 ?side2 A15.out).mono ?_
  (case side1 => repeat (first | exact (Kd.N_reads' HO9.out).2.2 | (with_reducible refine Kd.C_alloc ?_ _) | (with_reducible refine Kd.C_drewN ?_ _) | (with_reducible refine Kd.C_drew ?_)))
  (case side2 => exact (Kd.N_reads' HO9.out).2.1)
  rintro e w32 ⟨v27, rfl, ho0, hb⟩; refine ⟨_, rfl, ?_⟩; replace HO9 := Gv.a0 (Kd.N_elder' (by (with_reducible repeat (first | apply Kd.N_alloc | apply Kd.N_drewN | apply Kd.N_drew)); exact HO9.out) (Kd.R_base ho0) hb); have HO15 := Gv.a0 (Kd.R_lower ho0 (below_size Gv.bw)); replace BK0 := Gv.b1 BK0 hb; replace HB := Gv.hb hb
  (try clear hb)
  (try clear hb2)
  (try clear hk)
  (try clear hi)
  (try clear ho0); refine hK.out _ _ Gv.qs (fun hHeld => ?_); clear hK K; refine norm_ (a' := ?_) ?_ ?_; rotate_left
  ·show Act.put _ (some 27) _ = _
   simp only [Act.put, List.setIfInBounds_toArray, List.set_cons_zero, List.set_cons_succ, i64_w, i32_w]
   rfl
  refine Gv.pu 14 (some 2) HT_ ?_; refine done_ (done_of HT_.out (by kernel_rfl)) ?_
  try go_wp2
  go_ret
  exact ⟨_, Gv.rt, Gv.kr HO15.out, Gv.bw⟩
/-! ### impl_Put16: function 75 -/
def impl_Put16.f (k : Nat) (a0 : Int) : Option (List Int) := (impl_put.f k a0 2).bind fun t421 => (some t421)
set_option maxHeartbeats 8000000 in
set_option maxRecDepth 100000 in
theorem impl_Put16.calls (k : Nat) (a0 : Int) (r : List Int) (w : World) (h : impl_Put16.f k a0 = some r) :
  Calls Try.prog 75 #[.int .i64 a0] w fun e w' => ∃ v0_ : Value, e = .returned (v0_) ∧ Kd.R (Kd.int .u8) 5 w' w.heap.size (fun _ => True) v0_ r ∧ Below w.heap.size w w' := by
 have HB := Gv.a0 (Below.refl w.heap.size w); unfold impl_Put16.f at h; have H := h; clear h; replace H := Option.bind_eq_some_iff.mp H; obtain ⟨t0, A20, H⟩ := H
 (try dsimp only at H); have A2 := Gv.a0 A20; clear A20; obtain rfl := Option.some.inj H
 go_enter Try.func75, Try.ntmps75
 go_wp2_with (first | ((with_reducible refine gate_callee (f := 87) rfl ?_); refine goesL_ (some 4) rfl rfl Try.func87 (by kernel_rfl) rfl #[.int .i64 a0, .int .i64 2] rfl Gv.lm ?_; (with_reducible refine (impl_put.calls k a0 2 t0 _ A2.out).mono ?_); rintro e w3 ⟨v2, rfl, ho0, hb⟩; refine ⟨_, rfl, ?_⟩; have HO1 := Gv.a0 (Kd.R_lower ho0 (below_size Gv.bw)); replace HB := Gv.hb hb; clear hb ho0))
 go_ret
 exact ⟨_, Gv.rt, Gv.kr HO1.out, Gv.bw⟩

/-! ### impl_hashOf: function 47 -/
def impl_hashOf.l0 : Nat → Int → List Int → Int → Int → Option (Int)
 | 0, _, _, _, _ => none
 | k + 1, x6, x42, x43, x44 => if x44 < x43 then (if 0 ≤ x44 then (if x44 < (x42.length : Int) then (impl_hashOf.l0 k (Int.tmod (wrap64 ((Go.bits .xor .i64 x6 (wrap64 (rd x42 x44))) * 16777619)) 4294967296) x42 x43 (wrap64 (x44 + 1))) else (none)) else (none)) else (some (Go.bits .xor .i64 x6 (wrap64 (Int.tdiv x6 65536))))
def impl_hashOf.f (k : Nat) (a0 : Int) (a1_0 : Int) (a1_1 : Int) (a1_2 : Int) (a1_3 : Int) (a1_4 : Int) (a1_5 : Int) (a1_6 : Int) (a1_7 : Int) (a1_8 : Int) (a1_9 : Int) (a1_10 : Int) (a1_11 : Int) (a1_12 : Int) (a1_13 : Int) : Option (Int) := (impl_AddrBytes.f k a1_1 a1_2 a1_3 a1_4 a1_5).bind fun t428 => ((impl_AddrBytes.f k a1_6 a1_7 a1_8 a1_9 a1_10).bind fun t431 => ((impl_Put16.f k a1_12).bind fun t437 => ((impl_Put16.f k a1_13).bind fun t440 => ((slices_Concat_byte_byte.f k (([(([(a1_0) % 256, (a1_1) % 256] : List Int)), t428, t431, (([(a1_11) % 256] : List Int)), t437, t440] : List (List Int)))).bind fun t446 => (impl_hashOf.l0 k a0 t446 (t446.length : Int) 0)))))
def impl_hashOf.T1 : Bool × List (List Nat × List Nat) := (true, [([], []), ([0], [0]), ([1], [1]), ([], []), ([3], [3]), ([4], [4]), ([5], [5]), ([6], [6]), ([2, 7], [2, 7]), ([], []), ([9], [9]), ([10], [10]), ([11], [11]), ([], []), ([13], [13]), ([14], [14]), ([15, 12], [15]), ([], []), ([17], [17]), ([18], [18]), ([19], [19]), ([20], [20]), ([], []), ([22], [22]), ([23], [23]), ([24, 16], [24]), ([], []), ([26], [26]), ([27], [27]), ([28, 25], [28]), ([8, 12, 16, 21, 25, 29], [8, 12, 16, 21, 25, 29]), ([30, 29], [30]), ([31, 31, 0, 1, 2, 3, 4, 5, 6, 7, 8, 9, 10, 11, 12, 13, 14, 15, 16, 17, 18, 19, 20, 21, 22, 23, 24, 25, 26, 27, 28, 29, 30, 31], [31])])
def impl_hashOf.B1 : List Nat := [0, 1, 3, 0, 8, 24, 56, 120, 255, 0, 512, 1536, 3584, 0, 8192, 24576, 65024, 0, 131072, 393216, 917504, 1966080, 0, 4194304, 12582912, 29490688, 0, 67108864, 201326592, 532807168, 1073741823, 2147483647, 4294967295]
theorem impl_hashOf.tab1 : rtab .any (opsOf Try.f47 1) = impl_hashOf.T1 := by kernel_rfl
theorem impl_hashOf.bits1 : waitsOk impl_hashOf.T1.2 impl_hashOf.B1 = true := by kernel_rfl
set_option maxHeartbeats 8000000 in
set_option maxRecDepth 100000 in
theorem impl_hashOf.calls (k : Nat) (a0 : Int) (a1_0 : Int) (a1_1 : Int) (a1_2 : Int) (a1_3 : Int) (a1_4 : Int) (a1_5 : Int) (a1_6 : Int) (a1_7 : Int) (a1_8 : Int) (a1_9 : Int) (a1_10 : Int) (a1_11 : Int) (a1_12 : Int) (a1_13 : Int) (r : Int) (w : World) (h : impl_hashOf.f k a0 a1_0 a1_1 a1_2 a1_3 a1_4 a1_5 a1_6 a1_7 a1_8 a1_9 a1_10 a1_11 a1_12 a1_13 = some r) :
  Calls Try.prog 47 #[.int .i64 a0, .agg #[.int .i64 a1_0, .int .i64 a1_1, .int .i64 a1_2, .int .i64 a1_3, .int .i64 a1_4, .int .i64 a1_5, .int .i64 a1_6, .int .i64 a1_7, .int .i64 a1_8, .int .i64 a1_9, .int .i64 a1_10, .int .i64 a1_11, .int .i64 a1_12, .int .i64 a1_13]] w fun e w' => e = .returned (.int .i64 r) ∧ Below w.heap.size w w' := by
 have hu33 := Try.underlying33; have hu29 := Try.underlying29; have HB := Gv.a0 (Below.refl w.heap.size w); unfold impl_hashOf.f at h; have H := h; clear h; obtain ⟨y17, hy17⟩ : ∃ y_ : List Int, y_ = (([(a1_0) % 256, (a1_1) % 256] : List Int)) := ⟨_, rfl⟩
 replace H : ((impl_AddrBytes.f k a1_1 a1_2 a1_3 a1_4 a1_5).bind fun t23 => ((impl_AddrBytes.f k a1_6 a1_7 a1_8 a1_9 a1_10).bind fun t24 => ((impl_Put16.f k a1_12).bind fun t20 => ((impl_Put16.f k a1_13).bind fun t21 => ((slices_Concat_byte_byte.f k (([y17, t23, t24, (([(a1_11) % 256] : List Int)), t20, t21] : List (List Int)))).bind fun t19 => (impl_hashOf.l0 k a0 t19 (t19.length : Int) 0)))))) = some r := by first | (rw [hy17]; with_reducible exact H) | (have H2_ := (Option.bind_some _ _).symm.trans H; rw [hy17]; with_reducible exact H2_) | (have H2_ := (Option.bind_some _ _).symm.trans H; with_reducible exact H2_) | with_reducible exact H | (rw [hy17]; exact H) | exact H
 have Ny17 := Gv.a0 hy17; clear hy17; replace H := Option.bind_eq_some_iff.mp H; obtain ⟨t23, A30, H⟩ := H
 (try dsimp only at H); have A3 := Gv.a0 A30; clear A30; replace H := Option.bind_eq_some_iff.mp H; obtain ⟨t24, A40, H⟩ := H
 (try dsimp only at H); have A4 := Gv.a0 A40; clear A40; obtain ⟨y18, hy18⟩ : ∃ y_ : List Int, y_ = (([(a1_11) % 256] : List Int)) := ⟨_, rfl⟩
 replace H : ((impl_Put16.f k a1_12).bind fun t20 => ((impl_Put16.f k a1_13).bind fun t21 => ((slices_Concat_byte_byte.f k (([y17, t23, t24, y18, t20, t21] : List (List Int)))).bind fun t19 => (impl_hashOf.l0 k a0 t19 (t19.length : Int) 0)))) = some r := by first | (rw [hy18]; with_reducible exact H) | (have H2_ := (Option.bind_some _ _).symm.trans H; rw [hy18]; with_reducible exact H2_) | (have H2_ := (Option.bind_some _ _).symm.trans H; with_reducible exact H2_) | with_reducible exact H | (rw [hy18]; exact H) | exact H
 have Ny18 := Gv.a0 hy18; clear hy18; replace H := Option.bind_eq_some_iff.mp H; obtain ⟨t20, A50, H⟩ := H
 (try dsimp only at H); have A5 := Gv.a0 A50; clear A50; replace H := Option.bind_eq_some_iff.mp H; obtain ⟨t21, A60, H⟩ := H
 (try dsimp only at H); have A6 := Gv.a0 A60; clear A60; obtain ⟨y22, hy22⟩ : ∃ y_ : List (List Int), y_ = (([y17, t23, t24, y18, t20, t21] : List (List Int))) := ⟨_, rfl⟩
 replace H : ((slices_Concat_byte_byte.f k y22).bind fun t19 => (impl_hashOf.l0 k a0 t19 (t19.length : Int) 0)) = some r := by first | (rw [hy22]; with_reducible exact H) | (have H2_ := (Option.bind_some _ _).symm.trans H; rw [hy22]; with_reducible exact H2_) | (have H2_ := (Option.bind_some _ _).symm.trans H; with_reducible exact H2_) | with_reducible exact H | (rw [hy22]; exact H) | exact H
 have Ny22 := Gv.a0 hy22; clear hy22; replace H := Option.bind_eq_some_iff.mp H; obtain ⟨t19, A70, H⟩ := H
 (try dsimp only at H); have A7 := Gv.a0 A70; clear A70; have H' := Gv.a0 H; clear H
 go_enter Try.func47, Try.ntmps47
 try go_wp2_with (first | ((with_reducible refine gate_dst (N := 3) rfl ?_); refine Gv.bev 3 33 #[.int .i64 a1_0, .int .i64 a1_1, .int .i64 a1_2, .int .i64 a1_3, .int .i64 a1_4, .int .i64 a1_5, .int .i64 a1_6, .int .i64 a1_7, .int .i64 a1_8, .int .i64 a1_9, .int .i64 a1_10, .int .i64 a1_11, .int .i64 a1_12, .int .i64 a1_13] ?_; intro gb0 hg w8 hbox hb; have BK0 := Gv.a0 (hbox); have GW0 := Gv.a0 ((Gv.ble hg Gv.bw : w.heap.size ≤ gb0)); have GE0 := GW0; replace HB := Gv.hb hb; clear hb hbox hg))
 replace BK0 := Gv.a0 (blk_drew BK0.out); replace HB := Gv.a0 (below_drew1 HB.out); refine start_ (n := 33) (S := fun w' => True) (ds := []) #[false, false, false, false, false, false, false, false, false, false, false, false, false, false, false, false, false, false, false, false, false, false, false, false, false, false, false, false, false, false, false, false, false] (by kernel_rfl) rfl rfl trivial (fun hHeld => ?_); refine with_tabW impl_hashOf.tab1 impl_hashOf.bits1 (fun HT_ HW_ => ?_); generalize w8.drew = w9 at BK0 HB hHeld ⊢; refine Gv.pu 0 (some 9) HT_ ?_; refine Gv.pu 3 (some 12) HT_ ?_; refine Gv.pu 4 (some 13) HT_ ?_; refine Gv.pu 5 (some 14) HT_ ?_; refine Gv.pu 9 (some 18) HT_ ?_; refine Gv.pu 10 (some 19) HT_ ?_; refine Gv.pu 13 (some 22) HT_ ?_; refine Gv.pu 14 (some 23) HT_ ?_; refine Gv.pu 17 (some 26) HT_ ?_; refine Gv.pu 18 (some 27) HT_ ?_; refine Gv.pu 22 (some 31) HT_ ?_; refine Gv.pu 23 (some 32) HT_ ?_; refine Gv.pu 26 (some 35) HT_ ?_; refine Gv.pu 27 (some 36) HT_ ?_; refine inv_at [1, 2, 6, 7, 8, 11, 12, 15, 16, 19, 20, 21, 24, 25, 28, 29, 30, 31, 32] (fun a0_ b a w' => ∃ (v7 : Value) (v10 : Value) (v11 : Value) (v8 : Value) (v12 : Value) (v13 : Value) (v14 : Value) (v9 : Value) (m32_ : Value), a = putSel a0_ b [(1, 10, .int .i64 a1_0), (2, 11, .int .u8 ((a1_0) % 256)), (6, 15, .int .i64 a1_1), (7, 16, .int .u8 ((a1_1) % 256)), (8, 17, v7), (11, 20, .agg #[.int .i64 a1_1, .int .i64 a1_2, .int .i64 a1_3, .int .i64 a1_4, .int .i64 a1_5]), (12, 21, v10), (15, 24, .agg #[.int .i64 a1_6, .int .i64 a1_7, .int .i64 a1_8, .int .i64 a1_9, .int .i64 a1_10]), (16, 25, v11), (19, 28, .int .i64 a1_11), (20, 29, .int .u8 ((a1_11) % 256)), (21, 30, v8), (24, 33, .int .i64 a1_12), (25, 34, v12), (28, 37, .int .i64 a1_13), (29, 38, v13), (30, 39, v14), (31, 40, v9), (32, 5, m32_)] ∧ (w'.heap[gb0]? = some (.cells #[.int .i64 a1_0, .int .i64 a1_1, .int .i64 a1_2, .int .i64 a1_3, .int .i64 a1_4, .int .i64 a1_5, .int .i64 a1_6, .int .i64 a1_7, .int .i64 a1_8, .int .i64 a1_9, .int .i64 a1_10, .int .i64 a1_11, .int .i64 a1_12, .int .i64 a1_13] 33 (0, 0))) ∧ (Below w.heap.size w w') ∧ (b 8 = true → b 30 = false → Kd.R (Kd.int .u8) 5 w' w.heap.size (fun _ => True) v7 y17) ∧ (b 12 = true → b 30 = false → Kd.R (Kd.int .u8) 5 w' w.heap.size (fun _ => True) v10 t23) ∧ (b 16 = true → b 30 = false → Kd.R (Kd.int .u8) 5 w' w.heap.size (fun _ => True) v11 t24) ∧ (b 21 = true → b 30 = false → Kd.R (Kd.int .u8) 5 w' w.heap.size (fun _ => True) v8 y18) ∧ (b 25 = true → b 30 = false → Kd.R (Kd.int .u8) 5 w' w.heap.size (fun _ => True) v12 t20) ∧ (b 29 = true → b 30 = false → Kd.R (Kd.int .u8) 5 w' w.heap.size (fun _ => True) v13 t21) ∧ (b 30 = true → Kd.N (Kd.slice 5 (Kd.int .u8)) 68 w' w.heap.size (fun k_ => k_ ≠ gb0) v14 y22) ∧ (b 31 = true → Kd.R (Kd.int .u8) 5 w' w.heap.size (fun _ => True) v9 t19) ∧ (b 32 = true → (m32_ : Value) = v9)) HT_.out HW_.out (by kernel_rfl) (by kernel_rfl) ?_ ?_ ?_
 ·exact ⟨.bool false, .bool false, .bool false, .bool false, .bool false, .bool false, .bool false, .bool false, .bool false, by simp only [putSel, Bool.false_eq_true, if_false], BK0.out, HB.out, fun h_ => absurd h_ (by decide), fun h_ => absurd h_ (by decide), fun h_ => absurd h_ (by decide), fun h_ => absurd h_ (by decide), fun h_ => absurd h_ (by decide), fun h_ => absurd h_ (by decide), fun h_ => absurd h_ (by decide), fun h_ => absurd h_ (by decide), fun h_ => absurd h_ (by decide)⟩
 ·skip
  clear BK0 HB; refine steps_cons ?_ ?_
  ·rintro b a w' ⟨v7, v10, v11, v8, v12, v13, v14, v9, m32_, ha, Q_BK0, Q_HB, Q_HO4, Q_HO1, Q_HO2, Q_HO3, Q_HO5, Q_HO6, Q_HO15, Q_HO16, Q_X32_⟩ hb_ hon hoff; refine ⟨_, rfl, fun K hK => ?_⟩; have e9 : a.tmps[9]? = some (.pointer (some ⟨gb0, 0, none⟩)) := by rw [ha]; exact (putSel_off rfl).trans rfl
   replace ha := Gv.a0 ha; have BK0 := Gv.a0 Q_BK0; have HB := Gv.a0 Q_HB; have hc0_ : w'.cell? ⟨gb0, 0, none⟩ = some (.int .i64 a1_0) := (blk_cell BK0.out 0).trans rfl; have hc1_ : w'.cell? ⟨gb0, 1, none⟩ = some (.int .i64 a1_1) := (blk_cell BK0.out 1).trans rfl; have hc2_ : w'.cell? ⟨gb0, 2, none⟩ = some (.int .i64 a1_2) := (blk_cell BK0.out 2).trans rfl; have hc3_ : w'.cell? ⟨gb0, 3, none⟩ = some (.int .i64 a1_3) := (blk_cell BK0.out 3).trans rfl; have hc4_ : w'.cell? ⟨gb0, 4, none⟩ = some (.int .i64 a1_4) := (blk_cell BK0.out 4).trans rfl; have hc5_ : w'.cell? ⟨gb0, 5, none⟩ = some (.int .i64 a1_5) := (blk_cell BK0.out 5).trans rfl; have hc6_ : w'.cell? ⟨gb0, 6, none⟩ = some (.int .i64 a1_6) := (blk_cell BK0.out 6).trans rfl; have hc7_ : w'.cell? ⟨gb0, 7, none⟩ = some (.int .i64 a1_7) := (blk_cell BK0.out 7).trans rfl; have hc8_ : w'.cell? ⟨gb0, 8, none⟩ = some (.int .i64 a1_8) := (blk_cell BK0.out 8).trans rfl; have hc9_ : w'.cell? ⟨gb0, 9, none⟩ = some (.int .i64 a1_9) := (blk_cell BK0.out 9).trans rfl; have hc10_ : w'.cell? ⟨gb0, 10, none⟩ = some (.int .i64 a1_10) := (blk_cell BK0.out 10).trans rfl; have hc11_ : w'.cell? ⟨gb0, 11, none⟩ = some (.int .i64 a1_11) := (blk_cell BK0.out 11).trans rfl; have hc12_ : w'.cell? ⟨gb0, 12, none⟩ = some (.int .i64 a1_12) := (blk_cell BK0.out 12).trans rfl; have hc13_ : w'.cell? ⟨gb0, 13, none⟩ = some (.int .i64 a1_13) := (blk_cell BK0.out 13).trans rfl; refine value_ (w1 := w') (v := .int .i64 a1_0) (by rfl) rfl ?_ ?_
   ·go_simp
    (try simp only [i64_w])
    try rfl
   refine hK.out _ _ ⟨v7, v10, v11, v8, v12, v13, v14, v9, m32_, (by rw [ha.out]; exact putSel_upk 0 hb_ rfl rfl rfl), Q_BK0, Q_HB, fun h0_ _ => absurd ((hoff 8 (by kernel_rfl)).symm.trans h0_) (by decide), Q_HO1, Q_HO2, Q_HO3, Q_HO5, Q_HO6, fun h0_ => absurd ((hoff 30 (by kernel_rfl)).symm.trans h0_) (by decide), fun h0_ => absurd ((hoff 31 (by kernel_rfl)).symm.trans h0_) (by decide), fun h0_ => absurd ((hoff 32 (by kernel_rfl)).symm.trans h0_) (by decide)⟩
  refine steps_cons ?_ ?_
  ·rintro b a w' ⟨v7, v10, v11, v8, v12, v13, v14, v9, m32_, ha, Q_BK0, Q_HB, Q_HO4, Q_HO1, Q_HO2, Q_HO3, Q_HO5, Q_HO6, Q_HO15, Q_HO16, Q_X32_⟩ hb_ hon hoff; refine ⟨_, rfl, fun K hK => ?_⟩; have e10 : a.tmps[10]? = some (.int .i64 a1_0) := by rw [ha]; exact putSel_on (e := (1, 10, .int .i64 a1_0)) 0 rfl rfl (hon 1 (by kernel_rfl)) rfl
   replace ha := Gv.a0 ha; have BK0 := Gv.a0 Q_BK0; have HB := Gv.a0 Q_HB; refine value_ (w1 := w') (v := .int .u8 ((a1_0) % 256)) (by rfl) rfl ?_ ?_
   ·go_simp
    (try simp only [i64_w])
    try rfl
   refine hK.out _ _ ⟨v7, v10, v11, v8, v12, v13, v14, v9, m32_, (by rw [ha.out]; exact putSel_upk 1 hb_ rfl rfl rfl), Q_BK0, Q_HB, fun h0_ _ => absurd ((hoff 8 (by kernel_rfl)).symm.trans h0_) (by decide), Q_HO1, Q_HO2, Q_HO3, Q_HO5, Q_HO6, fun h0_ => absurd ((hoff 30 (by kernel_rfl)).symm.trans h0_) (by decide), fun h0_ => absurd ((hoff 31 (by kernel_rfl)).symm.trans h0_) (by decide), fun h0_ => absurd ((hoff 32 (by kernel_rfl)).symm.trans h0_) (by decide)⟩
  refine steps_cons ?_ ?_
  ·rintro b a w' ⟨v7, v10, v11, v8, v12, v13, v14, v9, m32_, ha, Q_BK0, Q_HB, Q_HO4, Q_HO1, Q_HO2, Q_HO3, Q_HO5, Q_HO6, Q_HO15, Q_HO16, Q_X32_⟩ hb_ hon hoff; refine ⟨_, rfl, fun K hK => ?_⟩; have e14 : a.tmps[14]? = some (.pointer (some ⟨gb0, 1, none⟩)) := by rw [ha]; exact (putSel_off rfl).trans rfl
   replace ha := Gv.a0 ha; have BK0 := Gv.a0 Q_BK0; have HB := Gv.a0 Q_HB; have hc0_ : w'.cell? ⟨gb0, 0, none⟩ = some (.int .i64 a1_0) := (blk_cell BK0.out 0).trans rfl; have hc1_ : w'.cell? ⟨gb0, 1, none⟩ = some (.int .i64 a1_1) := (blk_cell BK0.out 1).trans rfl; have hc2_ : w'.cell? ⟨gb0, 2, none⟩ = some (.int .i64 a1_2) := (blk_cell BK0.out 2).trans rfl; have hc3_ : w'.cell? ⟨gb0, 3, none⟩ = some (.int .i64 a1_3) := (blk_cell BK0.out 3).trans rfl; have hc4_ : w'.cell? ⟨gb0, 4, none⟩ = some (.int .i64 a1_4) := (blk_cell BK0.out 4).trans rfl; have hc5_ : w'.cell? ⟨gb0, 5, none⟩ = some (.int .i64 a1_5) := (blk_cell BK0.out 5).trans rfl; have hc6_ : w'.cell? ⟨gb0, 6, none⟩ = some (.int .i64 a1_6) := (blk_cell BK0.out 6).trans rfl; have hc7_ : w'.cell? ⟨gb0, 7, none⟩ = some (.int .i64 a1_7) := (blk_cell BK0.out 7).trans rfl; have hc8_ : w'.cell? ⟨gb0, 8, none⟩ = some (.int .i64 a1_8) := (blk_cell BK0.out 8).trans rfl; have hc9_ : w'.cell? ⟨gb0, 9, none⟩ = some (.int .i64 a1_9) := (blk_cell BK0.out 9).trans rfl; have hc10_ : w'.cell? ⟨gb0, 10, none⟩ = some (.int .i64 a1_10) := (blk_cell BK0.out 10).trans rfl; have hc11_ : w'.cell? ⟨gb0, 11, none⟩ = some (.int .i64 a1_11) := (blk_cell BK0.out 11).trans rfl; have hc12_ : w'.cell? ⟨gb0, 12, none⟩ = some (.int .i64 a1_12) := (blk_cell BK0.out 12).trans rfl; have hc13_ : w'.cell? ⟨gb0, 13, none⟩ = some (.int .i64 a1_13) := (blk_cell BK0.out 13).trans rfl; refine value_ (w1 := w') (v := .int .i64 a1_1) (by rfl) rfl ?_ ?_
   ·go_simp
    (try simp only [i64_w])
    try rfl
   refine hK.out _ _ ⟨v7, v10, v11, v8, v12, v13, v14, v9, m32_, (by rw [ha.out]; exact putSel_upk 2 hb_ rfl rfl rfl), Q_BK0, Q_HB, fun h0_ _ => absurd ((hoff 8 (by kernel_rfl)).symm.trans h0_) (by decide), Q_HO1, Q_HO2, Q_HO3, Q_HO5, Q_HO6, fun h0_ => absurd ((hoff 30 (by kernel_rfl)).symm.trans h0_) (by decide), fun h0_ => absurd ((hoff 31 (by kernel_rfl)).symm.trans h0_) (by decide), fun h0_ => absurd ((hoff 32 (by kernel_rfl)).symm.trans h0_) (by decide)⟩
  refine steps_cons ?_ ?_
  ·rintro b a w' ⟨v7, v10, v11, v8, v12, v13, v14, v9, m32_, ha, Q_BK0, Q_HB, Q_HO4, Q_HO1, Q_HO2, Q_HO3, Q_HO5, Q_HO6, Q_HO15, Q_HO16, Q_X32_⟩ hb_ hon hoff; refine ⟨_, rfl, fun K hK => ?_⟩; have e15 : a.tmps[15]? = some (.int .i64 a1_1) := by rw [ha]; exact putSel_on (e := (6, 15, .int .i64 a1_1)) 2 rfl rfl (hon 6 (by kernel_rfl)) rfl
   replace ha := Gv.a0 ha; have BK0 := Gv.a0 Q_BK0; have HB := Gv.a0 Q_HB; refine value_ (w1 := w') (v := .int .u8 ((a1_1) % 256)) (by rfl) rfl ?_ ?_
   ·go_simp
    (try simp only [i64_w])
    try rfl
   refine hK.out _ _ ⟨v7, v10, v11, v8, v12, v13, v14, v9, m32_, (by rw [ha.out]; exact putSel_upk 3 hb_ rfl rfl rfl), Q_BK0, Q_HB, fun h0_ _ => absurd ((hoff 8 (by kernel_rfl)).symm.trans h0_) (by decide), Q_HO1, Q_HO2, Q_HO3, Q_HO5, Q_HO6, fun h0_ => absurd ((hoff 30 (by kernel_rfl)).symm.trans h0_) (by decide), fun h0_ => absurd ((hoff 31 (by kernel_rfl)).symm.trans h0_) (by decide), fun h0_ => absurd ((hoff 32 (by kernel_rfl)).symm.trans h0_) (by decide)⟩
  refine steps_cons ?_ ?_
  ·rintro b a w' ⟨v7, v10, v11, v8, v12, v13, v14, v9, m32_, ha, Q_BK0, Q_HB, Q_HO4, Q_HO1, Q_HO2, Q_HO3, Q_HO5, Q_HO6, Q_HO15, Q_HO16, Q_X32_⟩ hb_ hon hoff; refine ⟨_, rfl, fun K hK => ?_⟩; have e11 : a.tmps[11]? = some (.int .u8 ((a1_0) % 256)) := by rw [ha]; exact putSel_on (e := (2, 11, .int .u8 ((a1_0) % 256))) 1 rfl rfl (hon 2 (by kernel_rfl)) rfl
   have e16 : a.tmps[16]? = some (.int .u8 ((a1_1) % 256)) := by rw [ha]; exact putSel_on (e := (7, 16, .int .u8 ((a1_1) % 256))) 3 rfl rfl (hon 7 (by kernel_rfl)) rfl
   replace ha := Gv.a0 ha; have BK0 := Gv.a0 Q_BK0; have HB := Gv.a0 Q_HB; refine Kd.R_lit_step (Kd.int .u8) _ 5 ?hg (N := 17) ?hd (xs := ([(a1_0) % 256, (a1_1) % 256] : List Int)) (inner := [.int .u8 ((a1_0) % 256), .int .u8 ((a1_1) % 256)]) (ok := fun _ => True) (okp := fun _ => True) ?hr ?hp (fun _ hk => hk) trivial (Below.refl _ _) (Nat.le_refl _) (by simp) ?_; (case hd => rfl); (case hg => rfl); (case hr => first | (go_simp; done) | (go_simp; rfl)); (case hp => exact (Reps.one (show Kd.M (Kd.int .u8) _ _ _ ((a1_0) % 256) [.int .u8 ((a1_0) % 256)] from rfl) (Reps.one (show Kd.M (Kd.int .u8) _ _ _ ((a1_1) % 256) [.int .u8 ((a1_1) % 256)] from rfl) (Reps.none _ _)))); intro v7 w10 ho11 hb hg_ hnew_; clear hg_ hnew_
   (first | rw [← Ny17.out] at ho11 | (simp only [Int.reduceToNat] at ho11; rw [← Ny17.out] at ho11)); have n0_ := Gv.a0 (Kd.R_lower ho11 (below_size Gv.bw)); have n1_ := Gv.b1 BK0 hb; have n2_ := Gv.a0 (below_step Gv.bw hb); have z_HO1 := fun (h0_ : b 12 = true) (h1_ : b 30 = false) => (show Kd.R (Kd.int .u8) 5 w10 w.heap.size (fun _ => True) v10 t23 from by first | exact (Kd.R_elder' (Gv.kr (Q_HO1 h0_ h1_)) (Kd.R_base ho11) hb) | exact Kd.R_mono (Kd.R_elder' (Gv.kr (Q_HO1 h0_ h1_)) (Kd.R_base ho11) hb) (fun _ h_ => by first | trivial | exact h_ | exact h_.1))
   have z_HO2 := fun (h0_ : b 16 = true) (h1_ : b 30 = false) => (show Kd.R (Kd.int .u8) 5 w10 w.heap.size (fun _ => True) v11 t24 from by first | exact (Kd.R_elder' (Gv.kr (Q_HO2 h0_ h1_)) (Kd.R_base ho11) hb) | exact Kd.R_mono (Kd.R_elder' (Gv.kr (Q_HO2 h0_ h1_)) (Kd.R_base ho11) hb) (fun _ h_ => by first | trivial | exact h_ | exact h_.1))
   have z_HO3 := fun (h0_ : b 21 = true) (h1_ : b 30 = false) => (show Kd.R (Kd.int .u8) 5 w10 w.heap.size (fun _ => True) v8 y18 from by first | exact (Kd.R_elder' (Gv.kr (Q_HO3 h0_ h1_)) (Kd.R_base ho11) hb) | exact Kd.R_mono (Kd.R_elder' (Gv.kr (Q_HO3 h0_ h1_)) (Kd.R_base ho11) hb) (fun _ h_ => by first | trivial | exact h_ | exact h_.1))
   have z_HO5 := fun (h0_ : b 25 = true) (h1_ : b 30 = false) => (show Kd.R (Kd.int .u8) 5 w10 w.heap.size (fun _ => True) v12 t20 from by first | exact (Kd.R_elder' (Gv.kr (Q_HO5 h0_ h1_)) (Kd.R_base ho11) hb) | exact Kd.R_mono (Kd.R_elder' (Gv.kr (Q_HO5 h0_ h1_)) (Kd.R_base ho11) hb) (fun _ h_ => by first | trivial | exact h_ | exact h_.1))
   have z_HO6 := fun (h0_ : b 29 = true) (h1_ : b 30 = false) => (show Kd.R (Kd.int .u8) 5 w10 w.heap.size (fun _ => True) v13 t21 from by first | exact (Kd.R_elder' (Gv.kr (Q_HO6 h0_ h1_)) (Kd.R_base ho11) hb) | exact Kd.R_mono (Kd.R_elder' (Gv.kr (Q_HO6 h0_ h1_)) (Kd.R_base ho11) hb) (fun _ h_ => by first | trivial | exact h_ | exact h_.1))
   clear BK0 HB; have HO4 := n0_; have BK0 := n1_; have HB := n2_; clear n0_ n1_ n2_ hb ho11; refine hK.out _ _ ⟨v7, v10, v11, v8, v12, v13, v14, v9, m32_, (by rw [ha.out]; exact putSel_upk 4 hb_ rfl rfl rfl), Gv.bk, Gv.bw, fun _ _ => (by (with_reducible repeat (first | apply Kd.R_alloc | apply Kd.R_drewN | apply Kd.R_drew)); first | exact HO4.out | exact Kd.R_mono HO4.out (fun _ hk => by first | exact hk.2 | trivial | exact ⟨hk.1.2, hk.2⟩ | exact ⟨trivial, hk.2⟩ | exact hk.1.2 | exact hk | exact ⟨trivial, hk⟩ | exact hk.1 | (simp only [true_and, and_true] at hk ⊢; first | exact hk | exact hk.2 | exact hk.1 | exact ⟨hk.2, hk.1⟩ | omega | (constructor <;> first | exact hk.1 | exact hk.2 | exact hk.1.1 | exact hk.1.2 | exact hk.2.1 | exact hk.2.2)))), z_HO1, z_HO2, z_HO3, z_HO5, z_HO6, fun h0_ => absurd ((hoff 30 (by kernel_rfl)).symm.trans h0_) (by decide), fun h0_ => absurd ((hoff 31 (by kernel_rfl)).symm.trans h0_) (by decide), fun h0_ => absurd ((hoff 32 (by kernel_rfl)).symm.trans h0_) (by decide)⟩
  refine steps_cons ?_ ?_
  ·rintro b a w' ⟨v7, v10, v11, v8, v12, v13, v14, v9, m32_, ha, Q_BK0, Q_HB, Q_HO4, Q_HO1, Q_HO2, Q_HO3, Q_HO5, Q_HO6, Q_HO15, Q_HO16, Q_X32_⟩ hb_ hon hoff; refine ⟨_, rfl, fun K hK => ?_⟩; have e19 : a.tmps[19]? = some (.pointer (some ⟨gb0, 1, none⟩)) := by rw [ha]; exact (putSel_off rfl).trans rfl
   replace ha := Gv.a0 ha; have BK0 := Gv.a0 Q_BK0; have HB := Gv.a0 Q_HB; have hc0_ : w'.cell? ⟨gb0, 0, none⟩ = some (.int .i64 a1_0) := (blk_cell BK0.out 0).trans rfl; have hc1_ : w'.cell? ⟨gb0, 1, none⟩ = some (.int .i64 a1_1) := (blk_cell BK0.out 1).trans rfl; have hc2_ : w'.cell? ⟨gb0, 2, none⟩ = some (.int .i64 a1_2) := (blk_cell BK0.out 2).trans rfl; have hc3_ : w'.cell? ⟨gb0, 3, none⟩ = some (.int .i64 a1_3) := (blk_cell BK0.out 3).trans rfl; have hc4_ : w'.cell? ⟨gb0, 4, none⟩ = some (.int .i64 a1_4) := (blk_cell BK0.out 4).trans rfl; have hc5_ : w'.cell? ⟨gb0, 5, none⟩ = some (.int .i64 a1_5) := (blk_cell BK0.out 5).trans rfl; have hc6_ : w'.cell? ⟨gb0, 6, none⟩ = some (.int .i64 a1_6) := (blk_cell BK0.out 6).trans rfl; have hc7_ : w'.cell? ⟨gb0, 7, none⟩ = some (.int .i64 a1_7) := (blk_cell BK0.out 7).trans rfl; have hc8_ : w'.cell? ⟨gb0, 8, none⟩ = some (.int .i64 a1_8) := (blk_cell BK0.out 8).trans rfl; have hc9_ : w'.cell? ⟨gb0, 9, none⟩ = some (.int .i64 a1_9) := (blk_cell BK0.out 9).trans rfl; have hc10_ : w'.cell? ⟨gb0, 10, none⟩ = some (.int .i64 a1_10) := (blk_cell BK0.out 10).trans rfl; have hc11_ : w'.cell? ⟨gb0, 11, none⟩ = some (.int .i64 a1_11) := (blk_cell BK0.out 11).trans rfl; have hc12_ : w'.cell? ⟨gb0, 12, none⟩ = some (.int .i64 a1_12) := (blk_cell BK0.out 12).trans rfl; have hc13_ : w'.cell? ⟨gb0, 13, none⟩ = some (.int .i64 a1_13) := (blk_cell BK0.out 13).trans rfl; refine value_ (w1 := w') (v := .agg #[.int .i64 a1_1, .int .i64 a1_2, .int .i64 a1_3, .int .i64 a1_4, .int .i64 a1_5]) (by rfl) rfl ?_ ?_
   ·go_simp
    (try simp only [i64_w])
    try rfl
   refine hK.out _ _ ⟨v7, v10, v11, v8, v12, v13, v14, v9, m32_, (by rw [ha.out]; exact putSel_upk 5 hb_ rfl rfl rfl), Q_BK0, Q_HB, Q_HO4, fun h0_ _ => absurd ((hoff 12 (by kernel_rfl)).symm.trans h0_) (by decide), fun h0_ _ => absurd ((hoff 16 (by kernel_rfl)).symm.trans h0_) (by decide), Q_HO3, fun h0_ _ => absurd ((hoff 25 (by kernel_rfl)).symm.trans h0_) (by decide), fun h0_ _ => absurd ((hoff 29 (by kernel_rfl)).symm.trans h0_) (by decide), fun h0_ => absurd ((hoff 30 (by kernel_rfl)).symm.trans h0_) (by decide), fun h0_ => absurd ((hoff 31 (by kernel_rfl)).symm.trans h0_) (by decide), fun h0_ => absurd ((hoff 32 (by kernel_rfl)).symm.trans h0_) (by decide)⟩
  refine steps_cons ?_ ?_
  ·rintro b a w' ⟨v7, v10, v11, v8, v12, v13, v14, v9, m32_, ha, Q_BK0, Q_HB, Q_HO4, Q_HO1, Q_HO2, Q_HO3, Q_HO5, Q_HO6, Q_HO15, Q_HO16, Q_X32_⟩ hb_ hon hoff; refine ⟨_, rfl, fun K hK => ?_⟩; have e20 : a.tmps[20]? = some (.agg #[.int .i64 a1_1, .int .i64 a1_2, .int .i64 a1_3, .int .i64 a1_4, .int .i64 a1_5]) := by rw [ha]; exact putSel_on (e := (11, 20, .agg #[.int .i64 a1_1, .int .i64 a1_2, .int .i64 a1_3, .int .i64 a1_4, .int .i64 a1_5])) 5 rfl rfl (hon 11 (by kernel_rfl)) rfl
   replace ha := Gv.a0 ha; have BK0 := Gv.a0 Q_BK0; have HB := Gv.a0 Q_HB; refine goes_ Try.func74 (by kernel_rfl) rfl #[.agg #[.int .i64 a1_1, .int .i64 a1_2, .int .i64 a1_3, .int .i64 a1_4, .int .i64 a1_5]] (by rfl) rfl rfl (by first | (simp only [List.map_toArray, List.map_cons, List.map_nil, Act.eval, Array.getD_eq_getD_getElem?, Option.getD_some, e20]; done) | (simp only [List.map_toArray, List.map_cons, List.map_nil, Act.eval, Array.getD_eq_getD_getElem?, Option.getD_some, e20]; rfl)) ?_
   with_reducible refine (impl_AddrBytes.calls k a1_1 a1_2 a1_3 a1_4 a1_5 t23 _ A3.out).mono ?_
   rintro e w10 ⟨v10, rfl, ho0, hb⟩; refine ⟨_, rfl, ?_⟩; have n0_ := Gv.a0 (Kd.R_lower ho0 (below_size Gv.bw)); have n1_ := Gv.b1 BK0 hb; have n2_ := Gv.a0 (below_step Gv.bw hb); have z_HO4 := fun (h0_ : b 8 = true) (h1_ : b 30 = false) => (show Kd.R (Kd.int .u8) 5 w10 w.heap.size (fun _ => True) v7 y17 from by first | exact (Kd.R_elder' (Gv.kr (Q_HO4 h0_ h1_)) (Kd.R_base ho0) hb) | exact Kd.R_mono (Kd.R_elder' (Gv.kr (Q_HO4 h0_ h1_)) (Kd.R_base ho0) hb) (fun _ h_ => by first | trivial | exact h_ | exact h_.1))
   have z_HO3 := fun (h0_ : b 21 = true) (h1_ : b 30 = false) => (show Kd.R (Kd.int .u8) 5 w10 w.heap.size (fun _ => True) v8 y18 from by first | exact (Kd.R_elder' (Gv.kr (Q_HO3 h0_ h1_)) (Kd.R_base ho0) hb) | exact Kd.R_mono (Kd.R_elder' (Gv.kr (Q_HO3 h0_ h1_)) (Kd.R_base ho0) hb) (fun _ h_ => by first | trivial | exact h_ | exact h_.1))
   clear BK0 HB; have HO1 := n0_; have BK0 := n1_; have HB := n2_; clear n0_ n1_ n2_
   (try clear hb)
   (try clear hb2)
   (try clear hk)
   (try clear hi)
   (try clear ho0); refine hK.out _ _ ⟨v7, v10, v11, v8, v12, v13, v14, v9, m32_, (by rw [ha.out]; exact putSel_upk 6 hb_ rfl rfl rfl), Gv.bk, Gv.bw, z_HO4, fun _ _ => (by (with_reducible repeat (first | apply Kd.R_alloc | apply Kd.R_drewN | apply Kd.R_drew)); first | exact HO1.out | exact Kd.R_mono HO1.out (fun _ hk => by first | exact hk.2 | trivial | exact ⟨hk.1.2, hk.2⟩ | exact ⟨trivial, hk.2⟩ | exact hk.1.2 | exact hk | exact ⟨trivial, hk⟩ | exact hk.1 | (simp only [true_and, and_true] at hk ⊢; first | exact hk | exact hk.2 | exact hk.1 | exact ⟨hk.2, hk.1⟩ | omega | (constructor <;> first | exact hk.1 | exact hk.2 | exact hk.1.1 | exact hk.1.2 | exact hk.2.1 | exact hk.2.2)))), fun h0_ _ => absurd ((hoff 16 (by kernel_rfl)).symm.trans h0_) (by decide), z_HO3, fun h0_ _ => absurd ((hoff 25 (by kernel_rfl)).symm.trans h0_) (by decide), fun h0_ _ => absurd ((hoff 29 (by kernel_rfl)).symm.trans h0_) (by decide), fun h0_ => absurd ((hoff 30 (by kernel_rfl)).symm.trans h0_) (by decide), fun h0_ => absurd ((hoff 31 (by kernel_rfl)).symm.trans h0_) (by decide), fun h0_ => absurd ((hoff 32 (by kernel_rfl)).symm.trans h0_) (by decide)⟩
  refine steps_cons ?_ ?_
  ·rintro b a w' ⟨v7, v10, v11, v8, v12, v13, v14, v9, m32_, ha, Q_BK0, Q_HB, Q_HO4, Q_HO1, Q_HO2, Q_HO3, Q_HO5, Q_HO6, Q_HO15, Q_HO16, Q_X32_⟩ hb_ hon hoff; refine ⟨_, rfl, fun K hK => ?_⟩; have e23 : a.tmps[23]? = some (.pointer (some ⟨gb0, 6, none⟩)) := by rw [ha]; exact (putSel_off rfl).trans rfl
   replace ha := Gv.a0 ha; have BK0 := Gv.a0 Q_BK0; have HB := Gv.a0 Q_HB; have hc0_ : w'.cell? ⟨gb0, 0, none⟩ = some (.int .i64 a1_0) := (blk_cell BK0.out 0).trans rfl; have hc1_ : w'.cell? ⟨gb0, 1, none⟩ = some (.int .i64 a1_1) := (blk_cell BK0.out 1).trans rfl; have hc2_ : w'.cell? ⟨gb0, 2, none⟩ = some (.int .i64 a1_2) := (blk_cell BK0.out 2).trans rfl; have hc3_ : w'.cell? ⟨gb0, 3, none⟩ = some (.int .i64 a1_3) := (blk_cell BK0.out 3).trans rfl; have hc4_ : w'.cell? ⟨gb0, 4, none⟩ = some (.int .i64 a1_4) := (blk_cell BK0.out 4).trans rfl; have hc5_ : w'.cell? ⟨gb0, 5, none⟩ = some (.int .i64 a1_5) := (blk_cell BK0.out 5).trans rfl; have hc6_ : w'.cell? ⟨gb0, 6, none⟩ = some (.int .i64 a1_6) := (blk_cell BK0.out 6).trans rfl; have hc7_ : w'.cell? ⟨gb0, 7, none⟩ = some (.int .i64 a1_7) := (blk_cell BK0.out 7).trans rfl; have hc8_ : w'.cell? ⟨gb0, 8, none⟩ = some (.int .i64 a1_8) := (blk_cell BK0.out 8).trans rfl; have hc9_ : w'.cell? ⟨gb0, 9, none⟩ = some (.int .i64 a1_9) := (blk_cell BK0.out 9).trans rfl; have hc10_ : w'.cell? ⟨gb0, 10, none⟩ = some (.int .i64 a1_10) := (blk_cell BK0.out 10).trans rfl; have hc11_ : w'.cell? ⟨gb0, 11, none⟩ = some (.int .i64 a1_11) := (blk_cell BK0.out 11).trans rfl; have hc12_ : w'.cell? ⟨gb0, 12, none⟩ = some (.int .i64 a1_12) := (blk_cell BK0.out 12).trans rfl; have hc13_ : w'.cell? ⟨gb0, 13, none⟩ = some (.int .i64 a1_13) := (blk_cell BK0.out 13).trans rfl; refine value_ (w1 := w') (v := .agg #[.int .i64 a1_6, .int .i64 a1_7, .int .i64 a1_8, .int .i64 a1_9, .int .i64 a1_10]) (by rfl) rfl ?_ ?_
   ·go_simp
    (try simp only [i64_w])
    try rfl
   refine hK.out _ _ ⟨v7, v10, v11, v8, v12, v13, v14, v9, m32_, (by rw [ha.out]; exact putSel_upk 7 hb_ rfl rfl rfl), Q_BK0, Q_HB, Q_HO4, Q_HO1, fun h0_ _ => absurd ((hoff 16 (by kernel_rfl)).symm.trans h0_) (by decide), Q_HO3, fun h0_ _ => absurd ((hoff 25 (by kernel_rfl)).symm.trans h0_) (by decide), fun h0_ _ => absurd ((hoff 29 (by kernel_rfl)).symm.trans h0_) (by decide), fun h0_ => absurd ((hoff 30 (by kernel_rfl)).symm.trans h0_) (by decide), fun h0_ => absurd ((hoff 31 (by kernel_rfl)).symm.trans h0_) (by decide), fun h0_ => absurd ((hoff 32 (by kernel_rfl)).symm.trans h0_) (by decide)⟩
  refine steps_cons ?_ ?_
  ·rintro b a w' ⟨v7, v10, v11, v8, v12, v13, v14, v9, m32_, ha, Q_BK0, Q_HB, Q_HO4, Q_HO1, Q_HO2, Q_HO3, Q_HO5, Q_HO6, Q_HO15, Q_HO16, Q_X32_⟩ hb_ hon hoff; refine ⟨_, rfl, fun K hK => ?_⟩; have e24 : a.tmps[24]? = some (.agg #[.int .i64 a1_6, .int .i64 a1_7, .int .i64 a1_8, .int .i64 a1_9, .int .i64 a1_10]) := by rw [ha]; exact putSel_on (e := (15, 24, .agg #[.int .i64 a1_6, .int .i64 a1_7, .int .i64 a1_8, .int .i64 a1_9, .int .i64 a1_10])) 7 rfl rfl (hon 15 (by kernel_rfl)) rfl
   replace ha := Gv.a0 ha; have BK0 := Gv.a0 Q_BK0; have HB := Gv.a0 Q_HB; have HO1 := Gv.a0 (Q_HO1 (hon 12 (by kernel_rfl)) (hoff 30 (by kernel_rfl))); refine goes_ Try.func74 (by kernel_rfl) rfl #[.agg #[.int .i64 a1_6, .int .i64 a1_7, .int .i64 a1_8, .int .i64 a1_9, .int .i64 a1_10]] (by rfl) rfl rfl (by first | (simp only [List.map_toArray, List.map_cons, List.map_nil, Act.eval, Array.getD_eq_getD_getElem?, Option.getD_some, e24]; done) | (simp only [List.map_toArray, List.map_cons, List.map_nil, Act.eval, Array.getD_eq_getD_getElem?, Option.getD_some, e24]; rfl)) ?_
   with_reducible refine (impl_AddrBytes.calls k a1_6 a1_7 a1_8 a1_9 a1_10 t24 _ A4.out).mono ?_
   rintro e w12 ⟨v11, rfl, ho0, hb⟩; refine ⟨_, rfl, ?_⟩; have n0_ := Gv.a0 (Kd.R_elder' (Gv.kr HO1.out) (Kd.R_base ho0) hb); have n1_ := Gv.a0 (Kd.R_lower (Kd.R_new' ho0 (Kd.R_lt (Gv.kr HO1.out))) (below_size Gv.bw)); have n2_ := Gv.b1 BK0 hb; have n3_ := Gv.a0 (below_step Gv.bw hb); have z_HO4 := fun (h0_ : b 8 = true) (h1_ : b 30 = false) => (show Kd.R (Kd.int .u8) 5 w12 w.heap.size (fun _ => True) v7 y17 from by first | exact (Kd.R_elder' (Gv.kr (Q_HO4 h0_ h1_)) (Kd.R_base ho0) hb) | exact Kd.R_mono (Kd.R_elder' (Gv.kr (Q_HO4 h0_ h1_)) (Kd.R_base ho0) hb) (fun _ h_ => by first | trivial | exact h_ | exact h_.1))
   have z_HO3 := fun (h0_ : b 21 = true) (h1_ : b 30 = false) => (show Kd.R (Kd.int .u8) 5 w12 w.heap.size (fun _ => True) v8 y18 from by first | exact (Kd.R_elder' (Gv.kr (Q_HO3 h0_ h1_)) (Kd.R_base ho0) hb) | exact Kd.R_mono (Kd.R_elder' (Gv.kr (Q_HO3 h0_ h1_)) (Kd.R_base ho0) hb) (fun _ h_ => by first | trivial | exact h_ | exact h_.1))
   clear HO1 BK0 HB; have HO1 := n0_; have HO2 := n1_; have BK0 := n2_; have HB := n3_; clear n0_ n1_ n2_ n3_
   (try clear hb)
   (try clear hb2)
   (try clear hk)
   (try clear hi)
   (try clear ho0); refine hK.out _ _ ⟨v7, v10, v11, v8, v12, v13, v14, v9, m32_, (by rw [ha.out]; exact putSel_upk 8 hb_ rfl rfl rfl), Gv.bk, Gv.bw, z_HO4, fun _ _ => (by (with_reducible repeat (first | apply Kd.R_alloc | apply Kd.R_drewN | apply Kd.R_drew)); exact Kd.R_mono HO1.out (fun _ hk => by first | exact hk.2 | trivial | exact ⟨hk.1.2, hk.2⟩ | exact ⟨trivial, hk.2⟩ | exact hk.1.2 | exact hk | exact ⟨trivial, hk⟩ | exact hk.1 | (simp only [true_and, and_true] at hk ⊢; first | exact hk | exact hk.2 | exact hk.1 | exact ⟨hk.2, hk.1⟩ | omega | (constructor <;> first | exact hk.1 | exact hk.2 | exact hk.1.1 | exact hk.1.2 | exact hk.2.1 | exact hk.2.2)))), fun _ _ => (by (with_reducible repeat (first | apply Kd.R_alloc | apply Kd.R_drewN | apply Kd.R_drew)); exact Kd.R_mono HO2.out (fun _ hk => by first | exact hk.2 | trivial | exact ⟨hk.1.2, hk.2⟩ | exact ⟨trivial, hk.2⟩ | exact hk.1.2 | exact hk | exact ⟨trivial, hk⟩ | exact hk.1 | (simp only [true_and, and_true] at hk ⊢; first | exact hk | exact hk.2 | exact hk.1 | exact ⟨hk.2, hk.1⟩ | omega | (constructor <;> first | exact hk.1 | exact hk.2 | exact hk.1.1 | exact hk.1.2 | exact hk.2.1 | exact hk.2.2)))), z_HO3, fun h0_ _ => absurd ((hoff 25 (by kernel_rfl)).symm.trans h0_) (by decide), fun h0_ _ => absurd ((hoff 29 (by kernel_rfl)).symm.trans h0_) (by decide), fun h0_ => absurd ((hoff 30 (by kernel_rfl)).symm.trans h0_) (by decide), fun h0_ => absurd ((hoff 31 (by kernel_rfl)).symm.trans h0_) (by decide), fun h0_ => absurd ((hoff 32 (by kernel_rfl)).symm.trans h0_) (by decide)⟩
  refine steps_cons ?_ ?_
  ·rintro b a w' ⟨v7, v10, v11, v8, v12, v13, v14, v9, m32_, ha, Q_BK0, Q_HB, Q_HO4, Q_HO1, Q_HO2, Q_HO3, Q_HO5, Q_HO6, Q_HO15, Q_HO16, Q_X32_⟩ hb_ hon hoff; refine ⟨_, rfl, fun K hK => ?_⟩; have e27 : a.tmps[27]? = some (.pointer (some ⟨gb0, 11, none⟩)) := by rw [ha]; exact (putSel_off rfl).trans rfl
   replace ha := Gv.a0 ha; have BK0 := Gv.a0 Q_BK0; have HB := Gv.a0 Q_HB; have hc0_ : w'.cell? ⟨gb0, 0, none⟩ = some (.int .i64 a1_0) := (blk_cell BK0.out 0).trans rfl; have hc1_ : w'.cell? ⟨gb0, 1, none⟩ = some (.int .i64 a1_1) := (blk_cell BK0.out 1).trans rfl; have hc2_ : w'.cell? ⟨gb0, 2, none⟩ = some (.int .i64 a1_2) := (blk_cell BK0.out 2).trans rfl; have hc3_ : w'.cell? ⟨gb0, 3, none⟩ = some (.int .i64 a1_3) := (blk_cell BK0.out 3).trans rfl; have hc4_ : w'.cell? ⟨gb0, 4, none⟩ = some (.int .i64 a1_4) := (blk_cell BK0.out 4).trans rfl; have hc5_ : w'.cell? ⟨gb0, 5, none⟩ = some (.int .i64 a1_5) := (blk_cell BK0.out 5).trans rfl; have hc6_ : w'.cell? ⟨gb0, 6, none⟩ = some (.int .i64 a1_6) := (blk_cell BK0.out 6).trans rfl; have hc7_ : w'.cell? ⟨gb0, 7, none⟩ = some (.int .i64 a1_7) := (blk_cell BK0.out 7).trans rfl; have hc8_ : w'.cell? ⟨gb0, 8, none⟩ = some (.int .i64 a1_8) := (blk_cell BK0.out 8).trans rfl; have hc9_ : w'.cell? ⟨gb0, 9, none⟩ = some (.int .i64 a1_9) := (blk_cell BK0.out 9).trans rfl; have hc10_ : w'.cell? ⟨gb0, 10, none⟩ = some (.int .i64 a1_10) := (blk_cell BK0.out 10).trans rfl; have hc11_ : w'.cell? ⟨gb0, 11, none⟩ = some (.int .i64 a1_11) := (blk_cell BK0.out 11).trans rfl; have hc12_ : w'.cell? ⟨gb0, 12, none⟩ = some (.int .i64 a1_12) := (blk_cell BK0.out 12).trans rfl; have hc13_ : w'.cell? ⟨gb0, 13, none⟩ = some (.int .i64 a1_13) := (blk_cell BK0.out 13).trans rfl; refine value_ (w1 := w') (v := .int .i64 a1_11) (by rfl) rfl ?_ ?_
   ·go_simp
    (try simp only [i64_w])
    try rfl
   refine hK.out _ _ ⟨v7, v10, v11, v8, v12, v13, v14, v9, m32_, (by rw [ha.out]; exact putSel_upk 9 hb_ rfl rfl rfl), Q_BK0, Q_HB, Q_HO4, Q_HO1, Q_HO2, fun h0_ _ => absurd ((hoff 21 (by kernel_rfl)).symm.trans h0_) (by decide), Q_HO5, Q_HO6, fun h0_ => absurd ((hoff 30 (by kernel_rfl)).symm.trans h0_) (by decide), fun h0_ => absurd ((hoff 31 (by kernel_rfl)).symm.trans h0_) (by decide), fun h0_ => absurd ((hoff 32 (by kernel_rfl)).symm.trans h0_) (by decide)⟩
  refine steps_cons ?_ ?_
  ·rintro b a w' ⟨v7, v10, v11, v8, v12, v13, v14, v9, m32_, ha, Q_BK0, Q_HB, Q_HO4, Q_HO1, Q_HO2, Q_HO3, Q_HO5, Q_HO6, Q_HO15, Q_HO16, Q_X32_⟩ hb_ hon hoff; refine ⟨_, rfl, fun K hK => ?_⟩; have e28 : a.tmps[28]? = some (.int .i64 a1_11) := by rw [ha]; exact putSel_on (e := (19, 28, .int .i64 a1_11)) 9 rfl rfl (hon 19 (by kernel_rfl)) rfl
   replace ha := Gv.a0 ha; have BK0 := Gv.a0 Q_BK0; have HB := Gv.a0 Q_HB; refine value_ (w1 := w') (v := .int .u8 ((a1_11) % 256)) (by rfl) rfl ?_ ?_
   ·go_simp
    (try simp only [i64_w])
    try rfl
   refine hK.out _ _ ⟨v7, v10, v11, v8, v12, v13, v14, v9, m32_, (by rw [ha.out]; exact putSel_upk 10 hb_ rfl rfl rfl), Q_BK0, Q_HB, Q_HO4, Q_HO1, Q_HO2, fun h0_ _ => absurd ((hoff 21 (by kernel_rfl)).symm.trans h0_) (by decide), Q_HO5, Q_HO6, fun h0_ => absurd ((hoff 30 (by kernel_rfl)).symm.trans h0_) (by decide), fun h0_ => absurd ((hoff 31 (by kernel_rfl)).symm.trans h0_) (by decide), fun h0_ => absurd ((hoff 32 (by kernel_rfl)).symm.trans h0_) (by decide)⟩
  refine steps_cons ?_ ?_
  ·rintro b a w' ⟨v7, v10, v11, v8, v12, v13, v14, v9, m32_, ha, Q_BK0, Q_HB, Q_HO4, Q_HO1, Q_HO2, Q_HO3, Q_HO5, Q_HO6, Q_HO15, Q_HO16, Q_X32_⟩ hb_ hon hoff; refine ⟨_, rfl, fun K hK => ?_⟩; have e29 : a.tmps[29]? = some (.int .u8 ((a1_11) % 256)) := by rw [ha]; exact putSel_on (e := (20, 29, .int .u8 ((a1_11) % 256))) 10 rfl rfl (hon 20 (by kernel_rfl)) rfl
   replace ha := Gv.a0 ha; have BK0 := Gv.a0 Q_BK0; have HB := Gv.a0 Q_HB; refine Kd.R_lit_step (Kd.int .u8) _ 5 ?hg (N := 30) ?hd (xs := ([(a1_11) % 256] : List Int)) (inner := [.int .u8 ((a1_11) % 256)]) (ok := fun _ => True) (okp := fun _ => True) ?hr ?hp (fun _ hk => hk) trivial (Below.refl _ _) (Nat.le_refl _) (by simp) ?_; (case hd => rfl); (case hg => rfl); (case hr => first | (go_simp; done) | (go_simp; rfl)); (case hp => exact (Reps.one (show Kd.M (Kd.int .u8) _ _ _ ((a1_11) % 256) [.int .u8 ((a1_11) % 256)] from rfl) (Reps.none _ _))); intro v8 w10 ho11 hb hg_ hnew_; clear hg_ hnew_
   (first | rw [← Ny18.out] at ho11 | (simp only [Int.reduceToNat] at ho11; rw [← Ny18.out] at ho11)); have n0_ := Gv.a0 (Kd.R_lower ho11 (below_size Gv.bw)); have n1_ := Gv.b1 BK0 hb; have n2_ := Gv.a0 (below_step Gv.bw hb); have z_HO4 := fun (h0_ : b 8 = true) (h1_ : b 30 = false) => (show Kd.R (Kd.int .u8) 5 w10 w.heap.size (fun _ => True) v7 y17 from by first | exact (Kd.R_elder' (Gv.kr (Q_HO4 h0_ h1_)) (Kd.R_base ho11) hb) | exact Kd.R_mono (Kd.R_elder' (Gv.kr (Q_HO4 h0_ h1_)) (Kd.R_base ho11) hb) (fun _ h_ => by first | trivial | exact h_ | exact h_.1))
   have z_HO1 := fun (h0_ : b 12 = true) (h1_ : b 30 = false) => (show Kd.R (Kd.int .u8) 5 w10 w.heap.size (fun _ => True) v10 t23 from by first | exact (Kd.R_elder' (Gv.kr (Q_HO1 h0_ h1_)) (Kd.R_base ho11) hb) | exact Kd.R_mono (Kd.R_elder' (Gv.kr (Q_HO1 h0_ h1_)) (Kd.R_base ho11) hb) (fun _ h_ => by first | trivial | exact h_ | exact h_.1))
   have z_HO2 := fun (h0_ : b 16 = true) (h1_ : b 30 = false) => (show Kd.R (Kd.int .u8) 5 w10 w.heap.size (fun _ => True) v11 t24 from by first | exact (Kd.R_elder' (Gv.kr (Q_HO2 h0_ h1_)) (Kd.R_base ho11) hb) | exact Kd.R_mono (Kd.R_elder' (Gv.kr (Q_HO2 h0_ h1_)) (Kd.R_base ho11) hb) (fun _ h_ => by first | trivial | exact h_ | exact h_.1))
   have z_HO5 := fun (h0_ : b 25 = true) (h1_ : b 30 = false) => (show Kd.R (Kd.int .u8) 5 w10 w.heap.size (fun _ => True) v12 t20 from by first | exact (Kd.R_elder' (Gv.kr (Q_HO5 h0_ h1_)) (Kd.R_base ho11) hb) | exact Kd.R_mono (Kd.R_elder' (Gv.kr (Q_HO5 h0_ h1_)) (Kd.R_base ho11) hb) (fun _ h_ => by first | trivial | exact h_ | exact h_.1))
   have z_HO6 := fun (h0_ : b 29 = true) (h1_ : b 30 = false) => (show Kd.R (Kd.int .u8) 5 w10 w.heap.size (fun _ => True) v13 t21 from by first | exact (Kd.R_elder' (Gv.kr (Q_HO6 h0_ h1_)) (Kd.R_base ho11) hb) | exact Kd.R_mono (Kd.R_elder' (Gv.kr (Q_HO6 h0_ h1_)) (Kd.R_base ho11) hb) (fun _ h_ => by first | trivial | exact h_ | exact h_.1))
   clear BK0 HB; have HO3 := n0_; have BK0 := n1_; have HB := n2_; clear n0_ n1_ n2_ hb ho11; refine hK.out _ _ ⟨v7, v10, v11, v8, v12, v13, v14, v9, m32_, (by rw [ha.out]; exact putSel_upk 11 hb_ rfl rfl rfl), Gv.bk, Gv.bw, z_HO4, z_HO1, z_HO2, fun _ _ => (by (with_reducible repeat (first | apply Kd.R_alloc | apply Kd.R_drewN | apply Kd.R_drew)); first | exact HO3.out | exact Kd.R_mono HO3.out (fun _ hk => by first | exact hk.2 | trivial | exact ⟨hk.1.2, hk.2⟩ | exact ⟨trivial, hk.2⟩ | exact hk.1.2 | exact hk | exact ⟨trivial, hk⟩ | exact hk.1 | (simp only [true_and, and_true] at hk ⊢; first | exact hk | exact hk.2 | exact hk.1 | exact ⟨hk.2, hk.1⟩ | omega | (constructor <;> first | exact hk.1 | exact hk.2 | exact hk.1.1 | exact hk.1.2 | exact hk.2.1 | exact hk.2.2)))), z_HO5, z_HO6, fun h0_ => absurd ((hoff 30 (by kernel_rfl)).symm.trans h0_) (by decide), fun h0_ => absurd ((hoff 31 (by kernel_rfl)).symm.trans h0_) (by decide), fun h0_ => absurd ((hoff 32 (by kernel_rfl)).symm.trans h0_) (by decide)⟩
  refine steps_cons ?_ ?_
  ·rintro b a w' ⟨v7, v10, v11, v8, v12, v13, v14, v9, m32_, ha, Q_BK0, Q_HB, Q_HO4, Q_HO1, Q_HO2, Q_HO3, Q_HO5, Q_HO6, Q_HO15, Q_HO16, Q_X32_⟩ hb_ hon hoff; refine ⟨_, rfl, fun K hK => ?_⟩; have e32 : a.tmps[32]? = some (.pointer (some ⟨gb0, 12, none⟩)) := by rw [ha]; exact (putSel_off rfl).trans rfl
   replace ha := Gv.a0 ha; have BK0 := Gv.a0 Q_BK0; have HB := Gv.a0 Q_HB; have hc0_ : w'.cell? ⟨gb0, 0, none⟩ = some (.int .i64 a1_0) := (blk_cell BK0.out 0).trans rfl; have hc1_ : w'.cell? ⟨gb0, 1, none⟩ = some (.int .i64 a1_1) := (blk_cell BK0.out 1).trans rfl; have hc2_ : w'.cell? ⟨gb0, 2, none⟩ = some (.int .i64 a1_2) := (blk_cell BK0.out 2).trans rfl; have hc3_ : w'.cell? ⟨gb0, 3, none⟩ = some (.int .i64 a1_3) := (blk_cell BK0.out 3).trans rfl; have hc4_ : w'.cell? ⟨gb0, 4, none⟩ = some (.int .i64 a1_4) := (blk_cell BK0.out 4).trans rfl; have hc5_ : w'.cell? ⟨gb0, 5, none⟩ = some (.int .i64 a1_5) := (blk_cell BK0.out 5).trans rfl; have hc6_ : w'.cell? ⟨gb0, 6, none⟩ = some (.int .i64 a1_6) := (blk_cell BK0.out 6).trans rfl; have hc7_ : w'.cell? ⟨gb0, 7, none⟩ = some (.int .i64 a1_7) := (blk_cell BK0.out 7).trans rfl; have hc8_ : w'.cell? ⟨gb0, 8, none⟩ = some (.int .i64 a1_8) := (blk_cell BK0.out 8).trans rfl; have hc9_ : w'.cell? ⟨gb0, 9, none⟩ = some (.int .i64 a1_9) := (blk_cell BK0.out 9).trans rfl; have hc10_ : w'.cell? ⟨gb0, 10, none⟩ = some (.int .i64 a1_10) := (blk_cell BK0.out 10).trans rfl; have hc11_ : w'.cell? ⟨gb0, 11, none⟩ = some (.int .i64 a1_11) := (blk_cell BK0.out 11).trans rfl; have hc12_ : w'.cell? ⟨gb0, 12, none⟩ = some (.int .i64 a1_12) := (blk_cell BK0.out 12).trans rfl; have hc13_ : w'.cell? ⟨gb0, 13, none⟩ = some (.int .i64 a1_13) := (blk_cell BK0.out 13).trans rfl; refine value_ (w1 := w') (v := .int .i64 a1_12) (by rfl) rfl ?_ ?_
   ·go_simp
    (try simp only [i64_w])
    try rfl
   refine hK.out _ _ ⟨v7, v10, v11, v8, v12, v13, v14, v9, m32_, (by rw [ha.out]; exact putSel_upk 12 hb_ rfl rfl rfl), Q_BK0, Q_HB, Q_HO4, Q_HO1, Q_HO2, Q_HO3, fun h0_ _ => absurd ((hoff 25 (by kernel_rfl)).symm.trans h0_) (by decide), fun h0_ _ => absurd ((hoff 29 (by kernel_rfl)).symm.trans h0_) (by decide), fun h0_ => absurd ((hoff 30 (by kernel_rfl)).symm.trans h0_) (by decide), fun h0_ => absurd ((hoff 31 (by kernel_rfl)).symm.trans h0_) (by decide), fun h0_ => absurd ((hoff 32 (by kernel_rfl)).symm.trans h0_) (by decide)⟩
  refine steps_cons ?_ ?_
  ·rintro b a w' ⟨v7, v10, v11, v8, v12, v13, v14, v9, m32_, ha, Q_BK0, Q_HB, Q_HO4, Q_HO1, Q_HO2, Q_HO3, Q_HO5, Q_HO6, Q_HO15, Q_HO16, Q_X32_⟩ hb_ hon hoff; refine ⟨_, rfl, fun K hK => ?_⟩; have e33 : a.tmps[33]? = some (.int .i64 a1_12) := by rw [ha]; exact putSel_on (e := (24, 33, .int .i64 a1_12)) 12 rfl rfl (hon 24 (by kernel_rfl)) rfl
   replace ha := Gv.a0 ha; have BK0 := Gv.a0 Q_BK0; have HB := Gv.a0 Q_HB; have HO1 := Gv.a0 (Q_HO1 (hon 12 (by kernel_rfl)) (hoff 30 (by kernel_rfl))); have HO2 := Gv.a0 (Q_HO2 (hon 16 (by kernel_rfl)) (hoff 30 (by kernel_rfl))); refine goes_ Try.func75 (by kernel_rfl) rfl #[.int .i64 a1_12] (by rfl) rfl rfl (by first | (simp only [List.map_toArray, List.map_cons, List.map_nil, Act.eval, Array.getD_eq_getD_getElem?, Option.getD_some, e33]; done) | (simp only [List.map_toArray, List.map_cons, List.map_nil, Act.eval, Array.getD_eq_getD_getElem?, Option.getD_some, e33]; rfl)) ?_
   with_reducible refine (impl_Put16.calls k a1_12 t20 _ A5.out).mono ?_
   rintro e w13 ⟨v12, rfl, ho0, hb⟩; refine ⟨_, rfl, ?_⟩; have n0_ := Gv.a0 (Kd.R_elder' (Gv.kr HO1.out) (Kd.R_base ho0) hb); have n1_ := Gv.a0 (Kd.R_elder' (Gv.kr HO2.out) (Kd.R_base ho0) hb); have n2_ := Gv.a0 (Kd.R_lower (Kd.R_new' (Kd.R_new' ho0 (Kd.R_lt (Gv.kr HO1.out))) (Kd.R_lt (Gv.kr HO2.out))) (below_size Gv.bw)); have n3_ := Gv.b1 BK0 hb; have n4_ := Gv.a0 (below_step Gv.bw hb); have z_HO4 := fun (h0_ : b 8 = true) (h1_ : b 30 = false) => (show Kd.R (Kd.int .u8) 5 w13 w.heap.size (fun _ => True) v7 y17 from by first | exact (Kd.R_elder' (Gv.kr (Q_HO4 h0_ h1_)) (Kd.R_base ho0) hb) | exact Kd.R_mono (Kd.R_elder' (Gv.kr (Q_HO4 h0_ h1_)) (Kd.R_base ho0) hb) (fun _ h_ => by first | trivial | exact h_ | exact h_.1))
   have z_HO3 := fun (h0_ : b 21 = true) (h1_ : b 30 = false) => (show Kd.R (Kd.int .u8) 5 w13 w.heap.size (fun _ => True) v8 y18 from by first | exact (Kd.R_elder' (Gv.kr (Q_HO3 h0_ h1_)) (Kd.R_base ho0) hb) | exact Kd.R_mono (Kd.R_elder' (Gv.kr (Q_HO3 h0_ h1_)) (Kd.R_base ho0) hb) (fun _ h_ => by first | trivial | exact h_ | exact h_.1))
   clear HO1 HO2 BK0 HB; have HO1 := n0_; have HO2 := n1_; have HO5 := n2_; have BK0 := n3_; have HB := n4_; clear n0_ n1_ n2_ n3_ n4_
   (try clear hb)
   (try clear hb2)
   (try clear hk)
   (try clear hi)
   (try clear ho0); refine hK.out _ _ ⟨v7, v10, v11, v8, v12, v13, v14, v9, m32_, (by rw [ha.out]; exact putSel_upk 13 hb_ rfl rfl rfl), Gv.bk, Gv.bw, z_HO4, fun _ _ => (by (with_reducible repeat (first | apply Kd.R_alloc | apply Kd.R_drewN | apply Kd.R_drew)); first | exact HO1.out | exact Kd.R_mono HO1.out (fun _ hk => by first | exact hk.2 | trivial | exact ⟨hk.1.2, hk.2⟩ | exact ⟨trivial, hk.2⟩ | exact hk.1.2 | exact hk | exact ⟨trivial, hk⟩ | exact hk.1 | (simp only [true_and, and_true] at hk ⊢; first | exact hk | exact hk.2 | exact hk.1 | exact ⟨hk.2, hk.1⟩ | omega | (constructor <;> first | exact hk.1 | exact hk.2 | exact hk.1.1 | exact hk.1.2 | exact hk.2.1 | exact hk.2.2)))), fun _ _ => (by (with_reducible repeat (first | apply Kd.R_alloc | apply Kd.R_drewN | apply Kd.R_drew)); first | exact HO2.out | exact Kd.R_mono HO2.out (fun _ hk => by first | exact hk.2 | trivial | exact ⟨hk.1.2, hk.2⟩ | exact ⟨trivial, hk.2⟩ | exact hk.1.2 | exact hk | exact ⟨trivial, hk⟩ | exact hk.1 | (simp only [true_and, and_true] at hk ⊢; first | exact hk | exact hk.2 | exact hk.1 | exact ⟨hk.2, hk.1⟩ | omega | (constructor <;> first | exact hk.1 | exact hk.2 | exact hk.1.1 | exact hk.1.2 | exact hk.2.1 | exact hk.2.2)))), z_HO3, fun _ _ => (by (with_reducible repeat (first | apply Kd.R_alloc | apply Kd.R_drewN | apply Kd.R_drew)); exact Kd.R_mono HO5.out (fun _ hk => by first | exact hk.2 | trivial | exact ⟨hk.1.2, hk.2⟩ | exact ⟨trivial, hk.2⟩ | exact hk.1.2 | exact hk | exact ⟨trivial, hk⟩ | exact hk.1 | (simp only [true_and, and_true] at hk ⊢; first | exact hk | exact hk.2 | exact hk.1 | exact ⟨hk.2, hk.1⟩ | omega | (constructor <;> first | exact hk.1 | exact hk.2 | exact hk.1.1 | exact hk.1.2 | exact hk.2.1 | exact hk.2.2)))), fun h0_ _ => absurd ((hoff 29 (by kernel_rfl)).symm.trans h0_) (by decide), fun h0_ => absurd ((hoff 30 (by kernel_rfl)).symm.trans h0_) (by decide), fun h0_ => absurd ((hoff 31 (by kernel_rfl)).symm.trans h0_) (by decide), fun h0_ => absurd ((hoff 32 (by kernel_rfl)).symm.trans h0_) (by decide)⟩
  refine steps_cons ?_ ?_
  ·rintro b a w' ⟨v7, v10, v11, v8, v12, v13, v14, v9, m32_, ha, Q_BK0, Q_HB, Q_HO4, Q_HO1, Q_HO2, Q_HO3, Q_HO5, Q_HO6, Q_HO15, Q_HO16, Q_X32_⟩ hb_ hon hoff; refine ⟨_, rfl, fun K hK => ?_⟩; have e36 : a.tmps[36]? = some (.pointer (some ⟨gb0, 13, none⟩)) := by rw [ha]; exact (putSel_off rfl).trans rfl
   replace ha := Gv.a0 ha; have BK0 := Gv.a0 Q_BK0; have HB := Gv.a0 Q_HB; have hc0_ : w'.cell? ⟨gb0, 0, none⟩ = some (.int .i64 a1_0) := (blk_cell BK0.out 0).trans rfl; have hc1_ : w'.cell? ⟨gb0, 1, none⟩ = some (.int .i64 a1_1) := (blk_cell BK0.out 1).trans rfl; have hc2_ : w'.cell? ⟨gb0, 2, none⟩ = some (.int .i64 a1_2) := (blk_cell BK0.out 2).trans rfl; have hc3_ : w'.cell? ⟨gb0, 3, none⟩ = some (.int .i64 a1_3) := (blk_cell BK0.out 3).trans rfl; have hc4_ : w'.cell? ⟨gb0, 4, none⟩ = some (.int .i64 a1_4) := (blk_cell BK0.out 4).trans rfl; have hc5_ : w'.cell? ⟨gb0, 5, none⟩ = some (.int .i64 a1_5) := (blk_cell BK0.out 5).trans rfl; have hc6_ : w'.cell? ⟨gb0, 6, none⟩ = some (.int .i64 a1_6) := (blk_cell BK0.out 6).trans rfl; have hc7_ : w'.cell? ⟨gb0, 7, none⟩ = some (.int .i64 a1_7) := (blk_cell BK0.out 7).trans rfl; have hc8_ : w'.cell? ⟨gb0, 8, none⟩ = some (.int .i64 a1_8) := (blk_cell BK0.out 8).trans rfl; have hc9_ : w'.cell? ⟨gb0, 9, none⟩ = some (.int .i64 a1_9) := (blk_cell BK0.out 9).trans rfl; have hc10_ : w'.cell? ⟨gb0, 10, none⟩ = some (.int .i64 a1_10) := (blk_cell BK0.out 10).trans rfl; have hc11_ : w'.cell? ⟨gb0, 11, none⟩ = some (.int .i64 a1_11) := (blk_cell BK0.out 11).trans rfl; have hc12_ : w'.cell? ⟨gb0, 12, none⟩ = some (.int .i64 a1_12) := (blk_cell BK0.out 12).trans rfl; have hc13_ : w'.cell? ⟨gb0, 13, none⟩ = some (.int .i64 a1_13) := (blk_cell BK0.out 13).trans rfl; refine value_ (w1 := w') (v := .int .i64 a1_13) (by rfl) rfl ?_ ?_
   ·go_simp
    (try simp only [i64_w])
    try rfl
   refine hK.out _ _ ⟨v7, v10, v11, v8, v12, v13, v14, v9, m32_, (by rw [ha.out]; exact putSel_upk 14 hb_ rfl rfl rfl), Q_BK0, Q_HB, Q_HO4, Q_HO1, Q_HO2, Q_HO3, Q_HO5, fun h0_ _ => absurd ((hoff 29 (by kernel_rfl)).symm.trans h0_) (by decide), fun h0_ => absurd ((hoff 30 (by kernel_rfl)).symm.trans h0_) (by decide), fun h0_ => absurd ((hoff 31 (by kernel_rfl)).symm.trans h0_) (by decide), fun h0_ => absurd ((hoff 32 (by kernel_rfl)).symm.trans h0_) (by decide)⟩
  refine steps_cons ?_ ?_
  ·rintro b a w' ⟨v7, v10, v11, v8, v12, v13, v14, v9, m32_, ha, Q_BK0, Q_HB, Q_HO4, Q_HO1, Q_HO2, Q_HO3, Q_HO5, Q_HO6, Q_HO15, Q_HO16, Q_X32_⟩ hb_ hon hoff; refine ⟨_, rfl, fun K hK => ?_⟩; have e37 : a.tmps[37]? = some (.int .i64 a1_13) := by rw [ha]; exact putSel_on (e := (28, 37, .int .i64 a1_13)) 14 rfl rfl (hon 28 (by kernel_rfl)) rfl
   replace ha := Gv.a0 ha; have BK0 := Gv.a0 Q_BK0; have HB := Gv.a0 Q_HB; have HO1 := Gv.a0 (Q_HO1 (hon 12 (by kernel_rfl)) (hoff 30 (by kernel_rfl))); have HO2 := Gv.a0 (Q_HO2 (hon 16 (by kernel_rfl)) (hoff 30 (by kernel_rfl))); have HO5 := Gv.a0 (Q_HO5 (hon 25 (by kernel_rfl)) (hoff 30 (by kernel_rfl))); refine goes_ Try.func75 (by kernel_rfl) rfl #[.int .i64 a1_13] (by rfl) rfl rfl (by first | (simp only [List.map_toArray, List.map_cons, List.map_nil, Act.eval, Array.getD_eq_getD_getElem?, Option.getD_some, e37]; done) | (simp only [List.map_toArray, List.map_cons, List.map_nil, Act.eval, Array.getD_eq_getD_getElem?, Option.getD_some, e37]; rfl)) ?_
   with_reducible refine (impl_Put16.calls k a1_13 t21 _ A6.out).mono ?_
   rintro e w14 ⟨v13, rfl, ho0, hb⟩; refine ⟨_, rfl, ?_⟩; have n0_ := Gv.a0 (Kd.R_elder' (Gv.kr HO1.out) (Kd.R_base ho0) hb); have n1_ := Gv.a0 (Kd.R_elder' (Gv.kr HO2.out) (Kd.R_base ho0) hb); have n2_ := Gv.a0 (Kd.R_elder' (Gv.kr HO5.out) (Kd.R_base ho0) hb); have n3_ := Gv.a0 (Kd.R_lower (Kd.R_new' (Kd.R_new' (Kd.R_new' ho0 (Kd.R_lt (Gv.kr HO1.out))) (Kd.R_lt (Gv.kr HO2.out))) (Kd.R_lt (Gv.kr HO5.out))) (below_size Gv.bw)); have n4_ := Gv.b1 BK0 hb; have n5_ := Gv.a0 (below_step Gv.bw hb); have z_HO4 := fun (h0_ : b 8 = true) (h1_ : b 30 = false) => (show Kd.R (Kd.int .u8) 5 w14 w.heap.size (fun _ => True) v7 y17 from by first | exact (Kd.R_elder' (Gv.kr (Q_HO4 h0_ h1_)) (Kd.R_base ho0) hb) | exact Kd.R_mono (Kd.R_elder' (Gv.kr (Q_HO4 h0_ h1_)) (Kd.R_base ho0) hb) (fun _ h_ => by first | trivial | exact h_ | exact h_.1))
   have z_HO3 := fun (h0_ : b 21 = true) (h1_ : b 30 = false) => (show Kd.R (Kd.int .u8) 5 w14 w.heap.size (fun _ => True) v8 y18 from by first | exact (Kd.R_elder' (Gv.kr (Q_HO3 h0_ h1_)) (Kd.R_base ho0) hb) | exact Kd.R_mono (Kd.R_elder' (Gv.kr (Q_HO3 h0_ h1_)) (Kd.R_base ho0) hb) (fun _ h_ => by first | trivial | exact h_ | exact h_.1))
   clear HO1 HO2 HO5 BK0 HB; have HO1 := n0_; have HO2 := n1_; have HO5 := n2_; have HO6 := n3_; have BK0 := n4_; have HB := n5_; clear n0_ n1_ n2_ n3_ n4_ n5_
   (try clear hb)
   (try clear hb2)
   (try clear hk)
   (try clear hi)
   (try clear ho0); refine hK.out _ _ ⟨v7, v10, v11, v8, v12, v13, v14, v9, m32_, (by rw [ha.out]; exact putSel_upk 15 hb_ rfl rfl rfl), Gv.bk, Gv.bw, z_HO4, fun _ _ => (by (with_reducible repeat (first | apply Kd.R_alloc | apply Kd.R_drewN | apply Kd.R_drew)); exact Kd.R_mono HO1.out (fun _ hk => by first | exact hk.2 | trivial | exact ⟨hk.1.2, hk.2⟩ | exact ⟨trivial, hk.2⟩ | exact hk.1.2 | exact hk | exact ⟨trivial, hk⟩ | exact hk.1 | (simp only [true_and, and_true] at hk ⊢; first | exact hk | exact hk.2 | exact hk.1 | exact ⟨hk.2, hk.1⟩ | omega | (constructor <;> first | exact hk.1 | exact hk.2 | exact hk.1.1 | exact hk.1.2 | exact hk.2.1 | exact hk.2.2)))), fun _ _ => (by (with_reducible repeat (first | apply Kd.R_alloc | apply Kd.R_drewN | apply Kd.R_drew)); exact Kd.R_mono HO2.out (fun _ hk => by first | exact hk.2 | trivial | exact ⟨hk.1.2, hk.2⟩ | exact ⟨trivial, hk.2⟩ | exact hk.1.2 | exact hk | exact ⟨trivial, hk⟩ | exact hk.1 | (simp only [true_and, and_true] at hk ⊢; first | exact hk | exact hk.2 | exact hk.1 | exact ⟨hk.2, hk.1⟩ | omega | (constructor <;> first | exact hk.1 | exact hk.2 | exact hk.1.1 | exact hk.1.2 | exact hk.2.1 | exact hk.2.2)))), z_HO3, fun _ _ => (by (with_reducible repeat (first | apply Kd.R_alloc | apply Kd.R_drewN | apply Kd.R_drew)); exact Kd.R_mono HO5.out (fun _ hk => by first | exact hk.2 | trivial | exact ⟨hk.1.2, hk.2⟩ | exact ⟨trivial, hk.2⟩ | exact hk.1.2 | exact hk | exact ⟨trivial, hk⟩ | exact hk.1 | (simp only [true_and, and_true] at hk ⊢; first | exact hk | exact hk.2 | exact hk.1 | exact ⟨hk.2, hk.1⟩ | omega | (constructor <;> first | exact hk.1 | exact hk.2 | exact hk.1.1 | exact hk.1.2 | exact hk.2.1 | exact hk.2.2)))), fun _ _ => (by (with_reducible repeat (first | apply Kd.R_alloc | apply Kd.R_drewN | apply Kd.R_drew)); exact Kd.R_mono HO6.out (fun _ hk => by first | exact hk.2 | trivial | exact ⟨hk.1.2, hk.2⟩ | exact ⟨trivial, hk.2⟩ | exact hk.1.2 | exact hk | exact ⟨trivial, hk⟩ | exact hk.1 | (simp only [true_and, and_true] at hk ⊢; first | exact hk | exact hk.2 | exact hk.1 | exact ⟨hk.2, hk.1⟩ | omega | (constructor <;> first | exact hk.1 | exact hk.2 | exact hk.1.1 | exact hk.1.2 | exact hk.2.1 | exact hk.2.2)))), fun h0_ => absurd ((hoff 30 (by kernel_rfl)).symm.trans h0_) (by decide), fun h0_ => absurd ((hoff 31 (by kernel_rfl)).symm.trans h0_) (by decide), fun h0_ => absurd ((hoff 32 (by kernel_rfl)).symm.trans h0_) (by decide)⟩
  refine steps_cons ?_ ?_
  ·rintro b a w' ⟨v7, v10, v11, v8, v12, v13, v14, v9, m32_, ha, Q_BK0, Q_HB, Q_HO4, Q_HO1, Q_HO2, Q_HO3, Q_HO5, Q_HO6, Q_HO15, Q_HO16, Q_X32_⟩ hb_ hon hoff; refine ⟨_, rfl, fun K hK => ?_⟩; have e17 : a.tmps[17]? = some (v7) := by rw [ha]; exact putSel_on (e := (8, 17, v7)) 4 rfl rfl (hon 8 (by kernel_rfl)) rfl
   have e21 : a.tmps[21]? = some (v10) := by rw [ha]; exact putSel_on (e := (12, 21, v10)) 6 rfl rfl (hon 12 (by kernel_rfl)) rfl
   have e25 : a.tmps[25]? = some (v11) := by rw [ha]; exact putSel_on (e := (16, 25, v11)) 8 rfl rfl (hon 16 (by kernel_rfl)) rfl
   have e30 : a.tmps[30]? = some (v8) := by rw [ha]; exact putSel_on (e := (21, 30, v8)) 11 rfl rfl (hon 21 (by kernel_rfl)) rfl
   have e34 : a.tmps[34]? = some (v12) := by rw [ha]; exact putSel_on (e := (25, 34, v12)) 13 rfl rfl (hon 25 (by kernel_rfl)) rfl
   have e38 : a.tmps[38]? = some (v13) := by rw [ha]; exact putSel_on (e := (29, 38, v13)) 15 rfl rfl (hon 29 (by kernel_rfl)) rfl
   replace ha := Gv.a0 ha; have BK0 := Gv.a0 Q_BK0; have HB := Gv.a0 Q_HB; have HO4 := Gv.a0 (Q_HO4 (hon 8 (by kernel_rfl)) hb_); have HO1 := Gv.a0 (Q_HO1 (hon 12 (by kernel_rfl)) hb_); have HO2 := Gv.a0 (Q_HO2 (hon 16 (by kernel_rfl)) hb_); have HO3 := Gv.a0 (Q_HO3 (hon 21 (by kernel_rfl)) hb_); have HO5 := Gv.a0 (Q_HO5 (hon 25 (by kernel_rfl)) hb_); have HO6 := Gv.a0 (Q_HO6 (hon 29 (by kernel_rfl)) hb_); obtain ⟨Ao19, co19, eo19⟩ := Kd.R_slice HO4.out
   (first | subst eo19 | (injection eo19 with f1_ f2_ f3_; have f4_ := f1_.symm; have f5_ := f3_.symm; clear f1_ f2_ f3_; subst f4_; subst f5_)); obtain ⟨Ao20, co20, eo20⟩ := Kd.R_slice HO1.out
   (first | subst eo20 | (injection eo20 with f1_ f2_ f3_; have f4_ := f1_.symm; have f5_ := f3_.symm; clear f1_ f2_ f3_; subst f4_; subst f5_)); obtain ⟨Ao21, co21, eo21⟩ := Kd.R_slice HO2.out
   (first | subst eo21 | (injection eo21 with f1_ f2_ f3_; have f4_ := f1_.symm; have f5_ := f3_.symm; clear f1_ f2_ f3_; subst f4_; subst f5_)); obtain ⟨Ao22, co22, eo22⟩ := Kd.R_slice HO3.out
   (first | subst eo22 | (injection eo22 with f1_ f2_ f3_; have f4_ := f1_.symm; have f5_ := f3_.symm; clear f1_ f2_ f3_; subst f4_; subst f5_)); obtain ⟨Ao23, co23, eo23⟩ := Kd.R_slice HO5.out
   (first | subst eo23 | (injection eo23 with f1_ f2_ f3_; have f4_ := f1_.symm; have f5_ := f3_.symm; clear f1_ f2_ f3_; subst f4_; subst f5_)); obtain ⟨Ao24, co24, eo24⟩ := Kd.R_slice HO6.out
   (first | subst eo24 | (injection eo24 with f1_ f2_ f3_; have f4_ := f1_.symm; have f5_ := f3_.symm; clear f1_ f2_ f3_; subst f4_; subst f5_)); refine Kd.N_lit_step (Kd.slice 5 (Kd.int .u8)) _ 68 ?hg (N' := 39) ?hd (xs := ([y17, t23, t24, y18, t20, t21] : List (List Int))) (inner := [.slice Ao19 y17.length co19, .slice Ao20 t23.length co20, .slice Ao21 t24.length co21, .slice Ao22 y18.length co22, .slice Ao23 t20.length co23, .slice Ao24 t21.length co24]) (ok := (fun k_ => k_ ≠ gb0)) (okp := (fun k_ => k_ ≠ gb0)) ?hr ?hp (fun _ hk => hk) ((show ∀ k_, w'.heap.size ≤ k_ → (fun k_ => k_ ≠ gb0) k_ from fun k_ hk => Kd.freshB (g := gb0) (o := .cells #[.int .i64 a1_0, .int .i64 a1_1, .int .i64 a1_2, .int .i64 a1_3, .int .i64 a1_4, .int .i64 a1_5, .int .i64 a1_6, .int .i64 a1_7, .int .i64 a1_8, .int .i64 a1_9, .int .i64 a1_10, .int .i64 a1_11, .int .i64 a1_12, .int .i64 a1_13] 33 (0, 0)) Gv.bk k_ hk) _ (Nat.le_refl _)) (Below.refl _ _) (Nat.le_refl _) (by simp) ?_; (case hd => rfl); (case hg => rfl); (case hr => first | (go_simp; done) | (go_simp; rfl)); (case hp => exact (Reps.one (show Kd.FK (Kd.slice 5 (Kd.int .u8)) _ _ y17 [.slice Ao19 y17.length co19] from (Kd.FK_slice_mk (Kd.R_reads' (Kd.R_mono (ok' := (fun k_ => k_ ≠ gb0)) (Kd.R_types (HO4.out) BK0.out (by decide)) (fun k_ hk => hk.2))).2.1 (Kd.R_F (Kd.R_mono (ok' := (fun k_ => k_ ≠ gb0)) (Kd.R_types (HO4.out) BK0.out (by decide)) (fun k_ hk => hk.2))))) (Reps.one (show Kd.FK (Kd.slice 5 (Kd.int .u8)) _ _ t23 [.slice Ao20 t23.length co20] from (Kd.FK_slice_mk (Kd.R_reads' (Kd.R_mono (ok' := (fun k_ => k_ ≠ gb0)) (Kd.R_types (HO1.out) BK0.out (by decide)) (fun k_ hk => hk.2))).2.1 (Kd.R_F (Kd.R_mono (ok' := (fun k_ => k_ ≠ gb0)) (Kd.R_types (HO1.out) BK0.out (by decide)) (fun k_ hk => hk.2))))) (Reps.one (show Kd.FK (Kd.slice 5 (Kd.int .u8)) _ _ t24 [.slice Ao21 t24.length co21] from (Kd.FK_slice_mk (Kd.R_reads' (Kd.R_mono (ok' := (fun k_ => k_ ≠ gb0)) (Kd.R_types (HO2.out) BK0.out (by decide)) (fun k_ hk => hk.2))).2.1 (Kd.R_F (Kd.R_mono (ok' := (fun k_ => k_ ≠ gb0)) (Kd.R_types (HO2.out) BK0.out (by decide)) (fun k_ hk => hk.2))))) (Reps.one (show Kd.FK (Kd.slice 5 (Kd.int .u8)) _ _ y18 [.slice Ao22 y18.length co22] from (Kd.FK_slice_mk (Kd.R_reads' (Kd.R_mono (ok' := (fun k_ => k_ ≠ gb0)) (Kd.R_types (HO3.out) BK0.out (by decide)) (fun k_ hk => hk.2))).2.1 (Kd.R_F (Kd.R_mono (ok' := (fun k_ => k_ ≠ gb0)) (Kd.R_types (HO3.out) BK0.out (by decide)) (fun k_ hk => hk.2))))) (Reps.one (show Kd.FK (Kd.slice 5 (Kd.int .u8)) _ _ t20 [.slice Ao23 t20.length co23] from (Kd.FK_slice_mk (Kd.R_reads' (Kd.R_mono (ok' := (fun k_ => k_ ≠ gb0)) (Kd.R_types (HO5.out) BK0.out (by decide)) (fun k_ hk => hk.2))).2.1 (Kd.R_F (Kd.R_mono (ok' := (fun k_ => k_ ≠ gb0)) (Kd.R_types (HO5.out) BK0.out (by decide)) (fun k_ hk => hk.2))))) (Reps.one (show Kd.FK (Kd.slice 5 (Kd.int .u8)) _ _ t21 [.slice Ao24 t21.length co24] from (Kd.FK_slice_mk (Kd.R_reads' (Kd.R_mono (ok' := (fun k_ => k_ ≠ gb0)) (Kd.R_types (HO6.out) BK0.out (by decide)) (fun k_ hk => hk.2))).2.1 (Kd.R_F (Kd.R_mono (ok' := (fun k_ => k_ ≠ gb0)) (Kd.R_types (HO6.out) BK0.out (by decide)) (fun k_ hk => hk.2))))) (Reps.none _ _))))))))
   intro v14 w25 ho26 hb hg_ hnew_; clear hg_ hnew_
   (first | rw [← Ny22.out] at ho26 | (simp only [Int.reduceToNat] at ho26; rw [← Ny22.out] at ho26)); have HO15 := Gv.a0 (Kd.N_lower ho26 (below_size Gv.bw)); replace BK0 := Gv.b1 BK0 hb; replace HB := Gv.hb hb; clear HO4 HO1 HO2 HO3 HO5 HO6 hb ho26; refine hK.out _ _ ⟨.slice Ao19 y17.length co19, .slice Ao20 t23.length co20, .slice Ao21 t24.length co21, .slice Ao22 y18.length co22, .slice Ao23 t20.length co23, .slice Ao24 t21.length co24, v14, v9, m32_, (by rw [ha.out]; exact putSel_upk 16 hb_ rfl rfl rfl), Gv.bk, Gv.bw, fun _ h1_ => absurd ((up_self b 30).symm.trans h1_) (by decide), fun _ h1_ => absurd ((up_self b 30).symm.trans h1_) (by decide), fun _ h1_ => absurd ((up_self b 30).symm.trans h1_) (by decide), fun _ h1_ => absurd ((up_self b 30).symm.trans h1_) (by decide), fun _ h1_ => absurd ((up_self b 30).symm.trans h1_) (by decide), fun _ h1_ => absurd ((up_self b 30).symm.trans h1_) (by decide), fun _ => (by (with_reducible repeat (first | apply Kd.N_alloc | apply Kd.N_drewN | apply Kd.N_drew)); first | exact HO15.out | exact Kd.R_mono HO15.out (fun _ hk => by first | exact hk.2 | trivial | exact ⟨hk.1.2, hk.2⟩ | exact ⟨trivial, hk.2⟩ | exact hk.1.2 | exact hk | exact ⟨trivial, hk⟩ | exact hk.1 | (simp only [true_and, and_true] at hk ⊢; first | exact hk | exact hk.2 | exact hk.1 | exact ⟨hk.2, hk.1⟩ | omega | (constructor <;> first | exact hk.1 | exact hk.2 | exact hk.1.1 | exact hk.1.2 | exact hk.2.1 | exact hk.2.2)))), fun h0_ => absurd ((hoff 31 (by kernel_rfl)).symm.trans h0_) (by decide), fun h0_ => absurd ((hoff 32 (by kernel_rfl)).symm.trans h0_) (by decide)⟩
  refine steps_cons ?_ ?_
  ·rintro b a w' ⟨v7, v10, v11, v8, v12, v13, v14, v9, m32_, ha, Q_BK0, Q_HB, Q_HO4, Q_HO1, Q_HO2, Q_HO3, Q_HO5, Q_HO6, Q_HO15, Q_HO16, Q_X32_⟩ hb_ hon hoff; refine ⟨_, rfl, fun K hK => ?_⟩; have e39 : a.tmps[39]? = some (v14) := by rw [ha]; exact putSel_on (e := (30, 39, v14)) 16 rfl rfl (hon 30 (by kernel_rfl)) rfl
   replace ha := Gv.a0 ha; have BK0 := Gv.a0 Q_BK0; have HB := Gv.a0 Q_HB; have HO15 := Gv.a0 (Q_HO15 (hon 30 (by kernel_rfl))); obtain ⟨Ao27, co27, eo27⟩ := Kd.N_slice HO15.out
   (first | subst eo27 | (injection eo27 with f1_ f2_ f3_; have f4_ := f1_.symm; have f5_ := f3_.symm; clear f1_ f2_ f3_; subst f4_; subst f5_)); refine goes_ Try.func73 (by kernel_rfl) rfl #[.slice Ao27 y22.length co27] (by rfl) rfl rfl (by first | (simp only [List.map_toArray, List.map_cons, List.map_nil, Act.eval, Array.getD_eq_getD_getElem?, Option.getD_some, e39]; done) | (simp only [List.map_toArray, List.map_cons, List.map_nil, Act.eval, Array.getD_eq_getD_getElem?, Option.getD_some, e39]; rfl)) ?_
   with_reducible refine (slices_Concat_byte_byte.calls k _ _ y22 t19 _ ?side1 ?side2 A7.out).mono ?_
   (case side1 => repeat (first | exact (Kd.N_reads' HO15.out).2.2 | (with_reducible refine Kd.C_alloc ?_ _) | (with_reducible refine Kd.C_drewN ?_ _) | (with_reducible refine Kd.C_drew ?_)))
   (case side2 => exact (Kd.N_reads' HO15.out).2.1)
   rintro e w28 ⟨v9, rfl, ho0, hb⟩; refine ⟨_, rfl, ?_⟩; replace HO15 := Gv.a0 (Kd.N_elder' (by (with_reducible repeat (first | apply Kd.N_alloc | apply Kd.N_drewN | apply Kd.N_drew)); exact HO15.out) (Kd.R_base ho0) hb); have HO16 := Gv.a0 (Kd.R_lower ho0 (below_size Gv.bw)); replace BK0 := Gv.b1 BK0 hb; replace HB := Gv.hb hb
   (try clear hb)
   (try clear hb2)
   (try clear hk)
   (try clear hi)
   (try clear ho0); refine hK.out _ _ ⟨v7, v10, v11, v8, v12, v13, .slice Ao27 y22.length co27, v9, m32_, (by rw [ha.out]; exact putSel_upk 17 hb_ rfl rfl rfl), Gv.bk, Gv.bw, fun _ h1_ => absurd ((hon 30 (by kernel_rfl)).symm.trans h1_) (by decide), fun _ h1_ => absurd ((hon 30 (by kernel_rfl)).symm.trans h1_) (by decide), fun _ h1_ => absurd ((hon 30 (by kernel_rfl)).symm.trans h1_) (by decide), fun _ h1_ => absurd ((hon 30 (by kernel_rfl)).symm.trans h1_) (by decide), fun _ h1_ => absurd ((hon 30 (by kernel_rfl)).symm.trans h1_) (by decide), fun _ h1_ => absurd ((hon 30 (by kernel_rfl)).symm.trans h1_) (by decide), fun _ => (by (with_reducible repeat (first | apply Kd.N_alloc | apply Kd.N_drewN | apply Kd.N_drew)); exact Kd.N_mono HO15.out (fun _ hk => by first | exact hk.2 | trivial | exact ⟨hk.1.2, hk.2⟩ | exact ⟨trivial, hk.2⟩ | exact hk.1.2 | exact hk | exact ⟨trivial, hk⟩ | exact hk.1 | (simp only [true_and, and_true] at hk ⊢; first | exact hk | exact hk.2 | exact hk.1 | exact ⟨hk.2, hk.1⟩ | omega | (constructor <;> first | exact hk.1 | exact hk.2 | exact hk.1.1 | exact hk.1.2 | exact hk.2.1 | exact hk.2.2)))), fun _ => (by (with_reducible repeat (first | apply Kd.R_alloc | apply Kd.R_drewN | apply Kd.R_drew)); first | exact HO16.out | exact Kd.R_mono HO16.out (fun _ hk => by first | exact hk.2 | trivial | exact ⟨hk.1.2, hk.2⟩ | exact ⟨trivial, hk.2⟩ | exact hk.1.2 | exact hk | exact ⟨trivial, hk⟩ | exact hk.1 | (simp only [true_and, and_true] at hk ⊢; first | exact hk | exact hk.2 | exact hk.1 | exact ⟨hk.2, hk.1⟩ | omega | (constructor <;> first | exact hk.1 | exact hk.2 | exact hk.1.1 | exact hk.1.2 | exact hk.2.1 | exact hk.2.2)))), fun h0_ => absurd ((hoff 32 (by kernel_rfl)).symm.trans h0_) (by decide)⟩
  refine steps_cons ?_ ?_
  ·rintro b a w' ⟨v7, v10, v11, v8, v12, v13, v14, v9, m32_, ha, Q_BK0, Q_HB, Q_HO4, Q_HO1, Q_HO2, Q_HO3, Q_HO5, Q_HO6, Q_HO15, Q_HO16, Q_X32_⟩ hb_ hon hoff; refine ⟨_, rfl, fun K hK => ?_⟩; have e40 : a.tmps[40]? = some (v9) := by rw [ha]; exact putSel_on (e := (31, 40, v9)) 17 rfl rfl (hon 31 (by kernel_rfl)) rfl
   replace ha := Gv.a0 ha; have BK0 := Gv.a0 Q_BK0; have HB := Gv.a0 Q_HB; have HO15 := Gv.a0 (Q_HO15 (hon 30 (by kernel_rfl))); have HO16 := Gv.a0 (Q_HO16 (hon 31 (by kernel_rfl))); refine value_ (w1 := w') (v := v9) (by rfl) rfl ?_ ?_
   ·go_simp
    (try simp only [i64_w])
    try rfl
   refine hK.out _ _ ⟨v7, v10, v11, v8, v12, v13, v14, v9, (v9), (by rw [ha.out]; exact putSel_upk 18 hb_ rfl rfl rfl), Q_BK0, Q_HB, fun _ h1_ => absurd ((hon 30 (by kernel_rfl)).symm.trans h1_) (by decide), fun _ h1_ => absurd ((hon 30 (by kernel_rfl)).symm.trans h1_) (by decide), fun _ h1_ => absurd ((hon 30 (by kernel_rfl)).symm.trans h1_) (by decide), fun _ h1_ => absurd ((hon 30 (by kernel_rfl)).symm.trans h1_) (by decide), fun _ h1_ => absurd ((hon 30 (by kernel_rfl)).symm.trans h1_) (by decide), fun _ h1_ => absurd ((hon 30 (by kernel_rfl)).symm.trans h1_) (by decide), Q_HO15, Q_HO16, fun _ => rfl⟩
  exact steps_nil
 rintro b a w28 hall ⟨v7, v10, v11, v8, v12, v13, v14, v9, m32_, ha, Q_BK0, Q_HB, Q_HO4, Q_HO1, Q_HO2, Q_HO3, Q_HO5, Q_HO6, Q_HO15, Q_HO16, Q_X32_⟩; clear BK0 HB; have hb1_ := hall 1 (by kernel_rfl); have hb2_ := hall 2 (by kernel_rfl); have hb6_ := hall 6 (by kernel_rfl); have hb7_ := hall 7 (by kernel_rfl); have hb8_ := hall 8 (by kernel_rfl); have hb11_ := hall 11 (by kernel_rfl); have hb12_ := hall 12 (by kernel_rfl); have hb15_ := hall 15 (by kernel_rfl); have hb16_ := hall 16 (by kernel_rfl); have hb19_ := hall 19 (by kernel_rfl); have hb20_ := hall 20 (by kernel_rfl); have hb21_ := hall 21 (by kernel_rfl); have hb24_ := hall 24 (by kernel_rfl); have hb25_ := hall 25 (by kernel_rfl); have hb28_ := hall 28 (by kernel_rfl); have hb29_ := hall 29 (by kernel_rfl); have hb30_ := hall 30 (by kernel_rfl); have hb31_ := hall 31 (by kernel_rfl); have hb32_ := hall 32 (by kernel_rfl); subst ha; obtain rfl := Q_X32_ hb32_; simp only [putSel, hb1_, hb2_, hb6_, hb7_, hb8_, hb11_, hb12_, hb15_, hb16_, hb19_, hb20_, hb21_, hb24_, hb25_, hb28_, hb29_, hb30_, hb31_, hb32_, if_true, Act.put, List.setIfInBounds_toArray, List.set_cons_zero, List.set_cons_succ]; have BK0 := Gv.a0 Q_BK0; clear Q_BK0; have HB := Gv.a0 Q_HB; clear Q_HB Q_HO4 Q_HO1 Q_HO2 Q_HO3 Q_HO5 Q_HO6; have HO15 := Gv.a0 (Q_HO15 hb30_); clear Q_HO15; have HO16 := Gv.a0 (Q_HO16 hb31_); clear Q_HO16 hall hb1_ hb2_ hb6_ hb7_ hb8_ hb11_ hb12_ hb15_ hb16_ hb19_ hb20_ hb21_ hb24_ hb25_ hb28_ hb29_ hb30_ hb31_ hb32_; obtain ⟨Ao29, co29, eo29⟩ := Kd.R_slice HO16.out; subst eo29
 try go_wp2
 go_loopg [6, 44] k (fun kq v6 v44 w' => ∃ (x6_1 : Int) (x44_1 : Int), v6 = .int .i64 x6_1 ∧ v44 = .int .i64 x44_1 ∧ Aside0 (impl_hashOf.l0 kq x6_1 t19 (t19.length : Int) x44_1 = some r) ∧ Aside0 (kq ≤ k) ∧ Aside0 (Kd.R (Kd.int .u8) 5 w' w.heap.size (fun _ => True) (.slice Ao29 t19.length co29) t19) ∧ Aside0 (w'.heap[gb0]? = some (.cells #[.int .i64 a1_0, .int .i64 a1_1, .int .i64 a1_2, .int .i64 a1_3, .int .i64 a1_4, .int .i64 a1_5, .int .i64 a1_6, .int .i64 a1_7, .int .i64 a1_8, .int .i64 a1_9, .int .i64 a1_10, .int .i64 a1_11, .int .i64 a1_12, .int .i64 a1_13] 33 (0, 0))) ∧ Aside0 (Below w.heap.size w w'))
 case atStart => exact ⟨(a0), (0), Gv.rq, Gv.rq, H', ⟨Nat.le_refl _⟩, ⟨Gv.kr HO16.out⟩, ⟨by (with_reducible repeat (first | refine blk_drewN ?_ _ | refine blk_drew ?_ | refine blk_alloc ?_ _)); exact BK0.out⟩, ⟨Gv.bw⟩⟩
 case round =>
  clear H'
  try clear c1
  try clear c2
  try clear p2
  try clear c3
  try clear c4
  try clear c5
  try clear c6
  try clear c7
  try clear c8
  try clear c9
  try clear c10
  try clear c11
  try clear c12
  try clear c13
  obtain ⟨x6_1, x44_1, rfl, rfl, HA, HK1, HO_42, BK0, HB⟩ := hrel; cases gk with
  | zero => exact absurd HA.out (by simp [impl_hashOf.l0])
  | succ k1 =>
   have H := HA.out; clear HA; simp only [impl_hashOf.l0] at H
   by_cases c30 : x44_1 < (t19.length : Int)
   rotate_left
   ·rw [if_neg c30] at H; have c30b0 := decide_eq_false c30; clear c30; obtain rfl := Option.some.inj H
    go_wp2
    go_ret
    exact ⟨Gv.rt, Gv.bw⟩

   rw [if_pos c30] at H; have c30b0 := decide_eq_true c30; clear c30
   by_cases c31 : 0 ≤ x44_1
   rotate_left
   ·rw [if_neg c31] at H; cases H
   rw [if_pos c31] at H; have c31b0 := decide_eq_true c31; clear c31
   by_cases c32 : x44_1 < (t19.length : Int)
   ·rw [if_pos c32] at H; have c32b0 := decide_eq_true c32; clear c32; have H' := Gv.a0 H; clear H; have p26 : 0 ≤ (x44_1 : Int) := Gv.od; have q26 : x44_1 < (t19.length : Int) := Gv.od; obtain ⟨ad26, e26, u26_0⟩ := Kd.at_int (Kd.R_reads' HO_42.out).2.2 x44_1 p26 q26; cases e26; replace p26 := eq_true p26; replace q26 := eq_true q26
    go_wp2
    go_roundg k1
    case measure => have := HK1.out; omega
    case rel => exact ⟨(Int.tmod (wrap64 ((Go.bits .xor .i64 x6_1 (wrap64 (rd t19 x44_1))) * 16777619)) 4294967296), (wrap64 (x44_1 + 1)), Gv.rq, Gv.rq, H', ⟨by have := HK1.out; omega⟩, ⟨Gv.kr HO_42.out⟩, ⟨by (with_reducible repeat (first | refine blk_drewN ?_ _ | refine blk_drew ?_ | refine blk_alloc ?_ _)); exact BK0.out⟩, ⟨Gv.bw⟩⟩
   ·rw [if_neg c32] at H; cases H
/-! ### impl_Table_probe: function 58 -/
def impl_Table_probe.l0 : Nat → Int → Int → Int → Int → Int → List (S75) → Int → Int → Int → Int → Int → Int → Int → Int → Int → Int → Int → Int → Int → Int → Option (Int)
 | 0, _, _, _, _, _, _, _, _, _, _, _, _, _, _, _, _, _, _, _, _ => none
 | k + 1, x5, x6, x18, x19, x451000, x451001, x452000, x452001, x452002, x452003, x452004, x452005, x452006, x452007, x452008, x452009, x452010, x452011, x452012, x452013 => if x19 < x18 then (if x5 = 0 then (none) else (if 0 ≤ (Int.tmod (wrap64 (x6 + x19)) x5) then (if (Int.tmod (wrap64 (x6 + x19)) x5) < (x451001.length : Int) then (if ((rd_T75 x451001 (Int.tmod (wrap64 (x6 + x19)) x5)).f0 = true) then (if (((rd_T75 x451001 (Int.tmod (wrap64 (x6 + x19)) x5)).f1.f0) == x452000 && (((((rd_T75 x451001 (Int.tmod (wrap64 (x6 + x19)) x5)).f1.f1.f0.f0) == x452001 && (((rd_T75 x451001 (Int.tmod (wrap64 (x6 + x19)) x5)).f1.f1.f0.f1) == x452002 && (((rd_T75 x451001 (Int.tmod (wrap64 (x6 + x19)) x5)).f1.f1.f0.f2) == x452003 && (((rd_T75 x451001 (Int.tmod (wrap64 (x6 + x19)) x5)).f1.f1.f0.f3) == x452004 && (((rd_T75 x451001 (Int.tmod (wrap64 (x6 + x19)) x5)).f1.f1.f0.f4) == x452005))))) && ((((rd_T75 x451001 (Int.tmod (wrap64 (x6 + x19)) x5)).f1.f1.f1.f0) == x452006 && (((rd_T75 x451001 (Int.tmod (wrap64 (x6 + x19)) x5)).f1.f1.f1.f1) == x452007 && (((rd_T75 x451001 (Int.tmod (wrap64 (x6 + x19)) x5)).f1.f1.f1.f2) == x452008 && (((rd_T75 x451001 (Int.tmod (wrap64 (x6 + x19)) x5)).f1.f1.f1.f3) == x452009 && (((rd_T75 x451001 (Int.tmod (wrap64 (x6 + x19)) x5)).f1.f1.f1.f4) == x452010))))) && (((rd_T75 x451001 (Int.tmod (wrap64 (x6 + x19)) x5)).f1.f1.f2) == x452011 && (((rd_T75 x451001 (Int.tmod (wrap64 (x6 + x19)) x5)).f1.f1.f3) == x452012 && (((rd_T75 x451001 (Int.tmod (wrap64 (x6 + x19)) x5)).f1.f1.f4) == x452013))))))) = true then (some (Int.tmod (wrap64 (x6 + x19)) x5)) else (impl_Table_probe.l0 k x5 x6 x18 (wrap64 (x19 + 1)) x451000 x451001 x452000 x452001 x452002 x452003 x452004 x452005 x452006 x452007 x452008 x452009 x452010 x452011 x452012 x452013)) else (some (Int.tmod (wrap64 (x6 + x19)) x5))) else (none)) else (none))) else (some (-1))
def impl_Table_probe.f (k : Nat) (a0_0 : Int) (l0_1 : List (S75)) (a1_0 : Int) (a1_1 : Int) (a1_2 : Int) (a1_3 : Int) (a1_4 : Int) (a1_5 : Int) (a1_6 : Int) (a1_7 : Int) (a1_8 : Int) (a1_9 : Int) (a1_10 : Int) (a1_11 : Int) (a1_12 : Int) (a1_13 : Int) : Option (Int) := (impl_hashOf.f k a0_0 a1_0 a1_1 a1_2 a1_3 a1_4 a1_5 a1_6 a1_7 a1_8 a1_9 a1_10 a1_11 a1_12 a1_13).bind fun t452 => (if (l0_1.length : Int) = 0 then (none) else (impl_Table_probe.l0 k (l0_1.length : Int) (Int.tmod t452 (l0_1.length : Int)) (l0_1.length : Int) 0 a0_0 l0_1 a1_0 a1_1 a1_2 a1_3 a1_4 a1_5 a1_6 a1_7 a1_8 a1_9 a1_10 a1_11 a1_12 a1_13))
set_option maxHeartbeats 8000000 in
set_option maxRecDepth 100000 in
theorem impl_Table_probe.calls (k : Nat) (a0_0 : Int) (A0_1 : Option Addr) (c0_1 : Nat) (l0_1 : List (S75)) (a1_0 : Int) (a1_1 : Int) (a1_2 : Int) (a1_3 : Int) (a1_4 : Int) (a1_5 : Int) (a1_6 : Int) (a1_7 : Int) (a1_8 : Int) (a1_9 : Int) (a1_10 : Int) (a1_11 : Int) (a1_12 : Int) (a1_13 : Int) (r : Int) (w : World) (hr0_1 : Kd.C k75 w A0_1 l0_1.length l0_1) (hc0_1 : l0_1.length ≤ c0_1) (h : impl_Table_probe.f k a0_0 l0_1 a1_0 a1_1 a1_2 a1_3 a1_4 a1_5 a1_6 a1_7 a1_8 a1_9 a1_10 a1_11 a1_12 a1_13 = some r) :
  Calls Try.prog 58 #[.agg #[.int .i64 a0_0, .slice A0_1 l0_1.length c0_1], .agg #[.int .i64 a1_0, .int .i64 a1_1, .int .i64 a1_2, .int .i64 a1_3, .int .i64 a1_4, .int .i64 a1_5, .int .i64 a1_6, .int .i64 a1_7, .int .i64 a1_8, .int .i64 a1_9, .int .i64 a1_10, .int .i64 a1_11, .int .i64 a1_12, .int .i64 a1_13]] w fun e w' => e = .returned (.int .i64 r) ∧ Below w.heap.size w w' := by
 have hu40 := Try.underlying40; have hu33 := Try.underlying33; have HR0_1 := Gv.a0 hr0_1; have HC0_1 := Gv.a0 hc0_1; clear hr0_1 hc0_1; have HB := Gv.a0 (Below.refl w.heap.size w); unfold impl_Table_probe.f at h; have H := h; clear h; replace H := Option.bind_eq_some_iff.mp H; obtain ⟨t4, A30, H⟩ := H
 (try dsimp only at H); have A3 := Gv.a0 A30; clear A30
 by_cases c4 : (l0_1.length : Int) = 0
 ·rw [if_pos c4] at H; cases H
 ·rw [if_neg c4] at H; have c4b0 : ((l0_1.length : Int) == 0) = false := beq_eq_false_iff_ne.mpr c4; have c4b1 : ((l0_1.length : Int) != 0) = true := bne_iff_ne.mpr c4; have c4b2 : ¬ (l0_1 = []) := fun h_ => c4 (by rw [h_]; rfl)
  have H' := Gv.a0 H; clear H
  go_enter Try.func58, Try.ntmps58
  go_wp2_with (first | ((with_reducible refine gate_dst (N := 2) rfl ?_); refine Gv.bev 2 40 #[.int .i64 a0_0, .slice A0_1 l0_1.length c0_1] ?_; intro gb1 hg w5 hbox hb; have BK1 := Gv.a0 (hbox); have GW1 := Gv.a0 ((Gv.ble hg Gv.bw : w.heap.size ≤ gb1)); have GE1 := GW1; replace HB := Gv.hb hb; clear hb hbox hg) | ((with_reducible refine gate_dst (N := 3) rfl ?_); refine Gv.bev 3 33 #[.int .i64 a1_0, .int .i64 a1_1, .int .i64 a1_2, .int .i64 a1_3, .int .i64 a1_4, .int .i64 a1_5, .int .i64 a1_6, .int .i64 a1_7, .int .i64 a1_8, .int .i64 a1_9, .int .i64 a1_10, .int .i64 a1_11, .int .i64 a1_12, .int .i64 a1_13] ?_; intro gb2 hg w6 hbox hb; have BK2 := Gv.a0 (hbox); have GW2 := Gv.a0 ((Gv.ble hg Gv.bw : w.heap.size ≤ gb2)); have GE2 := GW2; replace HB := Gv.hb hb; have NB1_2 := Gv.a0 ((Gv.nlt hg (Gv.kb BK1.out) : gb1 ≠ gb2)); have NB2_1 := Gv.a0 ((Gv.ngt hg (Gv.kb BK1.out) : gb2 ≠ gb1)); replace BK1 := Gv.b1 BK1 hb; clear hb hbox hg; have hnb7 := NB1_2.out; have hnc7 := NB2_1.out; have z8_0 : w6.cell? ⟨gb1, 0, none⟩ = some (.int .i64 a0_0) := (blk_cell BK1.out 0).trans rfl; have z8_1 : w6.cell? ⟨gb1, 1, none⟩ = some (.slice A0_1 l0_1.length c0_1) := (blk_cell BK1.out 1).trans rfl; have o8_0 := blk_frozen BK1.out 0; have o8_1 := blk_frozen BK1.out 1; obtain ⟨z9_0, z9_1, z9_2, z9_3, z9_4, z9_5, z9_6, z9_7, z9_8, z9_9, z9_10, z9_11, z9_12, z9_13⟩ := Gv.c14 BK2.out; obtain ⟨o9_0, o9_1, o9_2, o9_3, o9_4, o9_5, o9_6, o9_7, o9_8, o9_9, o9_10, o9_11, o9_12, o9_13⟩ := Gv.f14 BK2.out) | (go_at_call 47; (with_reducible refine (impl_hashOf.calls k a0_0 a1_0 a1_1 a1_2 a1_3 a1_4 a1_5 a1_6 a1_7 a1_8 a1_9 a1_10 a1_11 a1_12 a1_13 t4 _ A3.out).mono ?_); rintro e w10 ⟨rfl, hb⟩; replace BK1 := Gv.b1 BK1 hb; replace BK2 := Gv.b1 BK2 hb; replace HB := Gv.hb hb; clear hb))
  repeat (go_quiet (first | ((with_reducible refine gate_dst (N := 2) rfl ?_); refine Gv.bev 2 40 #[.int .i64 a0_0, .slice A0_1 l0_1.length c0_1] ?_; intro gb1 hg w5 hbox hb; have BK1 := Gv.a0 (hbox); have GW1 := Gv.a0 ((Gv.ble hg Gv.bw : w.heap.size ≤ gb1)); have GE1 := GW1; replace HB := Gv.hb hb; clear hb hbox hg) | ((with_reducible refine gate_dst (N := 3) rfl ?_); refine Gv.bev 3 33 #[.int .i64 a1_0, .int .i64 a1_1, .int .i64 a1_2, .int .i64 a1_3, .int .i64 a1_4, .int .i64 a1_5, .int .i64 a1_6, .int .i64 a1_7, .int .i64 a1_8, .int .i64 a1_9, .int .i64 a1_10, .int .i64 a1_11, .int .i64 a1_12, .int .i64 a1_13] ?_; intro gb2 hg w6 hbox hb; have BK2 := Gv.a0 (hbox); have GW2 := Gv.a0 ((Gv.ble hg Gv.bw : w.heap.size ≤ gb2)); have GE2 := GW2; replace HB := Gv.hb hb; have NB1_2 := Gv.a0 ((Gv.nlt hg (Gv.kb BK1.out) : gb1 ≠ gb2)); have NB2_1 := Gv.a0 ((Gv.ngt hg (Gv.kb BK1.out) : gb2 ≠ gb1)); replace BK1 := Gv.b1 BK1 hb; clear hb hbox hg; have hnb7 := NB1_2.out; have hnc7 := NB2_1.out; have z8_0 : w6.cell? ⟨gb1, 0, none⟩ = some (.int .i64 a0_0) := (blk_cell BK1.out 0).trans rfl; have z8_1 : w6.cell? ⟨gb1, 1, none⟩ = some (.slice A0_1 l0_1.length c0_1) := (blk_cell BK1.out 1).trans rfl; have o8_0 := blk_frozen BK1.out 0; have o8_1 := blk_frozen BK1.out 1; obtain ⟨z9_0, z9_1, z9_2, z9_3, z9_4, z9_5, z9_6, z9_7, z9_8, z9_9, z9_10, z9_11, z9_12, z9_13⟩ := Gv.c14 BK2.out; obtain ⟨o9_0, o9_1, o9_2, o9_3, o9_4, o9_5, o9_6, o9_7, o9_8, o9_9, o9_10, o9_11, o9_12, o9_13⟩ := Gv.f14 BK2.out) | (go_at_call 47; (with_reducible refine (impl_hashOf.calls k a0_0 a1_0 a1_1 a1_2 a1_3 a1_4 a1_5 a1_6 a1_7 a1_8 a1_9 a1_10 a1_11 a1_12 a1_13 t4 _ A3.out).mono ?_); rintro e w10 ⟨rfl, hb⟩; replace BK1 := Gv.b1 BK1 hb; replace BK2 := Gv.b1 BK2 hb; replace HB := Gv.hb hb; clear hb)); try go_wp2_with (first | ((with_reducible refine gate_dst (N := 2) rfl ?_); refine Gv.bev 2 40 #[.int .i64 a0_0, .slice A0_1 l0_1.length c0_1] ?_; intro gb1 hg w5 hbox hb; have BK1 := Gv.a0 (hbox); have GW1 := Gv.a0 ((Gv.ble hg Gv.bw : w.heap.size ≤ gb1)); have GE1 := GW1; replace HB := Gv.hb hb; clear hb hbox hg) | ((with_reducible refine gate_dst (N := 3) rfl ?_); refine Gv.bev 3 33 #[.int .i64 a1_0, .int .i64 a1_1, .int .i64 a1_2, .int .i64 a1_3, .int .i64 a1_4, .int .i64 a1_5, .int .i64 a1_6, .int .i64 a1_7, .int .i64 a1_8, .int .i64 a1_9, .int .i64 a1_10, .int .i64 a1_11, .int .i64 a1_12, .int .i64 a1_13] ?_; intro gb2 hg w6 hbox hb; have BK2 := Gv.a0 (hbox); have GW2 := Gv.a0 ((Gv.ble hg Gv.bw : w.heap.size ≤ gb2)); have GE2 := GW2; replace HB := Gv.hb hb; have NB1_2 := Gv.a0 ((Gv.nlt hg (Gv.kb BK1.out) : gb1 ≠ gb2)); have NB2_1 := Gv.a0 ((Gv.ngt hg (Gv.kb BK1.out) : gb2 ≠ gb1)); replace BK1 := Gv.b1 BK1 hb; clear hb hbox hg; have hnb7 := NB1_2.out; have hnc7 := NB2_1.out; have z8_0 : w6.cell? ⟨gb1, 0, none⟩ = some (.int .i64 a0_0) := (blk_cell BK1.out 0).trans rfl; have z8_1 : w6.cell? ⟨gb1, 1, none⟩ = some (.slice A0_1 l0_1.length c0_1) := (blk_cell BK1.out 1).trans rfl; have o8_0 := blk_frozen BK1.out 0; have o8_1 := blk_frozen BK1.out 1; obtain ⟨z9_0, z9_1, z9_2, z9_3, z9_4, z9_5, z9_6, z9_7, z9_8, z9_9, z9_10, z9_11, z9_12, z9_13⟩ := Gv.c14 BK2.out; obtain ⟨o9_0, o9_1, o9_2, o9_3, o9_4, o9_5, o9_6, o9_7, o9_8, o9_9, o9_10, o9_11, o9_12, o9_13⟩ := Gv.f14 BK2.out) | (go_at_call 47; (with_reducible refine (impl_hashOf.calls k a0_0 a1_0 a1_1 a1_2 a1_3 a1_4 a1_5 a1_6 a1_7 a1_8 a1_9 a1_10 a1_11 a1_12 a1_13 t4 _ A3.out).mono ?_); rintro e w10 ⟨rfl, hb⟩; replace BK1 := Gv.b1 BK1 hb; replace BK2 := Gv.b1 BK2 hb; replace HB := Gv.hb hb; clear hb)))
  go_loopg [19] k (fun kq v19 w' => ∃ (x19_1 : Int), v19 = .int .i64 x19_1 ∧ Aside0 (impl_Table_probe.l0 kq (l0_1.length : Int) (Int.tmod t4 (l0_1.length : Int)) (l0_1.length : Int) x19_1 a0_0 l0_1 a1_0 a1_1 a1_2 a1_3 a1_4 a1_5 a1_6 a1_7 a1_8 a1_9 a1_10 a1_11 a1_12 a1_13 = some r) ∧ Aside0 (kq ≤ k) ∧ Aside0 (w'.heap[gb1]? = some (.cells #[.int .i64 a0_0, (.slice A0_1 l0_1.length c0_1)] 40 (0, 0))) ∧ Aside0 (w'.heap[gb2]? = some (.cells #[.int .i64 a1_0, .int .i64 a1_1, .int .i64 a1_2, .int .i64 a1_3, .int .i64 a1_4, .int .i64 a1_5, .int .i64 a1_6, .int .i64 a1_7, .int .i64 a1_8, .int .i64 a1_9, .int .i64 a1_10, .int .i64 a1_11, .int .i64 a1_12, .int .i64 a1_13] 33 (0, 0))) ∧ Aside0 (Below w.heap.size w w'))
  case atStart => exact ⟨(0), Gv.rq, H', ⟨Nat.le_refl _⟩, ⟨by (with_reducible repeat (first | refine blk_drewN ?_ _ | refine blk_drew ?_ | refine blk_alloc ?_ _)); exact BK1.out⟩, ⟨by (with_reducible repeat (first | refine blk_drewN ?_ _ | refine blk_drew ?_ | refine blk_alloc ?_ _)); exact BK2.out⟩, ⟨Gv.bw⟩⟩
  case round =>
   clear H'
   try clear p2
   try clear c4
   try clear c4b0
   try clear c4b1
   try clear c4b2
   try clear c5
   try clear c7
   try clear z8_0 z8_1
   try clear z9_0 z9_1
   try clear z9_10 z9_11 z9_12 z9_13
   try clear z9_2 z9_3 z9_4 z9_5 z9_6 z9_7 z9_8 z9_9
   try clear o8_0 o8_1
   try clear o9_0 o9_1
   try clear o9_10 o9_11 o9_12 o9_13
   try clear o9_2 o9_3 o9_4 o9_5 o9_6 o9_7 o9_8 o9_9
   obtain ⟨x19_1, rfl, HA, HK1, BK1, BK2, HB⟩ := hrel; cases gk with
   | zero => exact absurd HA.out (by simp [impl_Table_probe.l0])
   | succ k1 =>
    have H := HA.out; clear HA; simp only [impl_Table_probe.l0] at H
    by_cases c11 : x19_1 < (l0_1.length : Int)
    rotate_left
    ·rw [if_neg c11] at H; have c11b0 := decide_eq_false c11; clear c11; obtain rfl := Option.some.inj H
     go_wp2
     repeat (go_quiet (fail); try go_wp2)
     go_ret
     exact ⟨Gv.rt, Gv.bw⟩

    rw [if_pos c11] at H; have c11b0 := decide_eq_true c11; clear c11
    by_cases c12 : (l0_1.length : Int) = 0
    ·rw [if_pos c12] at H; cases H
    ·rw [if_neg c12] at H; have c12b0 : ((l0_1.length : Int) == 0) = false := beq_eq_false_iff_ne.mpr c12; have c12b1 : ((l0_1.length : Int) != 0) = true := bne_iff_ne.mpr c12; have c12b2 : ¬ (l0_1 = []) := fun h_ => c12 (by rw [h_]; rfl)
     obtain ⟨ji13, hji13⟩ : ∃ j_ : Int, (Int.tmod (wrap64 ((Int.tmod t4 (l0_1.length : Int)) + x19_1)) (l0_1.length : Int)) = j_ := ⟨_, rfl⟩
     replace H : (if 0 ≤ (ji13) then (if (ji13) < (l0_1.length : Int) then (if ((rd_T75 l0_1 (ji13)).f0 = true) then (if (((rd_T75 l0_1 (ji13)).f1.f0) == a1_0 && (((((rd_T75 l0_1 (ji13)).f1.f1.f0.f0) == a1_1 && (((rd_T75 l0_1 (ji13)).f1.f1.f0.f1) == a1_2 && (((rd_T75 l0_1 (ji13)).f1.f1.f0.f2) == a1_3 && (((rd_T75 l0_1 (ji13)).f1.f1.f0.f3) == a1_4 && (((rd_T75 l0_1 (ji13)).f1.f1.f0.f4) == a1_5))))) && ((((rd_T75 l0_1 (ji13)).f1.f1.f1.f0) == a1_6 && (((rd_T75 l0_1 (ji13)).f1.f1.f1.f1) == a1_7 && (((rd_T75 l0_1 (ji13)).f1.f1.f1.f2) == a1_8 && (((rd_T75 l0_1 (ji13)).f1.f1.f1.f3) == a1_9 && (((rd_T75 l0_1 (ji13)).f1.f1.f1.f4) == a1_10))))) && (((rd_T75 l0_1 (ji13)).f1.f1.f2) == a1_11 && (((rd_T75 l0_1 (ji13)).f1.f1.f3) == a1_12 && (((rd_T75 l0_1 (ji13)).f1.f1.f4) == a1_13))))))) = true then (some ji13) else (impl_Table_probe.l0 k1 (l0_1.length : Int) (Int.tmod t4 (l0_1.length : Int)) (l0_1.length : Int) (wrap64 (x19_1 + 1)) a0_0 l0_1 a1_0 a1_1 a1_2 a1_3 a1_4 a1_5 a1_6 a1_7 a1_8 a1_9 a1_10 a1_11 a1_12 a1_13)) else (some ji13)) else (none)) else (none)) = some r := by first | (rw [hji13] at H; exact H) | (simp only [hji13] at H ⊢; exact H)
     by_cases c14 : 0 ≤ (ji13)
     rotate_left
     ·rw [if_neg c14] at H; cases H
     rw [if_pos c14] at H; have c14b0 := decide_eq_true c14; clear c14
     by_cases c15 : (ji13) < (l0_1.length : Int)
     rotate_left
     ·rw [if_neg c15] at H; cases H
     rw [if_pos c15] at H; have c15b0 := decide_eq_true c15; clear c15; obtain ⟨bq16, hbq16⟩ : ∃ b_ : Bool, b_ = ((rd_T75 l0_1 (ji13)).f0) := ⟨_, rfl⟩
     replace H : (if (bq16 = true) then (if (((rd_T75 l0_1 (ji13)).f1.f0) == a1_0 && (((((rd_T75 l0_1 (ji13)).f1.f1.f0.f0) == a1_1 && (((rd_T75 l0_1 (ji13)).f1.f1.f0.f1) == a1_2 && (((rd_T75 l0_1 (ji13)).f1.f1.f0.f2) == a1_3 && (((rd_T75 l0_1 (ji13)).f1.f1.f0.f3) == a1_4 && (((rd_T75 l0_1 (ji13)).f1.f1.f0.f4) == a1_5))))) && ((((rd_T75 l0_1 (ji13)).f1.f1.f1.f0) == a1_6 && (((rd_T75 l0_1 (ji13)).f1.f1.f1.f1) == a1_7 && (((rd_T75 l0_1 (ji13)).f1.f1.f1.f2) == a1_8 && (((rd_T75 l0_1 (ji13)).f1.f1.f1.f3) == a1_9 && (((rd_T75 l0_1 (ji13)).f1.f1.f1.f4) == a1_10))))) && (((rd_T75 l0_1 (ji13)).f1.f1.f2) == a1_11 && (((rd_T75 l0_1 (ji13)).f1.f1.f3) == a1_12 && (((rd_T75 l0_1 (ji13)).f1.f1.f4) == a1_13))))))) = true then (some ji13) else (impl_Table_probe.l0 k1 (l0_1.length : Int) (Int.tmod t4 (l0_1.length : Int)) (l0_1.length : Int) (wrap64 (x19_1 + 1)) a0_0 l0_1 a1_0 a1_1 a1_2 a1_3 a1_4 a1_5 a1_6 a1_7 a1_8 a1_9 a1_10 a1_11 a1_12 a1_13)) else (some ji13)) = some r := by rw [← hbq16] at H; exact H
     have Nbq16 := Gv.a0 hbq16; clear hbq16
     by_cases c17 : (bq16 = true)
     ·subst c17; rw [if_pos rfl] at H
      (try simp only [Bool.false_or, Bool.true_and] at H)
      by_cases c18 : (((rd_T75 l0_1 (ji13)).f1.f0) == a1_0 && (((((rd_T75 l0_1 (ji13)).f1.f1.f0.f0) == a1_1 && (((rd_T75 l0_1 (ji13)).f1.f1.f0.f1) == a1_2 && (((rd_T75 l0_1 (ji13)).f1.f1.f0.f2) == a1_3 && (((rd_T75 l0_1 (ji13)).f1.f1.f0.f3) == a1_4 && (((rd_T75 l0_1 (ji13)).f1.f1.f0.f4) == a1_5))))) && ((((rd_T75 l0_1 (ji13)).f1.f1.f1.f0) == a1_6 && (((rd_T75 l0_1 (ji13)).f1.f1.f1.f1) == a1_7 && (((rd_T75 l0_1 (ji13)).f1.f1.f1.f2) == a1_8 && (((rd_T75 l0_1 (ji13)).f1.f1.f1.f3) == a1_9 && (((rd_T75 l0_1 (ji13)).f1.f1.f1.f4) == a1_10))))) && (((rd_T75 l0_1 (ji13)).f1.f1.f2) == a1_11 && (((rd_T75 l0_1 (ji13)).f1.f1.f3) == a1_12 && (((rd_T75 l0_1 (ji13)).f1.f1.f4) == a1_13))))))) = true
      ·rw [if_pos c18] at H; have c18b0 : (((rd_T75 l0_1 (ji13)).f1.f0) == a1_0 && (((((rd_T75 l0_1 (ji13)).f1.f1.f0.f0) == a1_1 && (((rd_T75 l0_1 (ji13)).f1.f1.f0.f1) == a1_2 && (((rd_T75 l0_1 (ji13)).f1.f1.f0.f2) == a1_3 && (((rd_T75 l0_1 (ji13)).f1.f1.f0.f3) == a1_4 && (((rd_T75 l0_1 (ji13)).f1.f1.f0.f4) == a1_5))))) && ((((rd_T75 l0_1 (ji13)).f1.f1.f1.f0) == a1_6 && (((rd_T75 l0_1 (ji13)).f1.f1.f1.f1) == a1_7 && (((rd_T75 l0_1 (ji13)).f1.f1.f1.f2) == a1_8 && (((rd_T75 l0_1 (ji13)).f1.f1.f1.f3) == a1_9 && (((rd_T75 l0_1 (ji13)).f1.f1.f1.f4) == a1_10))))) && (((rd_T75 l0_1 (ji13)).f1.f1.f2) == a1_11 && (((rd_T75 l0_1 (ji13)).f1.f1.f3) == a1_12 && (((rd_T75 l0_1 (ji13)).f1.f1.f4) == a1_13))))))) = true := c18
       (try (have c18b1 : decide (((rd_T75 l0_1 (ji13)).f1.f0) = a1_0 && (((((rd_T75 l0_1 (ji13)).f1.f1.f0.f0) == a1_1 && (((rd_T75 l0_1 (ji13)).f1.f1.f0.f1) == a1_2 && (((rd_T75 l0_1 (ji13)).f1.f1.f0.f2) == a1_3 && (((rd_T75 l0_1 (ji13)).f1.f1.f0.f3) == a1_4 && (((rd_T75 l0_1 (ji13)).f1.f1.f0.f4) == a1_5))))) && ((((rd_T75 l0_1 (ji13)).f1.f1.f1.f0) == a1_6 && (((rd_T75 l0_1 (ji13)).f1.f1.f1.f1) == a1_7 && (((rd_T75 l0_1 (ji13)).f1.f1.f1.f2) == a1_8 && (((rd_T75 l0_1 (ji13)).f1.f1.f1.f3) == a1_9 && (((rd_T75 l0_1 (ji13)).f1.f1.f1.f4) == a1_10))))) && (((rd_T75 l0_1 (ji13)).f1.f1.f2) == a1_11 && (((rd_T75 l0_1 (ji13)).f1.f1.f3) == a1_12 && (((rd_T75 l0_1 (ji13)).f1.f1.f4) == a1_13))))))) = true := by simpa using c18))
       (try (have c18b2 : (((rd_T75 l0_1 (ji13)).f1.f0) == a1_0 && (((((rd_T75 l0_1 (ji13)).f1.f1.f0.f0) == a1_1 && (((rd_T75 l0_1 (ji13)).f1.f1.f0.f1) == a1_2 && (((rd_T75 l0_1 (ji13)).f1.f1.f0.f2) == a1_3 && (((rd_T75 l0_1 (ji13)).f1.f1.f0.f3) == a1_4 && (((rd_T75 l0_1 (ji13)).f1.f1.f0.f4) == a1_5))))) && ((((rd_T75 l0_1 (ji13)).f1.f1.f1.f0) == a1_6 && (((rd_T75 l0_1 (ji13)).f1.f1.f1.f1) == a1_7 && (((rd_T75 l0_1 (ji13)).f1.f1.f1.f2) == a1_8 && (((rd_T75 l0_1 (ji13)).f1.f1.f1.f3) == a1_9 && (((rd_T75 l0_1 (ji13)).f1.f1.f1.f4) == a1_10))))) && (((rd_T75 l0_1 (ji13)).f1.f1.f2) == a1_11 && (((rd_T75 l0_1 (ji13)).f1.f1.f3) == a1_12 && (((rd_T75 l0_1 (ji13)).f1.f1.f4) == a1_13))))))) = true := by simpa using c18)); clear c18; obtain rfl := Option.some.inj H; have hnb19 := NB1_2.out; have hnc19 := NB2_1.out; have z20_0 : wr.cell? ⟨gb1, 0, none⟩ = some (.int .i64 a0_0) := (blk_cell BK1.out 0).trans rfl; have z20_1 : wr.cell? ⟨gb1, 1, none⟩ = some (.slice A0_1 l0_1.length c0_1) := (blk_cell BK1.out 1).trans rfl; have o20_0 := blk_frozen BK1.out 0; have o20_1 := blk_frozen BK1.out 1; have p3 : 0 ≤ ((ji13) : Int) := Gv.od; have q3 : (ji13) < (l0_1.length : Int) := Gv.od; obtain ⟨ad3, e3, u3_0, _, _, _, _, _, _, _, _, _, _, _, _, _, _, _⟩ := at_T75 HR0_1.out (ji13) p3 q3
       (try rw [← Nbq16.out] at u3_0); cases e3; replace u3_0 := Gv.bx HB.out u3_0; replace p3 := eq_true p3; replace q3 := eq_true q3; have p0 : 0 ≤ ((ji13) : Int) := Gv.od; have q0 : (ji13) < (l0_1.length : Int) := Gv.od; obtain ⟨ad0, e0, u0_0, u0_1, u0_2, u0_3, u0_4, u0_5, u0_6, u0_7, u0_8, u0_9, u0_10, u0_11, u0_12, u0_13, u0_14, _⟩ := at_T75 HR0_1.out (ji13) p0 q0
       (try rw [← Nbq16.out] at u0_0); obtain rfl : ad3 = ad0 := (by injection e0); replace u0_0 := Gv.bx HB.out u0_0; replace u0_1 := Gv.bx HB.out u0_1; replace u0_2 := Gv.bx HB.out u0_2; replace u0_3 := Gv.bx HB.out u0_3; replace u0_4 := Gv.bx HB.out u0_4; replace u0_5 := Gv.bx HB.out u0_5; replace u0_6 := Gv.bx HB.out u0_6; replace u0_7 := Gv.bx HB.out u0_7; replace u0_8 := Gv.bx HB.out u0_8; replace u0_9 := Gv.bx HB.out u0_9; replace u0_10 := Gv.bx HB.out u0_10; replace u0_11 := Gv.bx HB.out u0_11; replace u0_12 := Gv.bx HB.out u0_12; replace u0_13 := Gv.bx HB.out u0_13; replace u0_14 := Gv.bx HB.out u0_14; replace p0 := eq_true p0; replace q0 := eq_true q0; obtain ⟨z21_0, z21_1, z21_2, z21_3, z21_4, z21_5, z21_6, z21_7, z21_8, z21_9, z21_10, z21_11, z21_12, z21_13⟩ := Gv.c14 BK2.out; obtain ⟨o21_0, o21_1, o21_2, o21_3, o21_4, o21_5, o21_6, o21_7, o21_8, o21_9, o21_10, o21_11, o21_12, o21_13⟩ := Gv.f14 BK2.out
       go_wp2
       repeat (go_quiet (fail); try go_wp2)
       go_ret
       exact ⟨by first | rfl | (simp [errW_none, errW_some] <;> rfl) | (simp only [← hji13]; first | rfl | (simp [errW_none, errW_some] <;> rfl)) | (simp [*, errW_none, errW_some] <;> rfl), Gv.bw⟩
      ·rw [if_neg c18] at H; have c18b0 : (((rd_T75 l0_1 (ji13)).f1.f0) == a1_0 && (((((rd_T75 l0_1 (ji13)).f1.f1.f0.f0) == a1_1 && (((rd_T75 l0_1 (ji13)).f1.f1.f0.f1) == a1_2 && (((rd_T75 l0_1 (ji13)).f1.f1.f0.f2) == a1_3 && (((rd_T75 l0_1 (ji13)).f1.f1.f0.f3) == a1_4 && (((rd_T75 l0_1 (ji13)).f1.f1.f0.f4) == a1_5))))) && ((((rd_T75 l0_1 (ji13)).f1.f1.f1.f0) == a1_6 && (((rd_T75 l0_1 (ji13)).f1.f1.f1.f1) == a1_7 && (((rd_T75 l0_1 (ji13)).f1.f1.f1.f2) == a1_8 && (((rd_T75 l0_1 (ji13)).f1.f1.f1.f3) == a1_9 && (((rd_T75 l0_1 (ji13)).f1.f1.f1.f4) == a1_10))))) && (((rd_T75 l0_1 (ji13)).f1.f1.f2) == a1_11 && (((rd_T75 l0_1 (ji13)).f1.f1.f3) == a1_12 && (((rd_T75 l0_1 (ji13)).f1.f1.f4) == a1_13))))))) = false := by simpa using c18
       (try (have c18b1 : decide (((rd_T75 l0_1 (ji13)).f1.f0) = a1_0 && (((((rd_T75 l0_1 (ji13)).f1.f1.f0.f0) == a1_1 && (((rd_T75 l0_1 (ji13)).f1.f1.f0.f1) == a1_2 && (((rd_T75 l0_1 (ji13)).f1.f1.f0.f2) == a1_3 && (((rd_T75 l0_1 (ji13)).f1.f1.f0.f3) == a1_4 && (((rd_T75 l0_1 (ji13)).f1.f1.f0.f4) == a1_5))))) && ((((rd_T75 l0_1 (ji13)).f1.f1.f1.f0) == a1_6 && (((rd_T75 l0_1 (ji13)).f1.f1.f1.f1) == a1_7 && (((rd_T75 l0_1 (ji13)).f1.f1.f1.f2) == a1_8 && (((rd_T75 l0_1 (ji13)).f1.f1.f1.f3) == a1_9 && (((rd_T75 l0_1 (ji13)).f1.f1.f1.f4) == a1_10))))) && (((rd_T75 l0_1 (ji13)).f1.f1.f2) == a1_11 && (((rd_T75 l0_1 (ji13)).f1.f1.f3) == a1_12 && (((rd_T75 l0_1 (ji13)).f1.f1.f4) == a1_13))))))) = false := by simpa using c18))
       (try (have c18b2 : (((rd_T75 l0_1 (ji13)).f1.f0) == a1_0 && (((((rd_T75 l0_1 (ji13)).f1.f1.f0.f0) == a1_1 && (((rd_T75 l0_1 (ji13)).f1.f1.f0.f1) == a1_2 && (((rd_T75 l0_1 (ji13)).f1.f1.f0.f2) == a1_3 && (((rd_T75 l0_1 (ji13)).f1.f1.f0.f3) == a1_4 && (((rd_T75 l0_1 (ji13)).f1.f1.f0.f4) == a1_5))))) && ((((rd_T75 l0_1 (ji13)).f1.f1.f1.f0) == a1_6 && (((rd_T75 l0_1 (ji13)).f1.f1.f1.f1) == a1_7 && (((rd_T75 l0_1 (ji13)).f1.f1.f1.f2) == a1_8 && (((rd_T75 l0_1 (ji13)).f1.f1.f1.f3) == a1_9 && (((rd_T75 l0_1 (ji13)).f1.f1.f1.f4) == a1_10))))) && (((rd_T75 l0_1 (ji13)).f1.f1.f2) == a1_11 && (((rd_T75 l0_1 (ji13)).f1.f1.f3) == a1_12 && (((rd_T75 l0_1 (ji13)).f1.f1.f4) == a1_13))))))) = false := by simpa using c18))
       (try (have c18b3 : ¬ (((rd_T75 l0_1 (ji13)).f1.f0) = a1_0 && (((((rd_T75 l0_1 (ji13)).f1.f1.f0.f0) == a1_1 && (((rd_T75 l0_1 (ji13)).f1.f1.f0.f1) == a1_2 && (((rd_T75 l0_1 (ji13)).f1.f1.f0.f2) == a1_3 && (((rd_T75 l0_1 (ji13)).f1.f1.f0.f3) == a1_4 && (((rd_T75 l0_1 (ji13)).f1.f1.f0.f4) == a1_5))))) && ((((rd_T75 l0_1 (ji13)).f1.f1.f1.f0) == a1_6 && (((rd_T75 l0_1 (ji13)).f1.f1.f1.f1) == a1_7 && (((rd_T75 l0_1 (ji13)).f1.f1.f1.f2) == a1_8 && (((rd_T75 l0_1 (ji13)).f1.f1.f1.f3) == a1_9 && (((rd_T75 l0_1 (ji13)).f1.f1.f1.f4) == a1_10))))) && (((rd_T75 l0_1 (ji13)).f1.f1.f2) == a1_11 && (((rd_T75 l0_1 (ji13)).f1.f1.f3) == a1_12 && (((rd_T75 l0_1 (ji13)).f1.f1.f4) == a1_13))))))) := by simpa using c18)); clear c18; have H' := Gv.a0 H; clear H; have hnb22 := NB1_2.out; have hnc22 := NB2_1.out; have z23_0 : wr.cell? ⟨gb1, 0, none⟩ = some (.int .i64 a0_0) := (blk_cell BK1.out 0).trans rfl; have z23_1 : wr.cell? ⟨gb1, 1, none⟩ = some (.slice A0_1 l0_1.length c0_1) := (blk_cell BK1.out 1).trans rfl; have o23_0 := blk_frozen BK1.out 0; have o23_1 := blk_frozen BK1.out 1; have p3 : 0 ≤ ((ji13) : Int) := Gv.od; have q3 : (ji13) < (l0_1.length : Int) := Gv.od; obtain ⟨ad3, e3, u3_0, _, _, _, _, _, _, _, _, _, _, _, _, _, _, _⟩ := at_T75 HR0_1.out (ji13) p3 q3
       (try rw [← Nbq16.out] at u3_0); cases e3; replace u3_0 := Gv.bx HB.out u3_0; replace p3 := eq_true p3; replace q3 := eq_true q3; have p0 : 0 ≤ ((ji13) : Int) := Gv.od; have q0 : (ji13) < (l0_1.length : Int) := Gv.od; obtain ⟨ad0, e0, u0_0, u0_1, u0_2, u0_3, u0_4, u0_5, u0_6, u0_7, u0_8, u0_9, u0_10, u0_11, u0_12, u0_13, u0_14, _⟩ := at_T75 HR0_1.out (ji13) p0 q0
       (try rw [← Nbq16.out] at u0_0); obtain rfl : ad3 = ad0 := (by injection e0); replace u0_0 := Gv.bx HB.out u0_0; replace u0_1 := Gv.bx HB.out u0_1; replace u0_2 := Gv.bx HB.out u0_2; replace u0_3 := Gv.bx HB.out u0_3; replace u0_4 := Gv.bx HB.out u0_4; replace u0_5 := Gv.bx HB.out u0_5; replace u0_6 := Gv.bx HB.out u0_6; replace u0_7 := Gv.bx HB.out u0_7; replace u0_8 := Gv.bx HB.out u0_8; replace u0_9 := Gv.bx HB.out u0_9; replace u0_10 := Gv.bx HB.out u0_10; replace u0_11 := Gv.bx HB.out u0_11; replace u0_12 := Gv.bx HB.out u0_12; replace u0_13 := Gv.bx HB.out u0_13; replace u0_14 := Gv.bx HB.out u0_14; replace p0 := eq_true p0; replace q0 := eq_true q0; obtain ⟨z24_0, z24_1, z24_2, z24_3, z24_4, z24_5, z24_6, z24_7, z24_8, z24_9, z24_10, z24_11, z24_12, z24_13⟩ := Gv.c14 BK2.out; obtain ⟨o24_0, o24_1, o24_2, o24_3, o24_4, o24_5, o24_6, o24_7, o24_8, o24_9, o24_10, o24_11, o24_12, o24_13⟩ := Gv.f14 BK2.out
       go_wp2
       repeat (go_quiet (fail); try go_wp2)
       go_roundg k1
       case measure => have := HK1.out; omega
       case rel => exact ⟨(wrap64 (x19_1 + 1)), Gv.rq, H', ⟨by have := HK1.out; omega⟩, ⟨by (with_reducible repeat (first | refine blk_drewN ?_ _ | refine blk_drew ?_ | refine blk_alloc ?_ _)); exact BK1.out⟩, ⟨by (with_reducible repeat (first | refine blk_drewN ?_ _ | refine blk_drew ?_ | refine blk_alloc ?_ _)); exact BK2.out⟩, ⟨Gv.bw⟩⟩
     ·replace c17 := Bool.eq_false_iff.mpr c17; subst c17; rw [if_neg (show ¬ (false = true) by decide)] at H
      (try dsimp only at H); obtain rfl := Option.some.inj H; have hnb25 := NB1_2.out; have hnc25 := NB2_1.out; have z26_0 : wr.cell? ⟨gb1, 0, none⟩ = some (.int .i64 a0_0) := (blk_cell BK1.out 0).trans rfl; have z26_1 : wr.cell? ⟨gb1, 1, none⟩ = some (.slice A0_1 l0_1.length c0_1) := (blk_cell BK1.out 1).trans rfl; have o26_0 := blk_frozen BK1.out 0; have o26_1 := blk_frozen BK1.out 1; have p3 : 0 ≤ ((ji13) : Int) := Gv.od; have q3 : (ji13) < (l0_1.length : Int) := Gv.od; obtain ⟨ad3, e3, u3_0, _, _, _, _, _, _, _, _, _, _, _, _, _, _, _⟩ := at_T75 HR0_1.out (ji13) p3 q3
      (try rw [← Nbq16.out] at u3_0); cases e3; replace u3_0 := Gv.bx HB.out u3_0; replace p3 := eq_true p3; replace q3 := eq_true q3
      go_wp2
      repeat (go_quiet (fail); try go_wp2)
      go_ret
      exact ⟨by first | rfl | (simp [errW_none, errW_some] <;> rfl) | (simp only [← hji13]; first | rfl | (simp [errW_none, errW_some] <;> rfl)) | (simp [*, errW_none, errW_some] <;> rfl), Gv.bw⟩
end Go.Proofs.Ytfnpodebjejhpaa.PTd
