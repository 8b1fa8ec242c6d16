/- Plain Lean functions of a law's Go functions, their contracts, by a program of this session (wip/pr.py over the kit's print). -/
import Derived.Test.YtbihbbkdciebhaaGreatDoorPRrx0
import Derived.Test.YtbihbbkdciebhaaGreatDoorPRrx2
import Derived.Test.YtbihbbkdciebhaaGreatDoorPRrx6
namespace Go.Proofs.YtbihbbkdciebhaaGreatDoor.PRr
open Go.RowKit Go.Proofs.YtbihbbkdciebhaaGreatDoorW.PrintWords Go.Proofs.YtbihbbkdciebhaaGreatDoorW.PrintLast Go.Proofs.YtbihbbkdciebhaaGreatDoorW.PrintMore
attribute [local go_sem] max2_int min2_int max_two min_two max_three min_three max_four min_four   -- for this text's walks alone
set_option linter.unusedVariables false
set_option linter.unusedSimpArgs false

attribute [local go_sem high] eqA25
/-! ### slices_Concat_byte_byte: function 101 -/
mutual
def slices_Concat_byte_byte.l0 : Nat → List (List Int) → Int → List (List Int) → Int → Int → Option (List Int)
 | 0, _, _, _, _, _ => none
 | k + 1, x0, x3, x9, x10, x11 => if x11 < x10 then (if 0 ≤ x11 then (if x11 < (x9.length : Int) then (if (wrap64 (x3 + ((rd_L2 x9 x11).length : Int))) < 0 then (none) else (slices_Concat_byte_byte.l0 k x0 (wrap64 (x3 + ((rd_L2 x9 x11).length : Int))) x9 x10 (wrap64 (x11 + 1)))) else (none)) else (none)) else ((slices_Grow_byte_byte.f x3).bind fun t370 => (slices_Concat_byte_byte.l1 k t370 x0 (x0.length : Int) 0))
def slices_Concat_byte_byte.l1 : Nat → List Int → List (List Int) → Int → Int → Option (List Int)
 | 0, _, _, _, _ => none
 | k + 1, x6, x25, x26, x27 => if x27 < x26 then (if 0 ≤ x27 then (if x27 < (x25.length : Int) then (if x6.length + (rd_L2 x25 x27).length < 140737488355328 then (slices_Concat_byte_byte.l1 k (x6 ++ (rd_L2 x25 x27)) x25 x26 (wrap64 (x27 + 1))) else (none)) else (none)) else (none)) else (some x6)
end
def slices_Concat_byte_byte.f (k : Nat) (l0 : List (List Int)) : Option (List Int) := slices_Concat_byte_byte.l0 k l0 0 l0 (l0.length : Int) 0
set_option maxHeartbeats 8000000 in
set_option maxRecDepth 100000 in
theorem slices_Concat_byte_byte.calls (k : Nat) (A0 : Option Addr) (c0 : Nat) (l0 : List (List Int)) (r : List Int) (w : World) (hr0 : Kd.C (Kd.slice 5 (Kd.int .u8)) w A0 l0.length l0) (hc0 : l0.length ≤ c0) (h : slices_Concat_byte_byte.f k l0 = some r) :
  Calls Tryz.prog 101 #[.slice A0 l0.length c0] w fun e w' => ∃ v0_ : Value, e = .returned (v0_) ∧ Kd.R (Kd.int .u8) 5 w' w.heap.size (fun _ => True) v0_ r ∧ Below w.heap.size w w' := by
 have HR0 := Gv.a0 hr0; have HC0 := Gv.a0 hc0; clear hr0 hc0; have HB := Gv.a0 (Below.refl w.heap.size w); unfold slices_Concat_byte_byte.f at h; have H := h; clear h; have H' := Gv.a0 H; clear H
 go_enter Tryz.func101, Tryz.ntmps101
 go_wp2
 go_loopg [3, 11] k (fun kq v3 v11 w' => ∃ (x3_1 : Int) (x11_1 : Int), v3 = .int .i64 x3_1 ∧ v11 = .int .i64 x11_1 ∧ Aside0 (slices_Concat_byte_byte.l0 kq l0 x3_1 l0 (l0.length : Int) x11_1 = some r) ∧ Aside0 (kq ≤ k) ∧ Aside0 (Below w.heap.size w w'))
 case atStart => exact ⟨(0), (0), Gv.rq, Gv.rq, H', ⟨Nat.le_refl _⟩, ⟨Gv.bw⟩⟩
 case round =>
  clear H'
  try clear c1
  obtain ⟨x3_1, x11_1, rfl, rfl, HA, HK1, HB⟩ := hrel; cases gk with
  | zero => exact absurd HA.out (by simp [slices_Concat_byte_byte.l0])
  | succ k1 =>
   have H := HA.out; clear HA; simp only [slices_Concat_byte_byte.l0] at H
   by_cases c2 : x11_1 < (l0.length : Int)
   ·rw [if_pos c2] at H; have c2b0 := decide_eq_true c2; clear c2
    by_cases c3 : 0 ≤ x11_1
    rotate_left
    ·rw [if_neg c3] at H; cases H
    rw [if_pos c3] at H; have c3b0 := decide_eq_true c3; clear c3
    by_cases c4 : x11_1 < (l0.length : Int)
    rotate_left
    ·rw [if_neg c4] at H; cases H
    rw [if_pos c4] at H; have c4b0 := decide_eq_true c4; clear c4
    by_cases c5 : (wrap64 (x3_1 + ((rd_L2 l0 x11_1).length : Int))) < 0
    ·rw [if_pos c5] at H; cases H
    ·rw [if_neg c5] at H; have c5b0 := decide_eq_false c5; clear c5; have H' := Gv.a0 H; clear H; have p7 : 0 ≤ (x11_1 : Int) := Gv.od; have q7 : x11_1 < (l0.length : Int) := Gv.od; obtain ⟨ad7, A7_0, c7_0, e7, u7_0, hl7_0, hi7_0⟩ := at_L2 HR0.out x11_1 p7 q7; cases e7; replace u7_0 := Gv.bx HB.out u7_0; have HR7_0 := Gv.a0 hi7_0; have HC7_0 := Gv.a0 hl7_0; clear hi7_0 hl7_0; replace p7 := eq_true p7; replace q7 := eq_true q7
     go_wp2
     go_roundg k1
     case measure => have := HK1.out; omega
     case rel => exact ⟨(wrap64 (x3_1 + ((rd_L2 l0 x11_1).length : Int))), (wrap64 (x11_1 + 1)), Gv.rq, Gv.rq, H', ⟨by have := HK1.out; omega⟩, ⟨Gv.bw⟩⟩
   ·rw [if_neg c2] at H; have c2b0 := decide_eq_false c2; clear c2; replace H := Option.bind_eq_some_iff.mp H; obtain ⟨t1, A60, H⟩ := H
    (try dsimp only at H); have A6 := Gv.a0 A60; clear A60; have H' := Gv.a0 H; clear H
    go_wp2_with (first | ((with_reducible refine gate_callee (f := 112) rfl ?_); refine goesL_ (some 24) rfl rfl Tryz.func112 (by kernel_rfl) rfl #[.slice none 0 0, .int .i64 x3_1] rfl Gv.lm ?_; (with_reducible refine (slices_Grow_byte_byte.calls x3_1 t1 _ A6.out).mono ?_); rintro e w7 ⟨v4, rfl, ho0, hb⟩; refine ⟨_, rfl, ?_⟩; have HO2 := Gv.a0 (Kd.R_lower ho0 (below_size Gv.bw)); replace HB := Gv.hb hb; clear hb ho0))
    go_loopg [6, 27] k1 (fun kq v6 v27 w' => ∃ (x6_2 : List Int) (x27_2 : Int), v27 = .int .i64 x27_2 ∧ Aside0 (slices_Concat_byte_byte.l1 kq x6_2 l0 (l0.length : Int) x27_2 = some r) ∧ Aside0 (kq ≤ k1) ∧ Aside0 (Kd.R (Kd.int .u8) 5 w' w.heap.size (fun _ => True) v6 x6_2) ∧ Aside0 (Below w.heap.size w w'))
    case atStart => exact ⟨(t1), (0), Gv.rq, H', ⟨Nat.le_refl _⟩, ⟨Gv.kr HO2.out⟩, ⟨Gv.bw⟩⟩
    case round =>
     clear H'
     try clear c1
     try clear c2
     try clear c2b0
     try clear p2
     try clear c3
     try clear c3b0
     try clear p3
     try clear q3
     try clear hx3
     try clear c4
     try clear c4b0
     try clear c5
     try clear c5b0
     try clear p6
     try clear u7_0
     try clear p7
     try clear q7
     obtain ⟨x6_2, x27_2, rfl, HA, HK2, HO_6, HB⟩ := hrel; cases gk with
     | zero => exact absurd HA.out (by simp [slices_Concat_byte_byte.l1])
     | succ k2 =>
      have H := HA.out; clear HA; simp only [slices_Concat_byte_byte.l1] at H
      by_cases c8 : x27_2 < (l0.length : Int)
      rotate_left
      ·rw [if_neg c8] at H; have c8b0 := decide_eq_false c8; clear c8; obtain rfl := Option.some.inj H
       go_wp2
       go_ret
       exact ⟨_, Gv.rt, Gv.kr HO_6.out, Gv.bw⟩

      rw [if_pos c8] at H; have c8b0 := decide_eq_true c8; clear c8
      by_cases c9 : 0 ≤ x27_2
      rotate_left
      ·rw [if_neg c9] at H; cases H
      rw [if_pos c9] at H; have c9b0 := decide_eq_true c9; clear c9
      by_cases c10 : x27_2 < (l0.length : Int)
      rotate_left
      ·rw [if_neg c10] at H; cases H
      rw [if_pos c10] at H; have c10b0 := decide_eq_true c10; clear c10
      by_cases c11 : x6_2.length + (rd_L2 l0 x27_2).length < 140737488355328
      rotate_left
      ·rw [if_neg c11] at H; cases H
      rw [if_pos c11] at H; have LMc11 := Gv.a0 c11; clear c11; obtain ⟨y0, hy0⟩ : ∃ y_ : List Int, y_ = (x6_2 ++ (rd_L2 l0 x27_2)) := ⟨_, rfl⟩
      replace H : (slices_Concat_byte_byte.l1 k2 y0 l0 (l0.length : Int) (wrap64 (x27_2 + 1))) = some r := by first | (rw [hy0]; with_reducible exact H) | (have H2_ := (Option.bind_some _ _).symm.trans H; rw [hy0]; with_reducible exact H2_) | (have H2_ := (Option.bind_some _ _).symm.trans H; with_reducible exact H2_) | with_reducible exact H | (rw [hy0]; exact H) | exact H
      have Ny0 := Gv.a0 hy0; clear hy0; have H' := Gv.a0 H; clear H; have p12 : 0 ≤ (x27_2 : Int) := Gv.od; have q12 : x27_2 < (l0.length : Int) := Gv.od; obtain ⟨ad12, A12_0, c12_0, e12, u12_0, hl12_0, hi12_0⟩ := at_L2 HR0.out x27_2 p12 q12; cases e12; replace u12_0 := Gv.bx HB.out u12_0; have HR12_0 := Gv.a0 hi12_0; have HC12_0 := Gv.a0 hl12_0; clear hi12_0 hl12_0; replace p12 := eq_true p12; replace q12 := eq_true q12
      go_wp2_with (first | ((with_reducible refine gate_builtin (b := .append) (xs := #[.tmp 31, .tmp 32]) rfl ?_); at_builtin; refine Kd.R_append_rows (Kd.int .u8) (w0 := w) w.heap.size rfl (.tmp 31) (.tmp 32) 62 5 (.int .u8 0) 1 rfl Tryz.underlying62 info5 rfl (by decide) (by omega) u6 x6_2 (rd_L2 l0 x27_2) _ _ _ (fun _ => True) (fun _ => False) rfl rfl ?aO ?aR (fun _ _ h => h) (fun _ h => h.elim) ?aF ?aB ?aS ?aL ?_; (case aR => repeat (first | exact (Kd.C_below HR12_0.out HB.out) | (with_reducible refine Kd.C_alloc ?_ _) | (with_reducible refine Kd.C_drewN ?_ _) | (with_reducible refine Kd.C_drew ?_))); (case aB => exact Gv.bw); (case aF => exact (fun _ _ => trivial)); (case aO => exact (Gv.kr HO_6.out)); (case aS => exact (below_size Gv.bw)); (case aL => have := LMc11.out; omega); intro v5 w12 ho hb hg hat; rw [← Ny0.out] at ho; replace HB := Gv.a0 (hb); have HO3 := Gv.a0 (ho); clear HO_6 ho hb hg hat))
      go_roundg k2
      case measure => have := HK1.out; have := HK2.out; omega
      case rel => exact ⟨(y0), (wrap64 (x27_2 + 1)), Gv.rq, H', ⟨by have := HK1.out; have := HK2.out; omega⟩, ⟨Gv.kr HO3.out⟩, ⟨Gv.bw⟩⟩
/-! ### impl_AddrBytes: function 85 -/
def impl_AddrBytes.f (k : Nat) (a0_0 : Int) (a0_1 : Int) (a0_2 : Int) (a0_3 : Int) (a0_4 : Int) : Option (List Int) := (impl_AddrOk.f a0_0 a0_1 a0_2 a0_3 a0_4).bind fun t378 => (if t378 = true then (if a0_0 = 4 then ((impl_Put32.f k a0_4).bind fun t379 => (some t379)) else ((impl_Put32.f k a0_1).bind fun t382 => ((impl_Put32.f k a0_2).bind fun t385 => ((impl_Put32.f k a0_3).bind fun t388 => ((impl_Put32.f k a0_4).bind fun t391 => ((slices_Concat_byte_byte.f k (([t382, t385, t388, t391] : List (List Int)))).bind fun t397 => (some t397))))))) else (some ([] : List Int)))
def impl_AddrBytes.T5 : Bool × List (List Nat × List Nat) := (true, [([], []), ([0], [0]), ([1], [1]), ([], []), ([3], [3]), ([4, 2], [4]), ([], []), ([6], [6]), ([7, 5], [7]), ([], []), ([9], [9]), ([10, 8], [10]), ([2, 5, 8, 11], [2, 5, 8, 11]), ([12, 11], [12]), ([13, 13, 0, 1, 2, 3, 4, 5, 6, 7, 8, 9, 10, 11, 12, 13], [13])])
def impl_AddrBytes.B5 : List Nat := [0, 1, 3, 0, 8, 31, 0, 64, 255, 0, 512, 2047, 4095, 8191, 16383]
theorem impl_AddrBytes.tab5 : rtab .any (opsOf Tryz.f85 5) = impl_AddrBytes.T5 := by kernel_rfl
theorem impl_AddrBytes.bits5 : waitsOk impl_AddrBytes.T5.2 impl_AddrBytes.B5 = true := by kernel_rfl
set_option maxHeartbeats 8000000 in
set_option maxRecDepth 100000 in
theorem impl_AddrBytes.calls (k : Nat) (a0_0 : Int) (a0_1 : Int) (a0_2 : Int) (a0_3 : Int) (a0_4 : Int) (r : List Int) (w : World) (h : impl_AddrBytes.f k a0_0 a0_1 a0_2 a0_3 a0_4 = some r) :
  Calls Tryz.prog 85 #[.agg #[.int .i64 a0_0, .int .i64 a0_1, .int .i64 a0_2, .int .i64 a0_3, .int .i64 a0_4]] w fun e w' => ∃ v0_ : Value, e = .returned (v0_) ∧ Kd.R (Kd.int .u8) 5 w' w.heap.size (fun _ => True) v0_ r ∧ Below w.heap.size w w' := by
 have hu23 := Tryz.underlying23; have HB := Gv.a0 (Below.refl w.heap.size w); unfold impl_AddrBytes.f at h; have H := h; clear h; replace H := Option.bind_eq_some_iff.mp H; obtain ⟨t12, A20, H⟩ := H
 (try dsimp only at H); have A2 := Gv.a0 A20; clear A20
 by_cases c3 : t12 = true
 rotate_left
 ·replace c3 := Bool.eq_false_iff.mpr c3; subst c3; rw [if_neg (show ¬ (false = true) by decide)] at H
  (try dsimp only at H); obtain rfl := Option.some.inj H
  go_enter Tryz.func85, Tryz.ntmps85
  go_wp2_with (first | ((with_reducible refine gate_dst (N := 1) rfl ?_); refine Gv.bev 1 23 #[.int .i64 a0_0, .int .i64 a0_1, .int .i64 a0_2, .int .i64 a0_3, .int .i64 a0_4] ?_; intro gb0 hg w33 hbox hb; have BK0 := Gv.a0 (hbox); have GW0 := Gv.a0 ((Gv.ble hg Gv.bw : w.heap.size ≤ gb0)); have GE0 := GW0; replace HB := Gv.hb hb; clear hb hbox hg; obtain ⟨z34_0, z34_1, z34_2, z34_3, z34_4⟩ := Gv.c5 BK0.out; obtain ⟨o34_0, o34_1, o34_2, o34_3, o34_4⟩ := Gv.f5 BK0.out) | ((with_reducible refine gate_callee (f := 87) rfl ?_); refine goesL_ (some 5) rfl rfl Tryz.func87 (by kernel_rfl) rfl #[.agg #[.int .i64 a0_0, .int .i64 a0_1, .int .i64 a0_2, .int .i64 a0_3, .int .i64 a0_4]] rfl Gv.lm ?_; (with_reducible refine (impl_AddrOk.calls a0_0 a0_1 a0_2 a0_3 a0_4 false _ A2.out).mono ?_); rintro e w35 ⟨rfl, hb⟩; refine ⟨_, rfl, ?_⟩; replace BK0 := Gv.b1 BK0 hb; replace HB := Gv.hb hb; clear hb))
  go_ret
  exact ⟨_, Gv.rt, by first | exact Kd.R_nil _ _ _ _ _ | exact Kd.N_nil _ _ _ _ _ | exact Kd.V_nil _ _ _ _ _ | exact Kd.Q_nil _ _ _ _ _ | exact Kd.S_nil _ _ _ _ _, Gv.bw⟩

 subst c3; rw [if_pos rfl] at H
 (try dsimp only at H)
 by_cases c4 : a0_0 = 4
 ·rw [if_pos c4] at H; have c4b0 : (a0_0 == 4) = true := beq_iff_eq.mpr c4; have c4b1 : (a0_0 != 4) = false := bne_eq_false_iff_eq.mpr c4; clear c4; replace H := Option.bind_eq_some_iff.mp H; obtain ⟨t13, A50, H⟩ := H
  (try dsimp only at H); have A5 := Gv.a0 A50; clear A50; obtain rfl := Option.some.inj H
  go_enter Tryz.func85, Tryz.ntmps85
  go_wp2_with (first | ((with_reducible refine gate_dst (N := 1) rfl ?_); refine Gv.bev 1 23 #[.int .i64 a0_0, .int .i64 a0_1, .int .i64 a0_2, .int .i64 a0_3, .int .i64 a0_4] ?_; intro gb0 hg w6 hbox hb; have BK0 := Gv.a0 (hbox); have GW0 := Gv.a0 ((Gv.ble hg Gv.bw : w.heap.size ≤ gb0)); have GE0 := GW0; replace HB := Gv.hb hb; clear hb hbox hg; obtain ⟨z7_0, z7_1, z7_2, z7_3, z7_4⟩ := Gv.c5 BK0.out; obtain ⟨o7_0, o7_1, o7_2, o7_3, o7_4⟩ := Gv.f5 BK0.out) | ((with_reducible refine gate_callee (f := 87) rfl ?_); refine goesL_ (some 5) rfl rfl Tryz.func87 (by kernel_rfl) rfl #[.agg #[.int .i64 a0_0, .int .i64 a0_1, .int .i64 a0_2, .int .i64 a0_3, .int .i64 a0_4]] rfl Gv.lm ?_; (with_reducible refine (impl_AddrOk.calls a0_0 a0_1 a0_2 a0_3 a0_4 true _ A2.out).mono ?_); rintro e w8 ⟨rfl, hb⟩; refine ⟨_, rfl, ?_⟩; replace BK0 := Gv.b1 BK0 hb; replace HB := Gv.hb hb; clear hb; obtain ⟨z9_0, z9_1, z9_2, z9_3, z9_4⟩ := Gv.c5 BK0.out; obtain ⟨o9_0, o9_1, o9_2, o9_3, o9_4⟩ := Gv.f5 BK0.out) | ((with_reducible refine gate_callee (f := 100) rfl ?_); refine goesL_ (some 13) rfl rfl Tryz.func100 (by kernel_rfl) rfl #[.int .i64 a0_4] rfl Gv.lm ?_; (with_reducible refine (impl_Put32.calls k a0_4 t13 _ A5.out).mono ?_); rintro e w10 ⟨v20, rfl, ho0, hb⟩; refine ⟨_, rfl, ?_⟩; have HO14 := Gv.a0 (Kd.R_lower ho0 (below_size Gv.bw)); replace BK0 := Gv.b1 BK0 hb; replace HB := Gv.hb hb; clear hb ho0))
  go_ret
  exact ⟨_, Gv.rt, Gv.kr HO14.out, Gv.bw⟩
 ·rw [if_neg c4] at H; have c4b0 : (a0_0 == 4) = false := beq_eq_false_iff_ne.mpr c4; have c4b1 : (a0_0 != 4) = true := bne_iff_ne.mpr c4; replace H := Option.bind_eq_some_iff.mp H; obtain ⟨t5, A16, H⟩ := H
  (try dsimp only at H); have A11 := Gv.a0 A16; clear A16; replace H := Option.bind_eq_some_iff.mp H; obtain ⟨t6, A17, H⟩ := H
  (try dsimp only at H); have A12 := Gv.a0 A17; clear A17; replace H := Option.bind_eq_some_iff.mp H; obtain ⟨t7, A18, H⟩ := H
  (try dsimp only at H); have A13 := Gv.a0 A18; clear A18; replace H := Option.bind_eq_some_iff.mp H; obtain ⟨t8, A19, H⟩ := H
  (try dsimp only at H); have A14 := Gv.a0 A19; clear A19; obtain ⟨y2, hy2⟩ : ∃ y_ : List (List Int), y_ = (([t5, t6, t7, t8] : List (List Int))) := ⟨_, rfl⟩
  replace H : ((slices_Concat_byte_byte.f k y2).bind fun t11 => (some t11)) = some r := by first | (rw [hy2]; with_reducible exact H) | (have H2_ := (Option.bind_some _ _).symm.trans H; rw [hy2]; with_reducible exact H2_) | (have H2_ := (Option.bind_some _ _).symm.trans H; with_reducible exact H2_) | with_reducible exact H | (rw [hy2]; exact H) | exact H
  have Ny2 := Gv.a0 hy2; clear hy2; replace H := Option.bind_eq_some_iff.mp H; obtain ⟨t11, A21, H⟩ := H
  (try dsimp only at H); have A15 := Gv.a0 A21; clear A21; obtain rfl := Option.some.inj H
  go_enter Tryz.func85, Tryz.ntmps85
  try go_wp2_with (first | ((with_reducible refine gate_dst (N := 1) rfl ?_); refine Gv.bev 1 23 #[.int .i64 a0_0, .int .i64 a0_1, .int .i64 a0_2, .int .i64 a0_3, .int .i64 a0_4] ?_; intro gb0 hg w16 hbox hb; have BK0 := Gv.a0 (hbox); have GW0 := Gv.a0 ((Gv.ble hg Gv.bw : w.heap.size ≤ gb0)); have GE0 := GW0; replace HB := Gv.hb hb; clear hb hbox hg; obtain ⟨z17_0, z17_1, z17_2, z17_3, z17_4⟩ := Gv.c5 BK0.out; obtain ⟨o17_0, o17_1, o17_2, o17_3, o17_4⟩ := Gv.f5 BK0.out) | ((with_reducible refine gate_callee (f := 87) rfl ?_); refine goesL_ (some 5) rfl rfl Tryz.func87 (by kernel_rfl) rfl #[.agg #[.int .i64 a0_0, .int .i64 a0_1, .int .i64 a0_2, .int .i64 a0_3, .int .i64 a0_4]] rfl Gv.lm ?_; (with_reducible refine (impl_AddrOk.calls a0_0 a0_1 a0_2 a0_3 a0_4 true _ A2.out).mono ?_); rintro e w18 ⟨rfl, hb⟩; refine ⟨_, rfl, ?_⟩; replace BK0 := Gv.b1 BK0 hb; replace HB := Gv.hb hb; clear hb; obtain ⟨z19_0, z19_1, z19_2, z19_3, z19_4⟩ := Gv.c5 BK0.out; obtain ⟨o19_0, o19_1, o19_2, o19_3, o19_4⟩ := Gv.f5 BK0.out))
  replace BK0 := Gv.a0 (blk_drew BK0.out); replace HB := Gv.a0 (below_drew1 HB.out); refine start_ (n := 15) (S := fun w' => w'.cell? ⟨gb0, 0, none⟩ = some (.int .i64 a0_0) ∧ w'.cell? ⟨gb0, 1, none⟩ = some (.int .i64 a0_1) ∧ w'.cell? ⟨gb0, 2, none⟩ = some (.int .i64 a0_2) ∧ w'.cell? ⟨gb0, 3, none⟩ = some (.int .i64 a0_3) ∧ w'.cell? ⟨gb0, 4, none⟩ = some (.int .i64 a0_4)) (ds := []) #[false, false, false, false, false, false, false, false, false, false, false, false, false, false, false] (by kernel_rfl) rfl rfl Gv.qs (fun hHeld => ?_); refine with_tabW impl_AddrBytes.tab5 impl_AddrBytes.bits5 (fun HT_ HW_ => ?_); generalize w18.drew = w20 at BK0 HB hHeld ⊢; refine Gv.pu 0 (some 14) HT_ ?_; refine Gv.pu 3 (some 17) HT_ ?_; refine Gv.pu 6 (some 20) HT_ ?_; refine Gv.pu 9 (some 23) HT_ ?_; refine take_ (i := 1) (N := some 15) (v := ?_) (a' := ?_) #[true, true, false, true, false, false, true, false, false, true, false, false, false, false, false] rfl rfl (take_ofW HT_.out HW_.out (by kernel_rfl)) (fun _ _ _ h => h) (Or.inl ⟨by rfl, ?_⟩) hHeld ?_ ?_; rotate_left
  ·rintro w' ⟨s0, s1, s2, s3, s4⟩
   go_simp
   with_reducible rfl
  rotate_left
  ·simp only [Act.put, List.setIfInBounds_toArray, List.set_cons_zero, List.set_cons_succ, i64_w, i32_w]
   rfl
  refine take_ (i := 4) (N := some 18) (v := ?_) (a' := ?_) #[true, true, false, true, true, false, true, false, false, true, false, false, false, false, false] rfl rfl (take_ofW HT_.out HW_.out (by kernel_rfl)) (fun _ _ _ h => h) (Or.inl ⟨by rfl, ?_⟩) hHeld ?_ ?_; rotate_left
  ·rintro w' ⟨s0, s1, s2, s3, s4⟩
   go_simp
   with_reducible rfl
  rotate_left
  ·simp only [Act.put, List.setIfInBounds_toArray, List.set_cons_zero, List.set_cons_succ, i64_w, i32_w]
   rfl
  refine take_ (i := 7) (N := some 21) (v := ?_) (a' := ?_) #[true, true, false, true, true, false, true, true, false, true, false, false, false, false, false] rfl rfl (take_ofW HT_.out HW_.out (by kernel_rfl)) (fun _ _ _ h => h) (Or.inl ⟨by rfl, ?_⟩) hHeld ?_ ?_; rotate_left
  ·rintro w' ⟨s0, s1, s2, s3, s4⟩
   go_simp
   with_reducible rfl
  rotate_left
  ·simp only [Act.put, List.setIfInBounds_toArray, List.set_cons_zero, List.set_cons_succ, i64_w, i32_w]
   rfl
  refine take_ (i := 10) (N := some 24) (v := ?_) (a' := ?_) #[true, true, false, true, true, false, true, true, false, true, true, false, false, false, false] rfl rfl (take_ofW HT_.out HW_.out (by kernel_rfl)) (fun _ _ _ h => h) (Or.inl ⟨by rfl, ?_⟩) hHeld ?_ ?_; rotate_left
  ·rintro w' ⟨s0, s1, s2, s3, s4⟩
   go_simp
   with_reducible rfl
  rotate_left
  ·simp only [Act.put, List.setIfInBounds_toArray, List.set_cons_zero, List.set_cons_succ, i64_w, i32_w]
   rfl
  refine one_ (i := 2) (N := some 16) #[true, true, true, true, true, false, true, true, false, true, true, false, false, false, false] rfl rfl (one_of HT_.out (by kernel_rfl)) (by decide) (fun K hK => ?_); refine goes_ Tryz.func100 (by kernel_rfl) rfl #[.int .i64 a0_1] (by rfl) rfl rfl Gv.lm ?_
  with_reducible refine (impl_Put32.calls k a0_1 t5 _ A11.out).mono ?_
  rintro e w21 ⟨v22, rfl, ho0, hb⟩; refine ⟨_, rfl, ?_⟩; have HO1 := Gv.a0 (Kd.R_lower ho0 (below_size Gv.bw)); replace BK0 := Gv.b1 BK0 hb; replace HB := Gv.hb hb
  (try clear hb)
  (try clear hb2)
  (try clear hk)
  (try clear hi)
  (try clear ho0); refine hK.out _ _ Gv.qs (fun hHeld => ?_); clear hK K; refine norm_ (a' := ?_) ?_ ?_; rotate_left
  ·show Act.put _ (some 16) _ = _
   simp only [Act.put, List.setIfInBounds_toArray, List.set_cons_zero, List.set_cons_succ, i64_w, i32_w]
   rfl
  refine one_ (i := 5) (N := some 19) #[true, true, true, true, true, true, true, true, false, true, true, false, false, false, false] rfl rfl (one_of HT_.out (by kernel_rfl)) (by decide) (fun K hK => ?_); refine goes_ Tryz.func100 (by kernel_rfl) rfl #[.int .i64 a0_2] (by rfl) rfl rfl Gv.lm ?_
  with_reducible refine (impl_Put32.calls k a0_2 t6 _ A12.out).mono ?_
  rintro e w22 ⟨v23, rfl, ho0, hb⟩; refine ⟨_, rfl, ?_⟩; have HO3 := Gv.a0 (Kd.R_lower (Kd.R_new' ho0 (Kd.R_lt (Gv.kr HO1.out))) (below_size Gv.bw)); replace HO1 := Gv.a0 (Kd.R_elder' (Gv.kr HO1.out) (Kd.R_base ho0) hb); replace BK0 := Gv.b1 BK0 hb; replace HB := Gv.hb hb
  (try clear hb)
  (try clear hb2)
  (try clear hk)
  (try clear hi)
  (try clear ho0); refine hK.out _ _ Gv.qs (fun hHeld => ?_); clear hK K; refine norm_ (a' := ?_) ?_ ?_; rotate_left
  ·show Act.put _ (some 19) _ = _
   simp only [Act.put, List.setIfInBounds_toArray, List.set_cons_zero, List.set_cons_succ, i64_w, i32_w]
   rfl
  refine one_ (i := 8) (N := some 22) #[true, true, true, true, true, true, true, true, true, true, true, false, false, false, false] rfl rfl (one_of HT_.out (by kernel_rfl)) (by decide) (fun K hK => ?_); refine goes_ Tryz.func100 (by kernel_rfl) rfl #[.int .i64 a0_3] (by rfl) rfl rfl Gv.lm ?_
  with_reducible refine (impl_Put32.calls k a0_3 t7 _ A13.out).mono ?_
  rintro e w23 ⟨v24, rfl, ho0, hb⟩; refine ⟨_, rfl, ?_⟩; have HO4 := Gv.a0 (Kd.R_lower (Kd.R_new' (Kd.R_new' ho0 (Kd.R_lt (Gv.kr HO1.out))) (Kd.R_lt (Gv.kr HO3.out))) (below_size Gv.bw)); replace HO1 := Gv.a0 (Kd.R_elder' (Gv.kr HO1.out) (Kd.R_base ho0) hb); replace HO3 := Gv.a0 (Kd.R_elder' (Gv.kr HO3.out) (Kd.R_base ho0) hb); replace BK0 := Gv.b1 BK0 hb; replace HB := Gv.hb hb
  (try clear hb)
  (try clear hb2)
  (try clear hk)
  (try clear hi)
  (try clear ho0); refine hK.out _ _ Gv.qs (fun hHeld => ?_); clear hK K; refine norm_ (a' := ?_) ?_ ?_; rotate_left
  ·show Act.put _ (some 22) _ = _
   simp only [Act.put, List.setIfInBounds_toArray, List.set_cons_zero, List.set_cons_succ, i64_w, i32_w]
   rfl
  refine one_ (i := 11) (N := some 25) #[true, true, true, true, true, true, true, true, true, true, true, true, false, false, false] rfl rfl (one_of HT_.out (by kernel_rfl)) (by decide) (fun K hK => ?_); refine goes_ Tryz.func100 (by kernel_rfl) rfl #[.int .i64 a0_4] (by rfl) rfl rfl Gv.lm ?_
  with_reducible refine (impl_Put32.calls k a0_4 t8 _ A14.out).mono ?_
  rintro e w24 ⟨v25, rfl, ho0, hb⟩; refine ⟨_, rfl, ?_⟩; have HO10 := Gv.a0 (Kd.R_lower (Kd.R_new' (Kd.R_new' (Kd.R_new' ho0 (Kd.R_lt (Gv.kr HO1.out))) (Kd.R_lt (Gv.kr HO3.out))) (Kd.R_lt (Gv.kr HO4.out))) (below_size Gv.bw)); replace HO1 := Gv.a0 (Kd.R_elder' (Gv.kr HO1.out) (Kd.R_base ho0) hb); replace HO3 := Gv.a0 (Kd.R_elder' (Gv.kr HO3.out) (Kd.R_base ho0) hb); replace HO4 := Gv.a0 (Kd.R_elder' (Gv.kr HO4.out) (Kd.R_base ho0) hb); replace BK0 := Gv.b1 BK0 hb; replace HB := Gv.hb hb
  (try clear hb)
  (try clear hb2)
  (try clear hk)
  (try clear hi)
  (try clear ho0); obtain ⟨Ao25, co25, eo25⟩ := Kd.R_slice HO1.out
  (first | subst eo25 | (injection eo25 with f1_ f2_ f3_; have f4_ := f1_.symm; have f5_ := f3_.symm; clear f1_ f2_ f3_; subst f4_; subst f5_)); obtain ⟨Ao26, co26, eo26⟩ := Kd.R_slice HO3.out
  (first | subst eo26 | (injection eo26 with f1_ f2_ f3_; have f4_ := f1_.symm; have f5_ := f3_.symm; clear f1_ f2_ f3_; subst f4_; subst f5_)); obtain ⟨Ao27, co27, eo27⟩ := Kd.R_slice HO4.out
  (first | subst eo27 | (injection eo27 with f1_ f2_ f3_; have f4_ := f1_.symm; have f5_ := f3_.symm; clear f1_ f2_ f3_; subst f4_; subst f5_)); obtain ⟨Ao28, co28, eo28⟩ := Kd.R_slice HO10.out
  (first | subst eo28 | (injection eo28 with f1_ f2_ f3_; have f4_ := f1_.symm; have f5_ := f3_.symm; clear f1_ f2_ f3_; subst f4_; subst f5_)); refine hK.out _ _ Gv.qs (fun hHeld => ?_); clear hK K; refine norm_ (a' := ?_) ?_ ?_; rotate_left
  ·show Act.put _ (some 25) _ = _
   simp only [Act.put, List.setIfInBounds_toArray, List.set_cons_zero, List.set_cons_succ, i64_w, i32_w]
   rfl
  refine one_ (i := 12) (N := some 26) #[true, true, true, true, true, true, true, true, true, true, true, true, true, false, false] rfl rfl (one_of HT_.out (by kernel_rfl)) (by decide) (fun K hK => ?_); refine Kd.N_lit_step (Kd.slice 5 (Kd.int .u8)) _ 62 ?hg (N' := 26) ?hd (xs := ([t5, t6, t7, t8] : List (List Int))) (inner := [.slice Ao25 t5.length co25, .slice Ao26 t6.length co26, .slice Ao27 t7.length co27, .slice Ao28 t8.length co28]) (ok := (fun k_ => k_ ≠ gb0)) (okp := (fun k_ => k_ ≠ gb0)) ?hr ?hp (fun _ hk => hk) ((show ∀ k_, w24.heap.size ≤ k_ → (fun k_ => k_ ≠ gb0) k_ from fun k_ hk => Kd.freshB (g := gb0) (o := .cells #[.int .i64 a0_0, .int .i64 a0_1, .int .i64 a0_2, .int .i64 a0_3, .int .i64 a0_4] 23 (0, 0)) Gv.bk k_ hk) _ (Nat.le_refl _)) (Below.refl _ _) (Nat.le_refl _) (by simp) ?_; (case hd => rfl); (case hg => rfl); (case hr => first | (go_simp; done) | (go_simp; rfl)); (case hp => exact (Reps.one (show Kd.FK (Kd.slice 5 (Kd.int .u8)) _ _ t5 [.slice Ao25 t5.length co25] from (Kd.FK_slice_mk (Kd.R_reads' (Kd.R_mono (ok' := (fun k_ => k_ ≠ gb0)) (Kd.R_types (HO1.out) BK0.out (by decide)) (fun k_ hk => hk.2))).2.1 (Kd.R_F (Kd.R_mono (ok' := (fun k_ => k_ ≠ gb0)) (Kd.R_types (HO1.out) BK0.out (by decide)) (fun k_ hk => hk.2))))) (Reps.one (show Kd.FK (Kd.slice 5 (Kd.int .u8)) _ _ t6 [.slice Ao26 t6.length co26] from (Kd.FK_slice_mk (Kd.R_reads' (Kd.R_mono (ok' := (fun k_ => k_ ≠ gb0)) (Kd.R_types (HO3.out) BK0.out (by decide)) (fun k_ hk => hk.2))).2.1 (Kd.R_F (Kd.R_mono (ok' := (fun k_ => k_ ≠ gb0)) (Kd.R_types (HO3.out) BK0.out (by decide)) (fun k_ hk => hk.2))))) (Reps.one (show Kd.FK (Kd.slice 5 (Kd.int .u8)) _ _ t7 [.slice Ao27 t7.length co27] from (Kd.FK_slice_mk (Kd.R_reads' (Kd.R_mono (ok' := (fun k_ => k_ ≠ gb0)) (Kd.R_types (HO4.out) BK0.out (by decide)) (fun k_ hk => hk.2))).2.1 (Kd.R_F (Kd.R_mono (ok' := (fun k_ => k_ ≠ gb0)) (Kd.R_types (HO4.out) BK0.out (by decide)) (fun k_ hk => hk.2))))) (Reps.one (show Kd.FK (Kd.slice 5 (Kd.int .u8)) _ _ t8 [.slice Ao28 t8.length co28] from (Kd.FK_slice_mk (Kd.R_reads' (Kd.R_mono (ok' := (fun k_ => k_ ≠ gb0)) (Kd.R_types (HO10.out) BK0.out (by decide)) (fun k_ hk => hk.2))).2.1 (Kd.R_F (Kd.R_mono (ok' := (fun k_ => k_ ≠ gb0)) (Kd.R_types (HO10.out) BK0.out (by decide)) (fun k_ hk => hk.2))))) (Reps.none _ _)))))); intro v26 w29 ho30 hb hg_ hnew_; clear hg_ hnew_
  (first | rw [← Ny2.out] at ho30 | (simp only [Int.reduceToNat] at ho30; rw [← Ny2.out] at ho30)); have HO9 := Gv.a0 (Kd.N_lower ho30 (below_size Gv.bw)); replace BK0 := Gv.b1 BK0 hb; replace HB := Gv.hb hb; clear HO1 HO3 HO4 HO10 hb ho30; obtain ⟨Ao31, co31, eo31⟩ := Kd.N_slice HO9.out
  (first | subst eo31 | (injection eo31 with f1_ f2_ f3_; have f4_ := f1_.symm; have f5_ := f3_.symm; clear f1_ f2_ f3_; subst f4_; subst f5_)); refine hK.out _ _ Gv.qs (fun hHeld => ?_); clear hK K; refine norm_ (a' := ?_) ?_ ?_; rotate_left
  ·show Act.put _ (some 26) _ = _
   simp only [Act.put, List.setIfInBounds_toArray, List.set_cons_zero, List.set_cons_succ, i64_w, i32_w]
   rfl
  refine one_ (i := 13) (N := some 27) #[true, true, true, true, true, true, true, true, true, true, true, true, true, true, false] rfl rfl (one_of HT_.out (by kernel_rfl)) (by decide) (fun K hK => ?_); refine goes_ Tryz.func101 (by kernel_rfl) rfl #[.slice Ao31 y2.length co31] (by rfl) rfl rfl Gv.lm ?_
  with_reducible refine (slices_Concat_byte_byte.calls k _ _ y2 t11 _ ?side1 ?side2 A15.out).mono ?_
  (case side1 => repeat (first | exact (Kd.N_reads' HO9.out).2.2 | (with_reducible refine Kd.C_alloc ?_ _) | (with_reducible refine Kd.C_drewN ?_ _) | (with_reducible refine Kd.C_drew ?_)))
  (case side2 => exact (Kd.N_reads' HO9.out).2.1)
  rintro e w32 ⟨v27, rfl, ho0, hb⟩; refine ⟨_, rfl, ?_⟩; replace HO9 := Gv.a0 (Kd.N_elder' (by (with_reducible repeat (first | apply Kd.N_alloc | apply Kd.N_drewN | apply Kd.N_drew)); exact HO9.out) (Kd.R_base ho0) hb); have HO15 := Gv.a0 (Kd.R_lower ho0 (below_size Gv.bw)); replace BK0 := Gv.b1 BK0 hb; replace HB := Gv.hb hb
  (try clear hb)
  (try clear hb2)
  (try clear hk)
  (try clear hi)
  (try clear ho0); refine hK.out _ _ Gv.qs (fun hHeld => ?_); clear hK K; refine norm_ (a' := ?_) ?_ ?_; rotate_left
  ·show Act.put _ (some 27) _ = _
   simp only [Act.put, List.setIfInBounds_toArray, List.set_cons_zero, List.set_cons_succ, i64_w, i32_w]
   rfl
  refine Gv.pu 14 (some 2) HT_ ?_; refine done_ (done_of HT_.out (by kernel_rfl)) ?_
  try go_wp2
  go_ret
  exact ⟨_, Gv.rt, Gv.kr HO15.out, Gv.bw⟩
/-! ### strconv_FormatInt: function 86 -/
def strconv_FormatInt.f (a0 : Int) (a1 : Int) : Option (ByteArray) := if 0 ≤ a0 ∧ a0 < 65536 ∧ a1 = 16 then some (⟨(Fb.hexL a0.toNat).toArray⟩ : ByteArray) else none
set_option maxHeartbeats 8000000 in
set_option maxRecDepth 100000 in
theorem strconv_FormatInt.calls (a0 : Int) (a1 : Int) (r : ByteArray) (w : World) (hE : La.Env w) (h : strconv_FormatInt.f a0 a1 = some r) :
  Calls Tryz.prog 86 #[.int .i64 a0, .int .i64 a1] w fun e w' => e = .returned (.string r) ∧ Below w.heap.size w w' := by
 exact La.formatInt a0 a1 r w hE h

/-! ### impl_AddrText: function 55 -/
mutual
def impl_AddrText.l0 : Nat → List ByteArray → List Int → Int → Int → Option (ByteArray)
 | 0, _, _, _, _ => none
 | k + 1, x4, x14, x15, x16 => if x16 < x15 then (if 0 ≤ x16 then (if x16 < (x14.length : Int) then ((impl_NumText.f (wrap64 (rd x14 x16))).bind fun t408 => (if x4.length < 8796093022208 then (impl_AddrText.l0 k (x4 ++ [t408]) x14 x15 (wrap64 (x16 + 1))) else (none))) else (none)) else (none)) else ((strings_Join.f x4 (⟨#[46]⟩ : ByteArray)).bind fun t412 => (some t412))
def impl_AddrText.l1 : Nat → List Int → List ByteArray → Int → Option (ByteArray)
 | 0, _, _, _ => none
 | k + 1, x3, x4, x7 => if x7 < (x3.length : Int) then (if 0 ≤ x7 then (if x7 ≤ (wrap64 (x7 + 2)) then (if (wrap64 (x7 + 2)) ≤ (x3.length : Int) then ((impl_beOf.f k ((x3.take ((wrap64 (x7 + 2)) : Int).toNat).drop (x7 : Int).toNat)).bind fun t417 => ((strconv_FormatInt.f t417 16).bind fun t418 => (if x4.length < 8796093022208 then (impl_AddrText.l1 k x3 (x4 ++ [t418]) (wrap64 (x7 + 2))) else (none)))) else (none)) else (none)) else (none)) else ((strings_Join.f x4 (⟨#[58]⟩ : ByteArray)).bind fun t422 => (some t422))
end
def impl_AddrText.f (k : Nat) (a0_0 : Int) (a0_1 : Int) (a0_2 : Int) (a0_3 : Int) (a0_4 : Int) : Option (ByteArray) := (impl_AddrBytes.f k a0_0 a0_1 a0_2 a0_3 a0_4).bind fun t401 => ((some (([] : List ByteArray) : List ByteArray)).bind fun y404 => (if a0_0 = 4 then (impl_AddrText.l0 k y404 t401 (t401.length : Int) 0) else (impl_AddrText.l1 k t401 y404 0)))
set_option maxHeartbeats 8000000 in
set_option maxRecDepth 100000 in
theorem impl_AddrText.calls (k : Nat) (a0_0 : Int) (a0_1 : Int) (a0_2 : Int) (a0_3 : Int) (a0_4 : Int) (r : ByteArray) (w : World) (hE : La.Env w) (h : impl_AddrText.f k a0_0 a0_1 a0_2 a0_3 a0_4 = some r) :
  Calls Tryz.prog 55 #[.agg #[.int .i64 a0_0, .int .i64 a0_1, .int .i64 a0_2, .int .i64 a0_3, .int .i64 a0_4]] w fun e w' => e = .returned (.string r) ∧ Below w.heap.size w w' := by
 have hu23 := Tryz.underlying23; replace hE := Aside0.mk hE; have HB := Gv.a0 (Below.refl w.heap.size w); unfold impl_AddrText.f at h; have H := h; clear h; replace H := Option.bind_eq_some_iff.mp H; obtain ⟨t1, A20, H⟩ := H
 (try dsimp only at H); have A2 := Gv.a0 A20; clear A20; obtain ⟨y3, hy3⟩ : ∃ y_ : List ByteArray, y_ = (([] : List ByteArray)) := ⟨_, rfl⟩
 replace H : (if a0_0 = 4 then (impl_AddrText.l0 k y3 t1 (t1.length : Int) 0) else (impl_AddrText.l1 k t1 y3 0)) = some r := by first | (rw [hy3]; with_reducible exact H) | (have H2_ := (Option.bind_some _ _).symm.trans H; rw [hy3]; with_reducible exact H2_) | (have H2_ := (Option.bind_some _ _).symm.trans H; with_reducible exact H2_) | with_reducible exact H | (rw [hy3]; exact H) | exact H
 have Ny3 := Gv.a0 hy3; clear hy3
 by_cases c3 : a0_0 = 4
 ·rw [if_pos c3] at H; have c3b0 : (a0_0 == 4) = true := beq_iff_eq.mpr c3; have c3b1 : (a0_0 != 4) = false := bne_eq_false_iff_eq.mpr c3; clear c3; have H' := Gv.a0 H; clear H
  go_enter Tryz.func55, Tryz.ntmps55
  go_wp2_with (first | ((with_reducible refine gate_dst (N := 1) rfl ?_); refine Gv.bev 1 23 #[.int .i64 a0_0, .int .i64 a0_1, .int .i64 a0_2, .int .i64 a0_3, .int .i64 a0_4] ?_; intro gb0 hg w4 hbox hb; have BK0 := Gv.a0 (hbox); have GW0 := Gv.a0 ((Gv.ble hg Gv.bw : w.heap.size ≤ gb0)); have GE0 := GW0; replace HB := Gv.hb hb; clear hb hbox hg; obtain ⟨z5_0, z5_1, z5_2, z5_3, z5_4⟩ := Gv.c5 BK0.out; obtain ⟨o5_0, o5_1, o5_2, o5_3, o5_4⟩ := Gv.f5 BK0.out) | ((with_reducible refine gate_callee (f := 85) rfl ?_); refine goesL_ (some 9) rfl rfl Tryz.func85 (by kernel_rfl) rfl #[.agg #[.int .i64 a0_0, .int .i64 a0_1, .int .i64 a0_2, .int .i64 a0_3, .int .i64 a0_4]] rfl Gv.lm ?_; (with_reducible refine (impl_AddrBytes.calls k a0_0 a0_1 a0_2 a0_3 a0_4 t1 _ A2.out).mono ?_); rintro e w6 ⟨v14, rfl, ho0, hb⟩; refine ⟨_, rfl, ?_⟩; have HO7 := Gv.a0 (Kd.R_lower ho0 (below_size Gv.bw)); replace BK0 := Gv.b1 BK0 hb; replace HB := Gv.hb hb; clear hb ho0) | ((with_reducible refine gate_dst (N := 10) rfl ?_); refine Kd.R_lit Kd.string _ 9 ?hg (N := 10) ?hd (xs := ([] : List ByteArray)) (inner := []) (ok := fun _ => True) (okp := fun _ => True) ?hr ?hp (fun _ hk => hk) trivial (Below.refl _ _) (Nat.le_refl _) (by simp) ?_; (case hd => rfl); (case hg => rfl); (case hr => first | (go_simp; done) | (go_simp; rfl)); (case hp => exact (Reps.none _ _)); intro v18 w7 ho8 hb hg_ hnew_; clear hg_ hnew_; (first | rw [← Ny3.out] at ho8 | (simp only [Int.reduceToNat] at ho8; rw [← Ny3.out] at ho8)); replace HO7 := Gv.a0 (Kd.R_below (Gv.kr HO7.out) hb); have HO13 := Gv.a0 (Kd.R_lower ho8 (below_size Gv.bw)); replace BK0 := Gv.b1 BK0 hb; replace HB := Gv.hb hb; clear hb ho8; obtain ⟨z9_0, z9_1, z9_2, z9_3, z9_4⟩ := Gv.c5 BK0.out; obtain ⟨o9_0, o9_1, o9_2, o9_3, o9_4⟩ := Gv.f5 BK0.out; obtain ⟨Ao10, co10, eo10⟩ := Kd.R_slice HO7.out; subst eo10))
  go_loopg [4, 16] k (fun kq v4 v16 w' => ∃ (x4_1 : List ByteArray) (x16_1 : Int), v16 = .int .i64 x16_1 ∧ Aside0 (impl_AddrText.l0 kq x4_1 t1 (t1.length : Int) x16_1 = some r) ∧ Aside0 (kq ≤ k) ∧ Aside0 (Kd.R Kd.string 9 w' w.heap.size (fun _ => True) v4 x4_1) ∧ Aside0 (Kd.R (Kd.int .u8) 5 w' w.heap.size (fun _ => True) (.slice Ao10 t1.length co10) t1) ∧ Aside0 (w'.heap[gb0]? = some (.cells #[.int .i64 a0_0, .int .i64 a0_1, .int .i64 a0_2, .int .i64 a0_3, .int .i64 a0_4] 23 (0, 0))) ∧ Aside0 (Below w.heap.size w w'))
  case atStart => exact ⟨(y3), (0), Gv.rq, H', ⟨Nat.le_refl _⟩, ⟨Gv.kr HO13.out⟩, ⟨Gv.kr HO7.out⟩, ⟨by (with_reducible repeat (first | refine blk_drewN ?_ _ | refine blk_drew ?_ | refine blk_alloc ?_ _)); exact BK0.out⟩, ⟨Gv.bw⟩⟩
  case round =>
   clear H'
   try clear p2
   try clear c3
   try clear c3b0
   try clear c3b1
   try clear c5
   try clear c8
   try clear z5_0 z5_1 z5_2 z5_3 z5_4
   try clear z9_0 z9_1 z9_2 z9_3 z9_4
   try clear o5_0 o5_1 o5_2 o5_3 o5_4
   try clear o9_0 o9_1 o9_2 o9_3 o9_4
   obtain ⟨x4_1, x16_1, rfl, HA, HK1, HO_4, HO_14, BK0, HB⟩ := hrel; cases gk with
   | zero => exact absurd HA.out (by simp [impl_AddrText.l0])
   | succ k1 =>
    have H := HA.out; clear HA; simp only [impl_AddrText.l0] at H
    by_cases c11 : x16_1 < (t1.length : Int)
    ·rw [if_pos c11] at H; have c11b0 := decide_eq_true c11; clear c11
     by_cases c12 : 0 ≤ x16_1
     rotate_left
     ·rw [if_neg c12] at H; cases H
     rw [if_pos c12] at H; have c12b0 := decide_eq_true c12; clear c12
     by_cases c13 : x16_1 < (t1.length : Int)
     rotate_left
     ·rw [if_neg c13] at H; cases H
     rw [if_pos c13] at H; have c13b0 := decide_eq_true c13; clear c13; replace H := Option.bind_eq_some_iff.mp H; obtain ⟨t11, A15, H⟩ := H
     (try dsimp only at H); have A14 := Gv.a0 A15; clear A15
     by_cases c15 : x4_1.length < 8796093022208
     ·rw [if_pos c15] at H; have LMc15 := Gv.a0 c15; clear c15; obtain ⟨y4, hy4⟩ : ∃ y_ : List ByteArray, y_ = (x4_1 ++ [t11]) := ⟨_, rfl⟩
      replace H : (impl_AddrText.l0 k1 y4 t1 (t1.length : Int) (wrap64 (x16_1 + 1))) = some r := by first | (rw [hy4]; with_reducible exact H) | (have H2_ := (Option.bind_some _ _).symm.trans H; rw [hy4]; with_reducible exact H2_) | (have H2_ := (Option.bind_some _ _).symm.trans H; with_reducible exact H2_) | with_reducible exact H | (rw [hy4]; exact H) | exact H
      have Ny4 := Gv.a0 hy4; clear hy4; have H' := Gv.a0 H; clear H; have p5 : 0 ≤ (x16_1 : Int) := Gv.od; have q5 : x16_1 < (t1.length : Int) := Gv.od; obtain ⟨ad5, e5, u5_0⟩ := Kd.at_int (Kd.R_reads' HO_14.out).2.2 x16_1 p5 q5; cases e5; replace p5 := eq_true p5; replace q5 := eq_true q5
      go_wp2_with (first | ((with_reducible refine gate_callee (f := 29) rfl ?_); refine goesL_ (some 23) rfl rfl Tryz.func29 (by kernel_rfl) rfl #[.int .i64 (wrap64 (rd t1 x16_1))] rfl Gv.lm ?_; (with_reducible refine (impl_NumText.calls (wrap64 (rd t1 x16_1)) t11 _ (hE.out.below Gv.bw) A14.out).mono ?_); rintro e w16 ⟨rfl, hb⟩; refine ⟨_, rfl, ?_⟩; replace HO_4 := Gv.a0 (Kd.R_below (Gv.kr HO_4.out) hb); replace HO_14 := Gv.a0 (Kd.R_below (Gv.kr HO_14.out) hb); replace BK0 := Gv.b1 BK0 hb; replace HB := Gv.hb hb; clear hb) | ((with_reducible refine gate_builtin (b := .append) (xs := #[.tmp 20, .tmp 24]) rfl ?_); at_builtin; refine Kd.R_append Kd.string (w0 := w) w.heap.size rfl (.tmp 20) (.tmp 24) 32 9 (.string ⟨#[]⟩) 16 rfl Tryz.underlying32 info9 rfl (by decide) (by omega) u4 x4_1 t11 [.string t11] (fun _ => True) (fun _ => False) rfl rfl ?aP (fun _ hk => hk.elim) ?aF ?aO ?aB ?aS ?aL ?_; (case aP => exact rfl); (case aB => exact Gv.bw); (case aF => exact (fun _ _ => trivial)); (case aO => exact (Gv.kr HO_4.out)); (case aS => exact (below_size Gv.bw)); (case aL => have := LMc15.out; omega); intro v25 w17 ho hb hg hat; rw [← Ny4.out] at ho; replace HO_14 := Gv.a0 (Kd.R_over' (Gv.kr HO_14.out) (Kd.R_typed (Gv.kr HO_4.out)) (by decide) hg); replace BK0 := Gv.a0 (blk_grown (g := gb0) (o := .cells #[.int .i64 a0_0, .int .i64 a0_1, .int .i64 a0_2, .int .i64 a0_3, .int .i64 a0_4] 23 (0, 0)) Gv.bk hg (Kd.R_ne HO_4.out BK0.out (by decide))); replace HB := Gv.a0 (hb); have HO20 := Gv.a0 (ho); clear HO_4 ho hb hg hat))
      go_roundg k1
      case measure => have := HK1.out; omega
      case rel => exact ⟨(y4), (wrap64 (x16_1 + 1)), Gv.rq, H', ⟨by have := HK1.out; omega⟩, ⟨Gv.kr HO20.out⟩, ⟨Gv.kr HO_14.out⟩, ⟨by (with_reducible repeat (first | refine blk_drewN ?_ _ | refine blk_drew ?_ | refine blk_alloc ?_ _)); exact BK0.out⟩, ⟨Gv.bw⟩⟩
     ·rw [if_neg c15] at H; cases H
    ·rw [if_neg c11] at H; have c11b0 := decide_eq_false c11; clear c11; replace H := Option.bind_eq_some_iff.mp H; obtain ⟨t22, A16, H⟩ := H
     (try dsimp only at H); have A18 := Gv.a0 A16; clear A16; obtain rfl := Option.some.inj H; obtain ⟨Ao19, co19, eo19⟩ := Kd.R_slice HO_4.out; subst eo19
     go_wp2_with (first | ((with_reducible refine gate_callee (f := 34) rfl ?_); refine goesL_ (some 28) rfl rfl Tryz.func34 (by kernel_rfl) rfl #[.slice Ao19 x4_1.length co19, .string (⟨#[46]⟩ : ByteArray)] rfl Gv.lm ?_; (with_reducible refine (strings_Join.calls _ _ x4_1 (⟨#[46]⟩ : ByteArray) t22 _ ?side1 ?side2 A18.out).mono ?_); (case side1 => repeat (first | exact (Kd.R_reads' HO_4.out).2.2 | (with_reducible refine Kd.C_alloc ?_ _) | (with_reducible refine Kd.C_drewN ?_ _) | (with_reducible refine Kd.C_drew ?_))); (case side2 => exact (Kd.R_reads' HO_4.out).2.1); rintro e w20 ⟨rfl, hb⟩; refine ⟨_, rfl, ?_⟩; replace HO_4 := Gv.a0 (Kd.R_below (Gv.kr HO_4.out) hb); replace HO_14 := Gv.a0 (Kd.R_below (Gv.kr HO_14.out) hb); replace BK0 := Gv.b1 BK0 hb; replace HB := Gv.hb hb; clear hb))
     go_ret
     exact ⟨Gv.rt, Gv.bw⟩
 ·rw [if_neg c3] at H; have c3b0 : (a0_0 == 4) = false := beq_eq_false_iff_ne.mpr c3; have c3b1 : (a0_0 != 4) = true := bne_iff_ne.mpr c3; have H' := Gv.a0 H; clear H
  go_enter Tryz.func55, Tryz.ntmps55
  go_wp2_with (first | ((with_reducible refine gate_dst (N := 1) rfl ?_); refine Gv.bev 1 23 #[.int .i64 a0_0, .int .i64 a0_1, .int .i64 a0_2, .int .i64 a0_3, .int .i64 a0_4] ?_; intro gb0 hg w21 hbox hb; have BK0 := Gv.a0 (hbox); have GW0 := Gv.a0 ((Gv.ble hg Gv.bw : w.heap.size ≤ gb0)); have GE0 := GW0; replace HB := Gv.hb hb; clear hb hbox hg; obtain ⟨z22_0, z22_1, z22_2, z22_3, z22_4⟩ := Gv.c5 BK0.out; obtain ⟨o22_0, o22_1, o22_2, o22_3, o22_4⟩ := Gv.f5 BK0.out) | ((with_reducible refine gate_callee (f := 85) rfl ?_); refine goesL_ (some 9) rfl rfl Tryz.func85 (by kernel_rfl) rfl #[.agg #[.int .i64 a0_0, .int .i64 a0_1, .int .i64 a0_2, .int .i64 a0_3, .int .i64 a0_4]] rfl Gv.lm ?_; (with_reducible refine (impl_AddrBytes.calls k a0_0 a0_1 a0_2 a0_3 a0_4 t1 _ A2.out).mono ?_); rintro e w23 ⟨v14, rfl, ho0, hb⟩; refine ⟨_, rfl, ?_⟩; have HO7 := Gv.a0 (Kd.R_lower ho0 (below_size Gv.bw)); replace BK0 := Gv.b1 BK0 hb; replace HB := Gv.hb hb; clear hb ho0) | ((with_reducible refine gate_dst (N := 10) rfl ?_); refine Kd.R_lit Kd.string _ 9 ?hg (N := 10) ?hd (xs := ([] : List ByteArray)) (inner := []) (ok := fun _ => True) (okp := fun _ => True) ?hr ?hp (fun _ hk => hk) trivial (Below.refl _ _) (Nat.le_refl _) (by simp) ?_; (case hd => rfl); (case hg => rfl); (case hr => first | (go_simp; done) | (go_simp; rfl)); (case hp => exact (Reps.none _ _)); intro v18 w24 ho25 hb hg_ hnew_; clear hg_ hnew_; (first | rw [← Ny3.out] at ho25 | (simp only [Int.reduceToNat] at ho25; rw [← Ny3.out] at ho25)); replace HO7 := Gv.a0 (Kd.R_below (Gv.kr HO7.out) hb); have HO13 := Gv.a0 (Kd.R_lower ho25 (below_size Gv.bw)); replace BK0 := Gv.b1 BK0 hb; replace HB := Gv.hb hb; clear hb ho25; obtain ⟨z26_0, z26_1, z26_2, z26_3, z26_4⟩ := Gv.c5 BK0.out; obtain ⟨o26_0, o26_1, o26_2, o26_3, o26_4⟩ := Gv.f5 BK0.out))
  go_loopg [4, 7] k (fun kq v4 v7 w' => ∃ (x4_1 : List ByteArray) (x7_1 : Int), v7 = .int .i64 x7_1 ∧ Aside0 (impl_AddrText.l1 kq t1 x4_1 x7_1 = some r) ∧ Aside0 (kq ≤ k) ∧ Aside0 (Kd.R (Kd.int .u8) 5 w' w.heap.size (fun _ => True) v14 t1) ∧ Aside0 (Kd.R Kd.string 9 w' w.heap.size (fun _ => True) v4 x4_1) ∧ Aside0 (w'.heap[gb0]? = some (.cells #[.int .i64 a0_0, .int .i64 a0_1, .int .i64 a0_2, .int .i64 a0_3, .int .i64 a0_4] 23 (0, 0))) ∧ Aside0 (Below w.heap.size w w'))
  case atStart => exact ⟨(y3), (0), Gv.rq, H', ⟨Nat.le_refl _⟩, ⟨Gv.kr HO7.out⟩, ⟨Gv.kr HO13.out⟩, ⟨by (with_reducible repeat (first | refine blk_drewN ?_ _ | refine blk_drew ?_ | refine blk_alloc ?_ _)); exact BK0.out⟩, ⟨Gv.bw⟩⟩
  case round =>
   clear H'
   try clear c1
   try clear c2
   try clear p2
   try clear c3
   try clear c3b0
   try clear c3b1
   try clear p4
   try clear q4
   try clear hx4
   try clear c5
   try clear p6
   try clear c8
   try clear c11
   try clear c11b0
   try clear c12
   try clear c12b0
   try clear c13
   try clear c13b0
   try clear c15
   try clear z22_0 z22_1 z22_2 z22_3 z22_4
   try clear z26_0 z26_1 z26_2 z26_3 z26_4
   try clear z5_0 z5_1 z5_2 z5_3 z5_4
   try clear z9_0 z9_1 z9_2 z9_3 z9_4
   try clear o22_0 o22_1 o22_2 o22_3 o22_4
   try clear o26_0 o26_1 o26_2 o26_3 o26_4
   try clear o5_0 o5_1 o5_2 o5_3 o5_4
   try clear o9_0 o9_1 o9_2 o9_3 o9_4
   try clear u5_0
   try clear p2
   try clear p5
   try clear q5
   obtain ⟨x4_1, x7_1, rfl, HA, HK1, HO_3, HO_4, BK0, HB⟩ := hrel; cases gk with
   | zero => exact absurd HA.out (by simp [impl_AddrText.l1])
   | succ k1 =>
    have H := HA.out; clear HA; simp only [impl_AddrText.l1] at H
    by_cases c27 : x7_1 < (t1.length : Int)
    ·rw [if_pos c27] at H; have c27b0 := decide_eq_true c27; clear c27
     by_cases c28 : 0 ≤ x7_1
     rotate_left
     ·rw [if_neg c28] at H; cases H
     rw [if_pos c28] at H; have c28b0 := eq_true c28; have c28b1 := decide_eq_true c28; clear c28
     by_cases c29 : x7_1 ≤ (wrap64 (x7_1 + 2))
     rotate_left
     ·rw [if_neg c29] at H; cases H
     rw [if_pos c29] at H; have c29b0 := eq_true c29; have c29b1 := decide_eq_true c29
     by_cases c30 : (wrap64 (x7_1 + 2)) ≤ (t1.length : Int)
     rotate_left
     ·rw [if_neg c30] at H; cases H
     rw [if_pos c30] at H; have c30b0 := eq_true c30; have c30b1 := decide_eq_true c30; obtain ⟨y2, hy2⟩ : ∃ y_ : List Int, y_ = ((t1.take ((wrap64 (x7_1 + 2)) : Int).toNat).drop (x7_1 : Int).toNat) := ⟨_, rfl⟩
     replace H : ((impl_beOf.f k1 y2).bind fun t10 => ((strconv_FormatInt.f t10 16).bind fun t9 => (if x4_1.length < 8796093022208 then (impl_AddrText.l1 k1 t1 (x4_1 ++ [t9]) (wrap64 (x7_1 + 2))) else (none)))) = some r := by first | (rw [hy2]; with_reducible exact H) | (have H2_ := (Option.bind_some _ _).symm.trans H; rw [hy2]; with_reducible exact H2_) | (have H2_ := (Option.bind_some _ _).symm.trans H; with_reducible exact H2_) | with_reducible exact H | (rw [hy2]; exact H) | exact H
     have Ny2 := Gv.a0 hy2; clear hy2; replace H := Option.bind_eq_some_iff.mp H; obtain ⟨t10, A17, H⟩ := H
     (try dsimp only at H); have A31 := Gv.a0 A17; clear A17; replace H := Option.bind_eq_some_iff.mp H; obtain ⟨t9, A19, H⟩ := H
     (try dsimp only at H); have A32 := Gv.a0 A19; clear A19
     by_cases c33 : x4_1.length < 8796093022208
     rotate_left
     ·rw [if_neg c33] at H; cases H
     rw [if_pos c33] at H; have LMc33 := Gv.a0 c33; clear c33; obtain ⟨y6, hy6⟩ : ∃ y_ : List ByteArray, y_ = (x4_1 ++ [t9]) := ⟨_, rfl⟩
     replace H : (impl_AddrText.l1 k1 t1 y6 (wrap64 (x7_1 + 2))) = some r := by first | (rw [hy6]; with_reducible exact H) | (have H2_ := (Option.bind_some _ _).symm.trans H; rw [hy6]; with_reducible exact H2_) | (have H2_ := (Option.bind_some _ _).symm.trans H; with_reducible exact H2_) | with_reducible exact H | (rw [hy6]; exact H) | exact H
     have Ny6 := Gv.a0 hy6; clear hy6; have H' := Gv.a0 H; clear H; obtain ⟨Ao34, co34, eo34⟩ := Kd.R_slice HO_3.out; subst eo34; have q35 : ((wrap64 (x7_1 + 2)) : Int) ≤ ((t1.length : Int) : Int) := Gv.od; obtain ⟨i035, hi12, _, hsz35, _⟩ := info_parts info5; have hroom35 : t1.length ≤ co34 := (Kd.R_reads' HO_3.out).2.1; have hC35 : Kd.C (Kd.int .u8) _ Ao34 t1.length t1 := (Kd.R_reads' HO_3.out).2.2; have ql35 : (x7_1 : Int) ≤ ((wrap64 (x7_1 + 2)) : Int) := Gv.od; have q12 : (0 : Int) ≤ (x7_1 : Int) := Gv.od; have hcut35 := cut_mid (P := Tryz.prog) 62 5 .i64 .i64 Tryz.underlying62 hi12 1 hsz35 Ao34 t1.length co34 x7_1 (wrap64 (x7_1 + 2)) q12 ql35 q35 hroom35; have hr35 := Kd.C_mid (lo := (x7_1 : Int).toNat) (hi := ((wrap64 (x7_1 + 2)) : Int).toNat) (c := co34) hC35 (by omega) (by omega) hroom35; obtain ⟨A35, hA35⟩ : ∃ A1, A1 = (if co34 = (x7_1 : Int).toNat then Ao34 else (Ao34 : Option Addr).map (·.add ((x7_1 : Int).toNat * 1))) := ⟨_, rfl⟩
     obtain ⟨c35, hc35⟩ : ∃ c1, c1 = co34 - (x7_1 : Int).toNat := ⟨_, rfl⟩
     have hy35 : y2.length = ((wrap64 (x7_1 + 2)) : Int).toNat - (x7_1 : Int).toNat := (by rw [Ny2.out, List.length_drop, List.length_take] <;> omega); rw [show ((t1).take ((wrap64 (x7_1 + 2)) : Int).toNat).drop (x7_1 : Int).toNat = y2 from Ny2.out.symm] at hr35; replace hr35 : Kd.C (Kd.int .u8) _ A35 y2.length y2 := (by rw [hA35]; exact hr35); rw [← hy35, ← hA35, ← hc35] at hcut35; have HR8 := Gv.a0 hr35; have HC8 := Gv.a0 (show y2.length ≤ c35 from by rw [hy35, hc35]; exact Nat.sub_le_sub_right (Nat.le_trans (by omega) hroom35) _); clear hr35 hC35 hroom35 hi12 hsz35 hc35; have KY35 := Gv.a0 hy35; have KA35 := Gv.a0 hA35; clear hy35 hA35; have KL35 := Gv.a0 (show ((wrap64 (x7_1 + 2)) : Int).toNat ≤ t1.length from by omega); have KM35 := Gv.a0 (show (x7_1 : Int).toNat ≤ ((wrap64 (x7_1 + 2)) : Int).toNat from by omega); replace q35 := eq_true q35
     go_wp2_with (first | ((with_reducible refine gate_callee (f := 84) rfl ?_); refine goesL_ (some 41) rfl rfl Tryz.func84 (by kernel_rfl) rfl #[.slice A35 y2.length c35] rfl Gv.lm ?_; (with_reducible refine (impl_beOf.calls k1 _ _ y2 t10 _ ?side1 ?side2 A31.out).mono ?_); (case side1 => repeat (first | exact (by repeat (first | (with_reducible exact HR8.out) | (with_reducible refine Kd.C_alloc ?_ _) | (with_reducible refine Kd.C_drewN ?_ _) | (with_reducible refine Kd.C_drew ?_) | exact HR8.out)) | (with_reducible refine Kd.C_alloc ?_ _) | (with_reducible refine Kd.C_drewN ?_ _) | (with_reducible refine Kd.C_drew ?_))); (case side2 => exact HC8.out); rintro e w' ⟨rfl, ⟨nd, rfl⟩⟩; refine ⟨_, rfl, ?_⟩) | ((with_reducible refine gate_callee (f := 86) rfl ?_); refine goesL_ (some 42) rfl rfl Tryz.func86 (by kernel_rfl) rfl #[.int .i64 t10, .int .i64 16] rfl Gv.lm ?_; (with_reducible refine (strconv_FormatInt.calls t10 16 t9 _ (hE.out.below Gv.bw) A32.out).mono ?_); rintro e w36 ⟨rfl, hb⟩; refine ⟨_, rfl, ?_⟩; replace HO_3 := Gv.a0 (Kd.R_below (Gv.kr HO_3.out) hb); replace HO_4 := Gv.a0 (Kd.R_below (Gv.kr HO_4.out) hb); replace BK0 := Gv.b1 BK0 hb; replace HR8 := Gv.a0 (Kd.C_below (by repeat (first | (with_reducible exact HR8.out) | (with_reducible refine Kd.C_alloc ?_ _) | (with_reducible refine Kd.C_drewN ?_ _) | (with_reducible refine Kd.C_drew ?_) | exact HR8.out)) hb); replace HB := Gv.hb hb; clear hb) | ((with_reducible refine gate_builtin (b := .append) (xs := #[.tmp 35, .tmp 43]) rfl ?_); at_builtin; refine Kd.R_append Kd.string (w0 := w) w.heap.size rfl (.tmp 35) (.tmp 43) 32 9 (.string ⟨#[]⟩) 16 rfl Tryz.underlying32 info9 rfl (by decide) (by omega) u4 x4_1 t9 [.string t9] (fun _ => True) (fun _ => False) rfl rfl ?aP (fun _ hk => hk.elim) ?aF ?aO ?aB ?aS ?aL ?_; (case aP => exact rfl); (case aB => exact Gv.bw); (case aF => exact (fun _ _ => trivial)); (case aO => exact (Gv.kr HO_4.out)); (case aS => exact (below_size Gv.bw)); (case aL => have := LMc33.out; omega); intro v26 w37 ho hb hg hat; rw [← Ny6.out] at ho; replace BK0 := Gv.a0 (blk_grown (g := gb0) (o := .cells #[.int .i64 a0_0, .int .i64 a0_1, .int .i64 a0_2, .int .i64 a0_3, .int .i64 a0_4] 23 (0, 0)) Gv.bk hg (Kd.R_ne HO_4.out BK0.out (by decide))); replace HB := Gv.a0 (hb); replace HR8 := Gv.a0 ((show Kd.C (Kd.int .u8) w37 A35 y2.length y2 from by rw [Ny2.out, KA35.out]; exact Kd.C_mid (lo := (x7_1 : Int).toNat) (hi := ((wrap64 (x7_1 + 2)) : Int).toNat) (c := co34) ((Kd.R_reads' (Kd.R_over' (Gv.kr HO_3.out) (Kd.R_typed (Gv.kr HO_4.out)) (by decide) hg)).2.2) KM35.out KL35.out ((Kd.R_reads' (Kd.R_over' (Gv.kr HO_3.out) (Kd.R_typed (Gv.kr HO_4.out)) (by decide) hg)).2.1))); replace HO_3 := Gv.a0 (Kd.R_over' (Gv.kr HO_3.out) (Kd.R_typed (Gv.kr HO_4.out)) (by decide) hg); have HO23 := Gv.a0 (ho); clear HO_4 ho hb hg hat))
     go_roundg k1
     case measure => have := HK1.out; omega
     case rel => exact ⟨(y6), (wrap64 (x7_1 + 2)), Gv.rq, H', ⟨by have := HK1.out; omega⟩, ⟨Gv.kr HO_3.out⟩, ⟨Gv.kr HO23.out⟩, ⟨by (with_reducible repeat (first | refine blk_drewN ?_ _ | refine blk_drew ?_ | refine blk_alloc ?_ _)); exact BK0.out⟩, ⟨Gv.bw⟩⟩
    ·rw [if_neg c27] at H; have c27b0 := decide_eq_false c27; clear c27; replace H := Option.bind_eq_some_iff.mp H; obtain ⟨t24, A21, H⟩ := H
     (try dsimp only at H); have A38 := Gv.a0 A21; clear A21; obtain rfl := Option.some.inj H; obtain ⟨Ao39, co39, eo39⟩ := Kd.R_slice HO_3.out; subst eo39; obtain ⟨Ao40, co40, eo40⟩ := Kd.R_slice HO_4.out; subst eo40
     go_wp2_with (first | ((with_reducible refine gate_callee (f := 34) rfl ?_); refine goesL_ (some 46) rfl rfl Tryz.func34 (by kernel_rfl) rfl #[.slice Ao40 x4_1.length co40, .string (⟨#[58]⟩ : ByteArray)] rfl Gv.lm ?_; (with_reducible refine (strings_Join.calls _ _ x4_1 (⟨#[58]⟩ : ByteArray) t24 _ ?side1 ?side2 A38.out).mono ?_); (case side1 => repeat (first | exact (Kd.R_reads' HO_4.out).2.2 | (with_reducible refine Kd.C_alloc ?_ _) | (with_reducible refine Kd.C_drewN ?_ _) | (with_reducible refine Kd.C_drew ?_))); (case side2 => exact (Kd.R_reads' HO_4.out).2.1); rintro e w41 ⟨rfl, hb⟩; refine ⟨_, rfl, ?_⟩; replace HO_3 := Gv.a0 (Kd.R_below (Gv.kr HO_3.out) hb); replace HO_4 := Gv.a0 (Kd.R_below (Gv.kr HO_4.out) hb); replace BK0 := Gv.b1 BK0 hb; replace HB := Gv.hb hb; clear hb))
     go_ret
     exact ⟨Gv.rt, Gv.bw⟩

/-! ### impl_AddrRead: function 31 -/
def impl_AddrRead.j0 : Nat → ByteArray → List Int → Option (Int × Int × Int × Int × Int × Bool)
 | 0, _, _ => none
 | k + 1, x0, x4 => (impl_AddrOf.f k x4).bind fun bt437 => (if bt437.2.2.2.2.2 = true then ((impl_AddrText.f k bt437.1 bt437.2.1 bt437.2.2.1 bt437.2.2.2.1 bt437.2.2.2.2.1).bind fun t444 => (if t444.toList = x0.toList then (some (bt437.1, bt437.2.1, bt437.2.2.1, bt437.2.2.2.1, bt437.2.2.2.2.1, true)) else (some (0, 0, 0, 0, 0, false)))) else (some (0, 0, 0, 0, 0, false)))
def impl_AddrRead.f (k : Nat) (a0 : ByteArray) : Option (Int × Int × Int × Int × Int × Bool) := (strings_Split.f a0 (⟨#[46]⟩ : ByteArray)).bind fun t424 => ((impl_bytesRead.f k t424 10 1).bind fun t427 => ((strings_Contains.f a0 (⟨#[58]⟩ : ByteArray)).bind fun t430 => (if t430 = true then ((strings_Split.f a0 (⟨#[58]⟩ : ByteArray)).bind fun t431 => ((impl_bytesRead.f k t431 16 2).bind fun t434 => (impl_AddrRead.j0 k a0 t434))) else (impl_AddrRead.j0 k a0 t427))))
set_option maxHeartbeats 8000000 in
set_option maxRecDepth 100000 in
theorem impl_AddrRead.calls (k : Nat) (a0 : ByteArray) (r1 : Int) (r2 : Int) (r3 : Int) (r4 : Int) (r5 : Int) (r6 : Bool) (w : World) (hE : La.Env w) (h : impl_AddrRead.f k a0 = some (r1, r2, r3, r4, r5, r6)) :
  Calls Tryz.prog 31 #[.string a0] w fun e w' => e = .returned (.tuple #[.agg #[.int .i64 r1, .int .i64 r2, .int .i64 r3, .int .i64 r4, .int .i64 r5], .bool r6]) ∧ Below w.heap.size w w' := by
 have hu23 := Tryz.underlying23; replace hE := Aside0.mk hE; have HB := Gv.a0 (Below.refl w.heap.size w); unfold impl_AddrRead.f at h; have H := h; clear h; replace H := Option.bind_eq_some_iff.mp H; obtain ⟨t11, A20, H⟩ := H
 (try dsimp only at H); have A2 := Gv.a0 A20; clear A20; replace H := Option.bind_eq_some_iff.mp H; obtain ⟨t13, A30, H⟩ := H
 (try dsimp only at H); have A3 := Gv.a0 A30; clear A30; replace H := Option.bind_eq_some_iff.mp H; obtain ⟨t14, A40, H⟩ := H
 (try dsimp only at H); have A4 := Gv.a0 A40; clear A40; have HC5 := Gv.a0 H; clear H
 go_enter Tryz.func31, Tryz.ntmps31
 go_upto_if 11 with (first | ((with_reducible refine gate_dst (N := 2) rfl ?_); refine Gv.bev 2 23 #[.int .i64 0, .int .i64 0, .int .i64 0, .int .i64 0, .int .i64 0] ?_; intro gb0 hg w6 hbox hb; have BK0 := Gv.a0 (hbox); have GW0 := Gv.a0 ((Gv.ble hg Gv.bw : w.heap.size ≤ gb0)); have GE0 := GW0; replace HB := Gv.hb hb; clear hb hbox hg) | ((with_reducible refine gate_callee (f := 13) rfl ?_); refine goesL_ (some 8) rfl rfl Tryz.func13 (by kernel_rfl) rfl #[.string a0, .string (⟨#[46]⟩ : ByteArray)] rfl Gv.lm ?_; (with_reducible refine (strings_Split.calls a0 (⟨#[46]⟩ : ByteArray) t11 _ (hE.out.below Gv.bw) A2.out).mono ?_); rintro e w7 ⟨v20, rfl, ho0, hb⟩; refine ⟨_, rfl, ?_⟩; have HO6 := Gv.a0 (Kd.R_lower ho0 (below_size Gv.bw)); replace BK0 := Gv.b1 BK0 hb; replace HB := Gv.hb hb; clear hb ho0; obtain ⟨Ao8, co8, eo8⟩ := Kd.R_slice HO6.out; subst eo8) | ((with_reducible refine gate_callee (f := 52) rfl ?_); refine goesL_ (some 9) rfl rfl Tryz.func52 (by kernel_rfl) rfl #[.slice Ao8 t11.length co8, .int .i64 10, .int .i64 1] rfl Gv.lm ?_; (with_reducible refine (impl_bytesRead.calls k _ _ t11 10 1 t13 _ (hE.out.below Gv.bw) ?side1 ?side2 A3.out).mono ?_); (case side1 => repeat (first | exact (Kd.R_reads' HO6.out).2.2 | (with_reducible refine Kd.C_alloc ?_ _) | (with_reducible refine Kd.C_drewN ?_ _) | (with_reducible refine Kd.C_drew ?_))); (case side2 => exact (Kd.R_reads' HO6.out).2.1); rintro e w9 ⟨v23, rfl, ho0, hb⟩; refine ⟨_, rfl, ?_⟩; replace HO6 := Gv.a0 (Kd.R_below (Gv.kr HO6.out) hb); have HO8 := Gv.a0 (Kd.R_lower ho0 (below_size Gv.bw)); replace BK0 := Gv.b1 BK0 hb; replace HB := Gv.hb hb; clear hb ho0) | ((with_reducible refine gate_callee (f := 53) rfl ?_); refine goesL_ (some 11) rfl rfl Tryz.func53 (by kernel_rfl) rfl #[.string a0, .string (⟨#[58]⟩ : ByteArray)] rfl Gv.lm ?_; (with_reducible refine (strings_Contains.calls a0 (⟨#[58]⟩ : ByteArray) t14 _ A4.out).mono ?_); rintro e w10 ⟨rfl, hb⟩; refine ⟨_, rfl, ?_⟩; replace HO6 := Gv.a0 (Kd.R_below (Gv.kr HO6.out) hb); replace HO8 := Gv.a0 (Kd.R_below (Gv.kr HO8.out) hb); replace BK0 := Gv.b1 BK0 hb; replace HB := Gv.hb hb; clear hb))
 (try simp only [Act.put, List.setIfInBounds_toArray, List.set_cons_zero, List.set_cons_succ])
 go_cut [4] (fun v4 wc => ∃ (kq : Nat) (x4_4 : List Int), Aside0 (impl_AddrRead.j0 kq a0 x4_4 = some (r1, r2, r3, r4, r5, r6)) ∧ Aside0 (kq ≤ k) ∧ Aside0 (Kd.R (Kd.int .u8) 5 wc w.heap.size (fun _ => True) v4 x4_4) ∧ Aside0 (wc.heap[gb0]? = some (.cells #[.int .i64 0, .int .i64 0, .int .i64 0, .int .i64 0, .int .i64 0] 23 (0, 0))) ∧ Aside0 (Below w.heap.size w wc))
 case first =>
  have H := HC5.out; clear HC5
  by_cases c11 : t14 = true
  ·subst c11; rw [if_pos rfl] at H
   (try dsimp only at H); replace H := Option.bind_eq_some_iff.mp H; obtain ⟨t12, A15, H⟩ := H
   (try dsimp only at H); have A12 := Gv.a0 A15; clear A15; replace H := Option.bind_eq_some_iff.mp H; obtain ⟨t16, A18, H⟩ := H
   (try dsimp only at H); have A13 := Gv.a0 A18; clear A18; have H' := Gv.a0 H; clear H
   go_wp2_with (first | ((with_reducible refine gate_callee (f := 13) rfl ?_); refine goesL_ (some 13) rfl rfl Tryz.func13 (by kernel_rfl) rfl #[.string a0, .string (⟨#[58]⟩ : ByteArray)] rfl Gv.lm ?_; (with_reducible refine (strings_Split.calls a0 (⟨#[58]⟩ : ByteArray) t12 _ (hE.out.below Gv.bw) A12.out).mono ?_); rintro e w14 ⟨v24, rfl, ho0, hb⟩; refine ⟨_, rfl, ?_⟩; replace HO8 := Gv.a0 (Kd.R_below (Gv.kr HO8.out) hb); have HO10 := Gv.a0 (Kd.R_lower (Kd.R_new' ho0 (Kd.R_lt (Gv.kr HO6.out))) (below_size Gv.bw)); replace HO6 := Gv.a0 (Kd.R_elder' (Gv.kr HO6.out) (Kd.R_base ho0) hb); replace BK0 := Gv.b1 BK0 hb; replace HB := Gv.hb hb; clear hb ho0; obtain ⟨Ao15, co15, eo15⟩ := Kd.R_slice HO10.out; subst eo15) | ((with_reducible refine gate_callee (f := 52) rfl ?_); refine goesL_ (some 14) rfl rfl Tryz.func52 (by kernel_rfl) rfl #[.slice Ao15 t12.length co15, .int .i64 16, .int .i64 2] rfl Gv.lm ?_; (with_reducible refine (impl_bytesRead.calls k _ _ t12 16 2 t16 _ (hE.out.below Gv.bw) ?side1 ?side2 A13.out).mono ?_); (case side1 => repeat (first | exact (Kd.R_reads' HO10.out).2.2 | (with_reducible refine Kd.C_alloc ?_ _) | (with_reducible refine Kd.C_drewN ?_ _) | (with_reducible refine Kd.C_drew ?_))); (case side2 => exact (Kd.R_reads' HO10.out).2.1); rintro e w16 ⟨v25, rfl, ho0, hb⟩; refine ⟨_, rfl, ?_⟩; replace HO6 := Gv.a0 (Kd.R_below (Gv.kr HO6.out) hb); replace HO10 := Gv.a0 (Kd.R_below (Gv.kr HO10.out) hb); have HO17 := Gv.a0 (Kd.R_lower (Kd.R_new' ho0 (Kd.R_lt (Gv.kr HO8.out))) (below_size Gv.bw)); replace HO8 := Gv.a0 (Kd.R_elder' (Gv.kr HO8.out) (Kd.R_base ho0) hb); replace BK0 := Gv.b1 BK0 hb; replace HB := Gv.hb hb; clear hb ho0))
   go_meet
   case rel => exact ⟨_, (t16), H', ⟨by first | omega | exact Nat.le_refl _⟩, ⟨by (with_reducible repeat (first | apply Kd.R_alloc | apply Kd.R_drewN | apply Kd.R_drew)); exact Kd.R_mono HO17.out (fun _ hk => trivial)⟩, ⟨by (with_reducible repeat (first | refine blk_drewN ?_ _ | refine blk_drew ?_ | refine blk_alloc ?_ _)); exact BK0.out⟩, ⟨Gv.bw⟩⟩
  ·replace c11 := Bool.eq_false_iff.mpr c11; subst c11; rw [if_neg (show ¬ (false = true) by decide)] at H
   (try dsimp only at H); have H' := Gv.a0 H; clear H
   go_wp2
   go_meet
   case rel => exact ⟨_, (t13), H', ⟨by first | omega | exact Nat.le_refl _⟩, ⟨Gv.kr HO8.out⟩, ⟨by (with_reducible repeat (first | refine blk_drewN ?_ _ | refine blk_drew ?_ | refine blk_alloc ?_ _)); exact BK0.out⟩, ⟨Gv.bw⟩⟩
 case rest =>
  clear HC5
  try clear c1
  try clear p2
  try clear c3
  try clear c5
  try clear c11
  try clear c13
  obtain ⟨kq, x4_4, HA, HJ4, HO_4, BK0, HB⟩ := hcut; cases kq with
  | zero => exact absurd HA.out (by simp [impl_AddrRead.j0])
  | succ kj4 =>
   have H := HA.out; clear HA; simp only [impl_AddrRead.j0] at H; replace H := Option.bind_eq_some_iff.mp H; obtain ⟨⟨t2, t3, t4, t5, t7, t19⟩, A21, H⟩ := H
   (try dsimp only at H); have A17 := Gv.a0 A21; clear A21
   by_cases c18 : t19 = true
   rotate_left
   ·replace c18 := Bool.eq_false_iff.mpr c18; subst c18; rw [if_neg (show ¬ (false = true) by decide)] at H
    (try dsimp only at H); simp only [Option.some.injEq, Prod.mk.injEq] at H; obtain ⟨rfl, rfl, rfl, rfl, rfl, rfl⟩ := H; obtain ⟨Ao36, co36, eo36⟩ := Kd.R_slice HO_4.out; subst eo36
    go_wp2_with (first | ((with_reducible refine gate_callee (f := 54) rfl ?_); refine goesL_ (some 17) rfl rfl Tryz.func54 (by kernel_rfl) rfl #[.slice Ao36 x4_4.length co36] rfl Gv.lm ?_; (with_reducible refine (impl_AddrOf.calls kj4 _ _ x4_4 t2 t3 t4 t5 t7 false _ ?side1 ?side2 A17.out).mono ?_); (case side1 => repeat (first | exact (Kd.R_reads' HO_4.out).2.2 | (with_reducible refine Kd.C_alloc ?_ _) | (with_reducible refine Kd.C_drewN ?_ _) | (with_reducible refine Kd.C_drew ?_))); (case side2 => exact (Kd.R_reads' HO_4.out).2.1); rintro e w37 ⟨rfl, hb⟩; refine ⟨_, rfl, ?_⟩; replace HO_4 := Gv.a0 (Kd.R_below (Gv.kr HO_4.out) hb); replace BK0 := Gv.b1 BK0 hb; replace HB := Gv.hb hb; clear hb) | ((with_reducible refine gate_dst (N := 5) rfl ?_); refine Gv.bev 5 23 #[.int .i64 0, .int .i64 0, .int .i64 0, .int .i64 0, .int .i64 0] ?_; intro gb1 hg w38 hbox hb; replace HO_4 := Gv.a0 (Kd.R_below (Gv.kr HO_4.out) hb); have BK1 := Gv.a0 (hbox); have GW1 := Gv.a0 ((Gv.ble hg Gv.bw : w.heap.size ≤ gb1)); have GE1 := GW1; replace HB := Gv.hb hb; have NB0_1 := Gv.a0 ((Gv.nlt hg (Gv.kb BK0.out) : gb0 ≠ gb1)); have NB1_0 := Gv.a0 ((Gv.ngt hg (Gv.kb BK0.out) : gb1 ≠ gb0)); replace BK0 := Gv.b1 BK0 hb; clear hb hbox hg; have hnb39 := NB1_0.out; have hnc39 := NB0_1.out; obtain ⟨z40_0, z40_1, z40_2, z40_3, z40_4⟩ := Gv.c5 BK1.out; obtain ⟨o40_0, o40_1, o40_2, o40_3, o40_4⟩ := Gv.f5 BK1.out; obtain ⟨z41_0, z41_1, z41_2, z41_3, z41_4⟩ := Gv.c5 BK0.out; obtain ⟨o41_0, o41_1, o41_2, o41_3, o41_4⟩ := Gv.f5 BK0.out))
    refine bodyPost_ret (results_ct rfl _ _ gb0 23 #[.int .i64 0, .int .i64 0, .int .i64 0, .int .i64 0, .int .i64 0] (0, 0) _ rfl (by (with_reducible repeat (first | refine blk_drewN ?_ _ | refine blk_drew ?_ | refine blk_alloc ?_ _)); refine blk_put (cs := #[.int .i64 0, .int .i64 0, .int .i64 0, .int .i64 0, .int .i64 0]) ?_ 4 _ rfl; (with_reducible repeat (first | refine blk_drewN ?_ _ | refine blk_drew ?_ | refine blk_alloc ?_ _)); refine blk_put (cs := #[.int .i64 0, .int .i64 0, .int .i64 0, .int .i64 0, .int .i64 0]) ?_ 3 _ rfl; (with_reducible repeat (first | refine blk_drewN ?_ _ | refine blk_drew ?_ | refine blk_alloc ?_ _)); refine blk_put (cs := #[.int .i64 0, .int .i64 0, .int .i64 0, .int .i64 0, .int .i64 0]) ?_ 2 _ rfl; (with_reducible repeat (first | refine blk_drewN ?_ _ | refine blk_drew ?_ | refine blk_alloc ?_ _)); refine blk_put (cs := #[.int .i64 0, .int .i64 0, .int .i64 0, .int .i64 0, .int .i64 0]) ?_ 1 _ rfl; (with_reducible repeat (first | refine blk_drewN ?_ _ | refine blk_drew ?_ | refine blk_alloc ?_ _)); refine blk_put (cs := #[.int .i64 0, .int .i64 0, .int .i64 0, .int .i64 0, .int .i64 0]) ?_ 0 _ rfl; (with_reducible repeat (first | refine blk_drewN ?_ _ | refine blk_drew ?_ | refine blk_alloc ?_ _)); refine blk_far ?_ NB0_1.out _; (with_reducible repeat (first | refine blk_drewN ?_ _ | refine blk_drew ?_ | refine blk_alloc ?_ _)); refine blk_far ?_ NB0_1.out _; (with_reducible repeat (first | refine blk_drewN ?_ _ | refine blk_drew ?_ | refine blk_alloc ?_ _)); refine blk_far ?_ NB0_1.out _; (with_reducible repeat (first | refine blk_drewN ?_ _ | refine blk_drew ?_ | refine blk_alloc ?_ _)); refine blk_far ?_ NB0_1.out _; (with_reducible repeat (first | refine blk_drewN ?_ _ | refine blk_drew ?_ | refine blk_alloc ?_ _)); refine blk_far ?_ NB0_1.out _; (with_reducible repeat (first | refine blk_drewN ?_ _ | refine blk_drew ?_ | refine blk_alloc ?_ _)); exact BK0.out) Tryz.underlying23 rfl (by kernel_rfl)) rfl ?_; exact ⟨Gv.rt, Gv.bw⟩

   subst c18; rw [if_pos rfl] at H
   (try dsimp only at H); replace H := Option.bind_eq_some_iff.mp H; obtain ⟨t9, A22, H⟩ := H
   (try dsimp only at H); have A19 := Gv.a0 A22; clear A22
   by_cases c20 : t9.toList = a0.toList
   ·rw [if_pos c20] at H; have c20b0 : (t9.toList == a0.toList) = true := beq_iff_eq.mpr c20; have c20b1 : (t9.toList != a0.toList) = false := bne_eq_false_iff_eq.mpr c20; clear c20; simp only [Option.some.injEq, Prod.mk.injEq] at H; obtain ⟨rfl, rfl, rfl, rfl, rfl, rfl⟩ := H; obtain ⟨Ao21, co21, eo21⟩ := Kd.R_slice HO_4.out; subst eo21
    go_wp2_with (first | ((with_reducible refine gate_callee (f := 54) rfl ?_); refine goesL_ (some 17) rfl rfl Tryz.func54 (by kernel_rfl) rfl #[.slice Ao21 x4_4.length co21] rfl Gv.lm ?_; (with_reducible refine (impl_AddrOf.calls kj4 _ _ x4_4 t2 t3 t4 t5 t7 true _ ?side1 ?side2 A17.out).mono ?_); (case side1 => repeat (first | exact (Kd.R_reads' HO_4.out).2.2 | (with_reducible refine Kd.C_alloc ?_ _) | (with_reducible refine Kd.C_drewN ?_ _) | (with_reducible refine Kd.C_drew ?_))); (case side2 => exact (Kd.R_reads' HO_4.out).2.1); rintro e w22 ⟨rfl, hb⟩; refine ⟨_, rfl, ?_⟩; replace HO_4 := Gv.a0 (Kd.R_below (Gv.kr HO_4.out) hb); replace BK0 := Gv.b1 BK0 hb; replace HB := Gv.hb hb; clear hb) | ((with_reducible refine gate_dst (N := 5) rfl ?_); refine Gv.bev 5 23 #[.int .i64 0, .int .i64 0, .int .i64 0, .int .i64 0, .int .i64 0] ?_; intro gb1 hg w23 hbox hb; replace HO_4 := Gv.a0 (Kd.R_below (Gv.kr HO_4.out) hb); have BK1 := Gv.a0 (hbox); have GW1 := Gv.a0 ((Gv.ble hg Gv.bw : w.heap.size ≤ gb1)); have GE1 := GW1; replace HB := Gv.hb hb; have NB0_1 := Gv.a0 ((Gv.nlt hg (Gv.kb BK0.out) : gb0 ≠ gb1)); have NB1_0 := Gv.a0 ((Gv.ngt hg (Gv.kb BK0.out) : gb1 ≠ gb0)); replace BK0 := Gv.b1 BK0 hb; clear hb hbox hg; have hnb24 := NB1_0.out; have hnc24 := NB0_1.out; obtain ⟨z25_0, z25_1, z25_2, z25_3, z25_4⟩ := Gv.c5 BK1.out; obtain ⟨o25_0, o25_1, o25_2, o25_3, o25_4⟩ := Gv.f5 BK1.out) | (go_at_call 55; (with_reducible refine (impl_AddrText.calls kj4 t2 t3 t4 t5 t7 t9 _ (hE.out.below Gv.bw) A19.out).mono ?_); rintro e w26 ⟨rfl, hb⟩; replace HO_4 := Gv.a0 (Kd.R_below (by (with_reducible repeat (first | apply Kd.R_alloc | apply Kd.R_drewN | apply Kd.R_drew)); exact (Kd.R_mono (Kd.R_far (p := ⟨gb1, 4, none⟩) (Kd.R_far (p := ⟨gb1, 3, none⟩) (Kd.R_far (p := ⟨gb1, 2, none⟩) (Kd.R_far (p := ⟨gb1, 1, none⟩) (Kd.R_far (p := ⟨gb1, 0, none⟩) (Kd.R_types HO_4.out BK1.out (by decide)) (fun _ hk => hk.2) (.int .i64 t2)) (fun _ hk => hk.2) (.int .i64 t3)) (fun _ hk => hk.2) (.int .i64 t4)) (fun _ hk => hk.2) (.int .i64 t5)) (fun _ hk => hk.2) (.int .i64 t7)) (fun _ h_ => h_.1))) hb); replace BK0 := Gv.a0 (blk_below (g := gb0) (o := .cells #[.int .i64 0, .int .i64 0, .int .i64 0, .int .i64 0, .int .i64 0] 23 (0, 0)) Gv.bkf hb); replace BK1 := Gv.a0 (blk_below (g := gb1) (o := .cells #[.int .i64 t2, .int .i64 t3, .int .i64 t4, .int .i64 t5, .int .i64 t7] 23 (0, 0)) (by (with_reducible repeat (first | refine blk_drewN ?_ _ | refine blk_drew ?_ | refine blk_alloc ?_ _)); refine blk_put (cs := #[.int .i64 t2, .int .i64 t3, .int .i64 t4, .int .i64 t5, .int .i64 0]) ?_ 4 _ rfl; (with_reducible repeat (first | refine blk_drewN ?_ _ | refine blk_drew ?_ | refine blk_alloc ?_ _)); refine blk_put (cs := #[.int .i64 t2, .int .i64 t3, .int .i64 t4, .int .i64 0, .int .i64 0]) ?_ 3 _ rfl; (with_reducible repeat (first | refine blk_drewN ?_ _ | refine blk_drew ?_ | refine blk_alloc ?_ _)); refine blk_put (cs := #[.int .i64 t2, .int .i64 t3, .int .i64 0, .int .i64 0, .int .i64 0]) ?_ 2 _ rfl; (with_reducible repeat (first | refine blk_drewN ?_ _ | refine blk_drew ?_ | refine blk_alloc ?_ _)); refine blk_put (cs := #[.int .i64 t2, .int .i64 0, .int .i64 0, .int .i64 0, .int .i64 0]) ?_ 1 _ rfl; (with_reducible repeat (first | refine blk_drewN ?_ _ | refine blk_drew ?_ | refine blk_alloc ?_ _)); refine blk_put (cs := #[.int .i64 0, .int .i64 0, .int .i64 0, .int .i64 0, .int .i64 0]) ?_ 0 _ rfl; (with_reducible repeat (first | refine blk_drewN ?_ _ | refine blk_drew ?_ | refine blk_alloc ?_ _)); exact BK1.out) hb); replace HB := Gv.hb hb; clear hb; obtain ⟨z27_0, z27_1, z27_2, z27_3, z27_4⟩ := Gv.c5 BK1.out; obtain ⟨o27_0, o27_1, o27_2, o27_3, o27_4⟩ := Gv.f5 BK1.out; obtain ⟨z28_0, z28_1, z28_2, z28_3, z28_4⟩ := Gv.c5 BK0.out; obtain ⟨o28_0, o28_1, o28_2, o28_3, o28_4⟩ := Gv.f5 BK0.out))
    refine bodyPost_ret (results_ct rfl _ _ gb0 23 #[.int .i64 t2, .int .i64 t3, .int .i64 t4, .int .i64 t5, .int .i64 t7] (0, 0) _ rfl (by (with_reducible repeat (first | refine blk_drewN ?_ _ | refine blk_drew ?_ | refine blk_alloc ?_ _)); refine blk_put (cs := #[.int .i64 t2, .int .i64 t3, .int .i64 t4, .int .i64 t5, .int .i64 0]) ?_ 4 _ rfl; (with_reducible repeat (first | refine blk_drewN ?_ _ | refine blk_drew ?_ | refine blk_alloc ?_ _)); refine blk_put (cs := #[.int .i64 t2, .int .i64 t3, .int .i64 t4, .int .i64 0, .int .i64 0]) ?_ 3 _ rfl; (with_reducible repeat (first | refine blk_drewN ?_ _ | refine blk_drew ?_ | refine blk_alloc ?_ _)); refine blk_put (cs := #[.int .i64 t2, .int .i64 t3, .int .i64 0, .int .i64 0, .int .i64 0]) ?_ 2 _ rfl; (with_reducible repeat (first | refine blk_drewN ?_ _ | refine blk_drew ?_ | refine blk_alloc ?_ _)); refine blk_put (cs := #[.int .i64 t2, .int .i64 0, .int .i64 0, .int .i64 0, .int .i64 0]) ?_ 1 _ rfl; (with_reducible repeat (first | refine blk_drewN ?_ _ | refine blk_drew ?_ | refine blk_alloc ?_ _)); refine blk_put (cs := #[.int .i64 0, .int .i64 0, .int .i64 0, .int .i64 0, .int .i64 0]) ?_ 0 _ rfl; (with_reducible repeat (first | refine blk_drewN ?_ _ | refine blk_drew ?_ | refine blk_alloc ?_ _)); exact BK0.out) Tryz.underlying23 rfl (by kernel_rfl)) rfl ?_; exact ⟨Gv.rt, Gv.bw⟩
   ·rw [if_neg c20] at H; have c20b0 : (t9.toList == a0.toList) = false := beq_eq_false_iff_ne.mpr c20; have c20b1 : (t9.toList != a0.toList) = true := bne_iff_ne.mpr c20; simp only [Option.some.injEq, Prod.mk.injEq] at H; obtain ⟨rfl, rfl, rfl, rfl, rfl, rfl⟩ := H; obtain ⟨Ao29, co29, eo29⟩ := Kd.R_slice HO_4.out; subst eo29
    go_wp2_with (first | ((with_reducible refine gate_callee (f := 54) rfl ?_); refine goesL_ (some 17) rfl rfl Tryz.func54 (by kernel_rfl) rfl #[.slice Ao29 x4_4.length co29] rfl Gv.lm ?_; (with_reducible refine (impl_AddrOf.calls kj4 _ _ x4_4 t2 t3 t4 t5 t7 true _ ?side1 ?side2 A17.out).mono ?_); (case side1 => repeat (first | exact (Kd.R_reads' HO_4.out).2.2 | (with_reducible refine Kd.C_alloc ?_ _) | (with_reducible refine Kd.C_drewN ?_ _) | (with_reducible refine Kd.C_drew ?_))); (case side2 => exact (Kd.R_reads' HO_4.out).2.1); rintro e w30 ⟨rfl, hb⟩; refine ⟨_, rfl, ?_⟩; replace HO_4 := Gv.a0 (Kd.R_below (Gv.kr HO_4.out) hb); replace BK0 := Gv.b1 BK0 hb; replace HB := Gv.hb hb; clear hb) | ((with_reducible refine gate_dst (N := 5) rfl ?_); refine Gv.bev 5 23 #[.int .i64 0, .int .i64 0, .int .i64 0, .int .i64 0, .int .i64 0] ?_; intro gb1 hg w31 hbox hb; replace HO_4 := Gv.a0 (Kd.R_below (Gv.kr HO_4.out) hb); have BK1 := Gv.a0 (hbox); have GW1 := Gv.a0 ((Gv.ble hg Gv.bw : w.heap.size ≤ gb1)); have GE1 := GW1; replace HB := Gv.hb hb; have NB0_1 := Gv.a0 ((Gv.nlt hg (Gv.kb BK0.out) : gb0 ≠ gb1)); have NB1_0 := Gv.a0 ((Gv.ngt hg (Gv.kb BK0.out) : gb1 ≠ gb0)); replace BK0 := Gv.b1 BK0 hb; clear hb hbox hg; have hnb32 := NB1_0.out; have hnc32 := NB0_1.out; obtain ⟨z33_0, z33_1, z33_2, z33_3, z33_4⟩ := Gv.c5 BK1.out; obtain ⟨o33_0, o33_1, o33_2, o33_3, o33_4⟩ := Gv.f5 BK1.out) | (go_at_call 55; (with_reducible refine (impl_AddrText.calls kj4 t2 t3 t4 t5 t7 t9 _ (hE.out.below Gv.bw) A19.out).mono ?_); rintro e w34 ⟨rfl, hb⟩; replace HO_4 := Gv.a0 (Kd.R_below (by (with_reducible repeat (first | apply Kd.R_alloc | apply Kd.R_drewN | apply Kd.R_drew)); exact (Kd.R_mono (Kd.R_far (p := ⟨gb1, 4, none⟩) (Kd.R_far (p := ⟨gb1, 3, none⟩) (Kd.R_far (p := ⟨gb1, 2, none⟩) (Kd.R_far (p := ⟨gb1, 1, none⟩) (Kd.R_far (p := ⟨gb1, 0, none⟩) (Kd.R_types HO_4.out BK1.out (by decide)) (fun _ hk => hk.2) (.int .i64 t2)) (fun _ hk => hk.2) (.int .i64 t3)) (fun _ hk => hk.2) (.int .i64 t4)) (fun _ hk => hk.2) (.int .i64 t5)) (fun _ hk => hk.2) (.int .i64 t7)) (fun _ h_ => h_.1))) hb); replace BK0 := Gv.a0 (blk_below (g := gb0) (o := .cells #[.int .i64 0, .int .i64 0, .int .i64 0, .int .i64 0, .int .i64 0] 23 (0, 0)) Gv.bkf hb); replace BK1 := Gv.a0 (blk_below (g := gb1) (o := .cells #[.int .i64 t2, .int .i64 t3, .int .i64 t4, .int .i64 t5, .int .i64 t7] 23 (0, 0)) (by (with_reducible repeat (first | refine blk_drewN ?_ _ | refine blk_drew ?_ | refine blk_alloc ?_ _)); refine blk_put (cs := #[.int .i64 t2, .int .i64 t3, .int .i64 t4, .int .i64 t5, .int .i64 0]) ?_ 4 _ rfl; (with_reducible repeat (first | refine blk_drewN ?_ _ | refine blk_drew ?_ | refine blk_alloc ?_ _)); refine blk_put (cs := #[.int .i64 t2, .int .i64 t3, .int .i64 t4, .int .i64 0, .int .i64 0]) ?_ 3 _ rfl; (with_reducible repeat (first | refine blk_drewN ?_ _ | refine blk_drew ?_ | refine blk_alloc ?_ _)); refine blk_put (cs := #[.int .i64 t2, .int .i64 t3, .int .i64 0, .int .i64 0, .int .i64 0]) ?_ 2 _ rfl; (with_reducible repeat (first | refine blk_drewN ?_ _ | refine blk_drew ?_ | refine blk_alloc ?_ _)); refine blk_put (cs := #[.int .i64 t2, .int .i64 0, .int .i64 0, .int .i64 0, .int .i64 0]) ?_ 1 _ rfl; (with_reducible repeat (first | refine blk_drewN ?_ _ | refine blk_drew ?_ | refine blk_alloc ?_ _)); refine blk_put (cs := #[.int .i64 0, .int .i64 0, .int .i64 0, .int .i64 0, .int .i64 0]) ?_ 0 _ rfl; (with_reducible repeat (first | refine blk_drewN ?_ _ | refine blk_drew ?_ | refine blk_alloc ?_ _)); exact BK1.out) hb); replace HB := Gv.hb hb; clear hb; obtain ⟨z35_0, z35_1, z35_2, z35_3, z35_4⟩ := Gv.c5 BK0.out; obtain ⟨o35_0, o35_1, o35_2, o35_3, o35_4⟩ := Gv.f5 BK0.out))
    refine bodyPost_ret (results_ct rfl _ _ gb0 23 #[.int .i64 0, .int .i64 0, .int .i64 0, .int .i64 0, .int .i64 0] (0, 0) _ rfl (by (with_reducible repeat (first | refine blk_drewN ?_ _ | refine blk_drew ?_ | refine blk_alloc ?_ _)); refine blk_put (cs := #[.int .i64 0, .int .i64 0, .int .i64 0, .int .i64 0, .int .i64 0]) ?_ 4 _ rfl; (with_reducible repeat (first | refine blk_drewN ?_ _ | refine blk_drew ?_ | refine blk_alloc ?_ _)); refine blk_put (cs := #[.int .i64 0, .int .i64 0, .int .i64 0, .int .i64 0, .int .i64 0]) ?_ 3 _ rfl; (with_reducible repeat (first | refine blk_drewN ?_ _ | refine blk_drew ?_ | refine blk_alloc ?_ _)); refine blk_put (cs := #[.int .i64 0, .int .i64 0, .int .i64 0, .int .i64 0, .int .i64 0]) ?_ 2 _ rfl; (with_reducible repeat (first | refine blk_drewN ?_ _ | refine blk_drew ?_ | refine blk_alloc ?_ _)); refine blk_put (cs := #[.int .i64 0, .int .i64 0, .int .i64 0, .int .i64 0, .int .i64 0]) ?_ 1 _ rfl; (with_reducible repeat (first | refine blk_drewN ?_ _ | refine blk_drew ?_ | refine blk_alloc ?_ _)); refine blk_put (cs := #[.int .i64 0, .int .i64 0, .int .i64 0, .int .i64 0, .int .i64 0]) ?_ 0 _ rfl; (with_reducible repeat (first | refine blk_drewN ?_ _ | refine blk_drew ?_ | refine blk_alloc ?_ _)); exact BK0.out) Tryz.underlying23 rfl (by kernel_rfl)) rfl ?_; exact ⟨Gv.rt, Gv.bw⟩
/-! ### impl_isAny: function 57 -/
def impl_isAny.f (a0_0 : Int) (a0_1 : Int) (a0_2 : Int) (a0_3 : Int) (a0_4 : Int) (a0_5 : Int) : Option (Bool) := some ((a0_0 == 0 && (a0_1 == 0 && (a0_2 == 0 && (a0_3 == 0 && (a0_4 == 0))))) && (a0_5 == 0))
set_option maxHeartbeats 8000000 in
set_option maxRecDepth 100000 in
theorem impl_isAny.calls (a0_0 : Int) (a0_1 : Int) (a0_2 : Int) (a0_3 : Int) (a0_4 : Int) (a0_5 : Int) (r : Bool) (w : World) (h : impl_isAny.f a0_0 a0_1 a0_2 a0_3 a0_4 a0_5 = some r) :
  Calls Tryz.prog 57 #[.agg #[.int .i64 a0_0, .int .i64 a0_1, .int .i64 a0_2, .int .i64 a0_3, .int .i64 a0_4, .int .i64 a0_5]] w fun e w' => e = .returned (.bool r) ∧ Below w.heap.size w w' := by
 have hu25 := Tryz.underlying25; have HB := Gv.a0 (Below.refl w.heap.size w); unfold impl_isAny.f at h; have H := h; clear h; obtain rfl := Option.some.inj H
 go_enter Tryz.func57, Tryz.ntmps57
 go_wp2_with (first | ((with_reducible refine gate_dst (N := 1) rfl ?_); refine Gv.bev 1 25 #[.int .i64 a0_0, .int .i64 a0_1, .int .i64 a0_2, .int .i64 a0_3, .int .i64 a0_4, .int .i64 a0_5] ?_; intro gb0 hg w2 hbox hb; have BK0 := Gv.a0 (hbox); have GW0 := Gv.a0 ((Gv.ble hg Gv.bw : w.heap.size ≤ gb0)); have GE0 := GW0; replace HB := Gv.hb hb; clear hb hbox hg; obtain ⟨z3_0, z3_1, z3_2, z3_3, z3_4, z3_5⟩ := Gv.c6 BK0.out; obtain ⟨o3_0, o3_1, o3_2, o3_3, o3_4, o3_5⟩ := Gv.f6 BK0.out))
 go_ret
 exact ⟨Gv.rt, Gv.bw⟩

/-! ### impl_bitsOf: function 88 -/
def impl_bitsOf.f (a0_0 : Int) (a0_1 : Int) (a0_2 : Int) (a0_3 : Int) (a0_4 : Int) : Option (Int) := if a0_0 = 4 then (some 32) else (some 128)
set_option maxHeartbeats 8000000 in
set_option maxRecDepth 100000 in
theorem impl_bitsOf.calls (a0_0 : Int) (a0_1 : Int) (a0_2 : Int) (a0_3 : Int) (a0_4 : Int) (r : Int) (w : World) (h : impl_bitsOf.f a0_0 a0_1 a0_2 a0_3 a0_4 = some r) :
  Calls Tryz.prog 88 #[.agg #[.int .i64 a0_0, .int .i64 a0_1, .int .i64 a0_2, .int .i64 a0_3, .int .i64 a0_4]] w fun e w' => e = .returned (.int .i64 r) ∧ Below w.heap.size w w' := by
 have hu23 := Tryz.underlying23; have HB := Gv.a0 (Below.refl w.heap.size w); unfold impl_bitsOf.f at h; have H := h; clear h
 by_cases c2 : a0_0 = 4
 ·rw [if_pos c2] at H; have c2b0 : (a0_0 == 4) = true := beq_iff_eq.mpr c2; have c2b1 : (a0_0 != 4) = false := bne_eq_false_iff_eq.mpr c2; clear c2; obtain rfl := Option.some.inj H
  go_enter Tryz.func88, Tryz.ntmps88
  go_wp2_with (first | ((with_reducible refine gate_dst (N := 1) rfl ?_); refine Gv.bev 1 23 #[.int .i64 a0_0, .int .i64 a0_1, .int .i64 a0_2, .int .i64 a0_3, .int .i64 a0_4] ?_; intro gb0 hg w3 hbox hb; have BK0 := Gv.a0 (hbox); have GW0 := Gv.a0 ((Gv.ble hg Gv.bw : w.heap.size ≤ gb0)); have GE0 := GW0; replace HB := Gv.hb hb; clear hb hbox hg; obtain ⟨z4_0, z4_1, z4_2, z4_3, z4_4⟩ := Gv.c5 BK0.out; obtain ⟨o4_0, o4_1, o4_2, o4_3, o4_4⟩ := Gv.f5 BK0.out))
  go_ret
  exact ⟨Gv.rt, Gv.bw⟩
 ·rw [if_neg c2] at H; have c2b0 : (a0_0 == 4) = false := beq_eq_false_iff_ne.mpr c2; have c2b1 : (a0_0 != 4) = true := bne_iff_ne.mpr c2; obtain rfl := Option.some.inj H
  go_enter Tryz.func88, Tryz.ntmps88
  go_wp2_with (first | ((with_reducible refine gate_dst (N := 1) rfl ?_); refine Gv.bev 1 23 #[.int .i64 a0_0, .int .i64 a0_1, .int .i64 a0_2, .int .i64 a0_3, .int .i64 a0_4] ?_; intro gb0 hg w5 hbox hb; have BK0 := Gv.a0 (hbox); have GW0 := Gv.a0 ((Gv.ble hg Gv.bw : w.heap.size ≤ gb0)); have GE0 := GW0; replace HB := Gv.hb hb; clear hb hbox hg; obtain ⟨z6_0, z6_1, z6_2, z6_3, z6_4⟩ := Gv.c5 BK0.out; obtain ⟨o6_0, o6_1, o6_2, o6_3, o6_4⟩ := Gv.f5 BK0.out))
  go_ret
  exact ⟨Gv.rt, Gv.bw⟩

/-! ### impl_Clip: function 103 -/
def impl_Clip.f (a0 : Int) (a1 : Int) (a2 : Int) : Option (Int) := if a0 < a1 then (some a1) else (if a0 > a2 then (some a2) else (some a0))
set_option maxHeartbeats 8000000 in
set_option maxRecDepth 100000 in
theorem impl_Clip.calls (a0 : Int) (a1 : Int) (a2 : Int) (r : Int) (w : World) (h : impl_Clip.f a0 a1 a2 = some r) :
  Calls Tryz.prog 103 #[.int .i64 a0, .int .i64 a1, .int .i64 a2] w fun e w' => e = .returned (.int .i64 r) ∧ Drawn0 w w' := by
 unfold impl_Clip.f at h; have H := h; clear h
 by_cases c4 : a0 < a1
 ·rw [if_pos c4] at H; have c4b0 := decide_eq_true c4; clear c4; obtain rfl := Option.some.inj H
  go_enter Tryz.func103, Tryz.ntmps103
  go_wp2
  go_ret
  exact ⟨by first | rfl | (simp; done) | (simp [Int.tdiv_eq_ediv_of_nonneg]; done) | (simp [*]; done), by repeat (first | exact Drawn0.refl _ | apply Drawn0.step)⟩
 ·rw [if_neg c4] at H; have c4b0 := decide_eq_false c4; clear c4
  by_cases c5 : a0 > a2
  ·rw [if_pos c5] at H; have c5b0 : decide (a2 < a0) = true := decide_eq_true c5; clear c5; obtain rfl := Option.some.inj H
   go_enter Tryz.func103, Tryz.ntmps103
   go_wp2
   go_ret
   exact ⟨by first | rfl | (simp; done) | (simp [Int.tdiv_eq_ediv_of_nonneg]; done) | (simp [*]; done), by repeat (first | exact Drawn0.refl _ | apply Drawn0.step)⟩
  ·rw [if_neg c5] at H; have c5b0 : decide (a2 < a0) = false := decide_eq_false c5; clear c5; obtain rfl := Option.some.inj H
   go_enter Tryz.func103, Tryz.ntmps103
   go_wp2
   go_ret
   exact ⟨by first | rfl | (simp; done) | (simp [Int.tdiv_eq_ediv_of_nonneg]; done) | (simp [*]; done), by repeat (first | exact Drawn0.refl _ | apply Drawn0.step)⟩

/-! ### impl_Cut: function 89 -/
mutual
def impl_Cut.j0 : Nat → Int → Bool → Int → Int → Int → Int → Int → Option (Int × Int × Int × Int × Int)
 | 0, _, _, _, _, _, _, _ => none
 | k + 1, x1, x19, x448000, x448001, x448002, x448003, x448004 => if x19 = true then (some (0, 0, 0, 0, 0)) else ((impl_AddrBytes.f k x448000 x448001 x448002 x448003 x448004).bind fun t452 => (impl_Cut.l0 k x1 t452 (t452.length : Int) 0))
def impl_Cut.l0 : Nat → Int → List Int → Int → Int → Option (Int × Int × Int × Int × Int)
 | 0, _, _, _, _ => none
 | k + 1, x1, x5, x24, x25 => if x25 < x24 then ((impl_Clip.f (wrap64 (x1 - (wrap64 (8 * x25)))) 0 8).bind fun t455 => (if 0 ≤ x25 then (if x25 < (x5.length : Int) then (if 0 ≤ t455 then (impl_Cut.l0 k x1 (x5.set (x25 : Int).toNat (Go.bits .and .u8 (rd x5 x25) ((shr .u16 65280 t455) % 256))) x24 (wrap64 (x25 + 1))) else (none)) else (none)) else (none))) else ((impl_AddrOf.f k x5).bind fun bt458 => (some (bt458.1, bt458.2.1, bt458.2.2.1, bt458.2.2.2.1, bt458.2.2.2.2.1)))
end
def impl_Cut.f (k : Nat) (a0_0 : Int) (a0_1 : Int) (a0_2 : Int) (a0_3 : Int) (a0_4 : Int) (a1 : Int) : Option (Int × Int × Int × Int × Int) := (impl_AddrOk.f a0_0 a0_1 a0_2 a0_3 a0_4).bind fun t449 => (if t449 = true then ((impl_bitsOf.f a0_0 a0_1 a0_2 a0_3 a0_4).bind fun t450 => ((impl_within.f a1 0 t450).bind fun t451 => (impl_Cut.j0 k a1 (!t451) a0_0 a0_1 a0_2 a0_3 a0_4))) else (impl_Cut.j0 k a1 true a0_0 a0_1 a0_2 a0_3 a0_4))
def impl_Cut.T8 : Bool × List (List Nat × List Nat) := (true, [([], []), ([], []), ([0, 1], [0, 1]), ([2], [2]), ([], []), ([4], [4]), ([5], [5]), ([3, 6], [3, 6]), ([0, 1, 0, 1, 2, 3, 4, 5, 6, 7], [0, 1]), ([8, 7, 0, 1, 2, 3, 4, 5, 6, 7], [7, 8])])
def impl_Cut.B8 : List Nat := [0, 0, 3, 7, 0, 16, 48, 127, 255, 511]
theorem impl_Cut.tab8 : rtab .any (opsOf Tryz.f89 8) = impl_Cut.T8 := by kernel_rfl
theorem impl_Cut.bits8 : waitsOk impl_Cut.T8.2 impl_Cut.B8 = true := by kernel_rfl
set_option maxHeartbeats 8000000 in
set_option maxRecDepth 100000 in
theorem impl_Cut.calls (k : Nat) (a0_0 : Int) (a0_1 : Int) (a0_2 : Int) (a0_3 : Int) (a0_4 : Int) (a1 : Int) (r1 : Int) (r2 : Int) (r3 : Int) (r4 : Int) (r5 : Int) (w : World) (h : impl_Cut.f k a0_0 a0_1 a0_2 a0_3 a0_4 a1 = some (r1, r2, r3, r4, r5)) :
  Calls Tryz.prog 89 #[.agg #[.int .i64 a0_0, .int .i64 a0_1, .int .i64 a0_2, .int .i64 a0_3, .int .i64 a0_4], .int .i64 a1] w fun e w' => e = .returned (.agg #[.int .i64 r1, .int .i64 r2, .int .i64 r3, .int .i64 r4, .int .i64 r5]) ∧ Below w.heap.size w w' := by
 have hu23 := Tryz.underlying23; have HB := Gv.a0 (Below.refl w.heap.size w); unfold impl_Cut.f at h; have H := h; clear h; have HC3 := Gv.a0 H; clear H
 go_enter Tryz.func89, Tryz.ntmps89
 go_upto_region 1 with (first | ((with_reducible refine gate_dst (N := 2) rfl ?_); refine Gv.bev 2 23 #[.int .i64 a0_0, .int .i64 a0_1, .int .i64 a0_2, .int .i64 a0_3, .int .i64 a0_4] ?_; intro gb1 hg w4 hbox hb; have BK1 := Gv.a0 (hbox); have GW1 := Gv.a0 ((Gv.ble hg Gv.bw : w.heap.size ≤ gb1)); have GE1 := GW1; replace HB := Gv.hb hb; clear hb hbox hg) | ((with_reducible refine gate_dst (N := 4) rfl ?_); refine Gv.bev 4 23 #[.int .i64 0, .int .i64 0, .int .i64 0, .int .i64 0, .int .i64 0] ?_; intro gb0 hg w5 hbox hb; have BK0 := Gv.a0 (hbox); have GW0 := Gv.a0 ((Gv.ble hg Gv.bw : w.heap.size ≤ gb0)); have GE0 := GW0; replace HB := Gv.hb hb; have NB1_0 := Gv.a0 ((Gv.nlt hg (Gv.kb BK1.out) : gb1 ≠ gb0)); have NB0_1 := Gv.a0 ((Gv.ngt hg (Gv.kb BK1.out) : gb0 ≠ gb1)); replace BK1 := Gv.b1 BK1 hb; clear hb hbox hg))
 (try simp only [Act.put, List.setIfInBounds_toArray, List.set_cons_zero, List.set_cons_succ])
 go_cut [19] (fun v19 wc => ∃ (kq : Nat) (x19_2 : Bool), v19 = .bool x19_2 ∧ Aside0 (impl_Cut.j0 kq a1 x19_2 a0_0 a0_1 a0_2 a0_3 a0_4 = some (r1, r2, r3, r4, r5)) ∧ Aside0 (kq ≤ k) ∧ Aside0 (wc.heap[gb1]? = some (.cells #[.int .i64 a0_0, .int .i64 a0_1, .int .i64 a0_2, .int .i64 a0_3, .int .i64 a0_4] 23 (0, 0))) ∧ Aside0 (wc.heap[gb0]? = some (.cells #[.int .i64 0, .int .i64 0, .int .i64 0, .int .i64 0, .int .i64 0] 23 (0, 0))) ∧ Aside0 (Below w.heap.size w wc))
 case first =>
  have H := HC3.out; clear HC3; replace H := Option.bind_eq_some_iff.mp H; obtain ⟨t18, A60, H⟩ := H
  (try dsimp only at H); have A6 := Gv.a0 A60; clear A60
  by_cases c7 : t18 = true
  ·subst c7; rw [if_pos rfl] at H
   (try dsimp only at H); replace H := Option.bind_eq_some_iff.mp H; obtain ⟨t11, A80, H⟩ := H
   (try dsimp only at H); have A8 := Gv.a0 A80; clear A80; replace H := Option.bind_eq_some_iff.mp H; obtain ⟨t12, A90, H⟩ := H
   (try dsimp only at H); have A9 := Gv.a0 A90; clear A90; have H' := Gv.a0 H; clear H; have hnb10 := NB1_0.out; have hnc10 := NB0_1.out; obtain ⟨z11_0, z11_1, z11_2, z11_3, z11_4⟩ := Gv.c5 BK1.out; obtain ⟨o11_0, o11_1, o11_2, o11_3, o11_4⟩ := Gv.f5 BK1.out
   go_wp2_with (first | ((with_reducible refine gate_callee (f := 87) rfl ?_); refine goesL_ (some 11) rfl rfl Tryz.func87 (by kernel_rfl) rfl #[.agg #[.int .i64 a0_0, .int .i64 a0_1, .int .i64 a0_2, .int .i64 a0_3, .int .i64 a0_4]] rfl Gv.lm ?_; (with_reducible refine (impl_AddrOk.calls a0_0 a0_1 a0_2 a0_3 a0_4 true _ A6.out).mono ?_); rintro e w12 ⟨rfl, hb⟩; refine ⟨_, rfl, ?_⟩; replace BK1 := Gv.b1 BK1 hb; replace BK0 := Gv.b1 BK0 hb; replace HB := Gv.hb hb; clear hb; obtain ⟨z13_0, z13_1, z13_2, z13_3, z13_4⟩ := Gv.c5 BK1.out; obtain ⟨o13_0, o13_1, o13_2, o13_3, o13_4⟩ := Gv.f5 BK1.out) | (go_at_call 88; (with_reducible refine (impl_bitsOf.calls a0_0 a0_1 a0_2 a0_3 a0_4 t11 _ A8.out).mono ?_); rintro e w14 ⟨rfl, hb⟩; replace BK1 := Gv.b1 BK1 hb; replace BK0 := Gv.b1 BK0 hb; replace HB := Gv.hb hb; clear hb) | (go_at_call 58; (with_reducible refine (impl_within.calls a1 0 t11 t12 _ A9.out).mono ?_); rintro e w' ⟨rfl, ⟨nd, rfl⟩⟩))
   go_meet
   case rel => exact ⟨_, (!t12), Gv.rq, H', ⟨by first | omega | exact Nat.le_refl _⟩, ⟨by (with_reducible repeat (first | refine blk_drewN ?_ _ | refine blk_drew ?_ | refine blk_alloc ?_ _)); exact BK1.out⟩, ⟨by (with_reducible repeat (first | refine blk_drewN ?_ _ | refine blk_drew ?_ | refine blk_alloc ?_ _)); exact BK0.out⟩, ⟨Gv.bw⟩⟩
  ·replace c7 := Bool.eq_false_iff.mpr c7; subst c7; rw [if_neg (show ¬ (false = true) by decide)] at H
   (try dsimp only at H); have H' := Gv.a0 H; clear H; have hnb15 := NB1_0.out; have hnc15 := NB0_1.out; obtain ⟨z16_0, z16_1, z16_2, z16_3, z16_4⟩ := Gv.c5 BK1.out; obtain ⟨o16_0, o16_1, o16_2, o16_3, o16_4⟩ := Gv.f5 BK1.out
   go_wp2_with (first | ((with_reducible refine gate_callee (f := 87) rfl ?_); refine goesL_ (some 11) rfl rfl Tryz.func87 (by kernel_rfl) rfl #[.agg #[.int .i64 a0_0, .int .i64 a0_1, .int .i64 a0_2, .int .i64 a0_3, .int .i64 a0_4]] rfl Gv.lm ?_; (with_reducible refine (impl_AddrOk.calls a0_0 a0_1 a0_2 a0_3 a0_4 false _ A6.out).mono ?_); rintro e w17 ⟨rfl, hb⟩; refine ⟨_, rfl, ?_⟩; replace BK1 := Gv.b1 BK1 hb; replace BK0 := Gv.b1 BK0 hb; replace HB := Gv.hb hb; clear hb))
   go_meet
   case rel => exact ⟨_, (true), Gv.rq, H', ⟨by first | omega | exact Nat.le_refl _⟩, ⟨by (with_reducible repeat (first | refine blk_drewN ?_ _ | refine blk_drew ?_ | refine blk_alloc ?_ _)); exact BK1.out⟩, ⟨by (with_reducible repeat (first | refine blk_drewN ?_ _ | refine blk_drew ?_ | refine blk_alloc ?_ _)); exact BK0.out⟩, ⟨Gv.bw⟩⟩
 case rest =>
  clear HC3
  try clear c1
  try clear p2
  try clear c7
  try clear c8
  try clear c10
  try clear c15
  try clear z11_0 z11_1 z11_2 z11_3 z11_4
  try clear z13_0 z13_1 z13_2 z13_3 z13_4
  try clear z16_0 z16_1 z16_2 z16_3 z16_4
  try clear o11_0 o11_1 o11_2 o11_3 o11_4
  try clear o13_0 o13_1 o13_2 o13_3 o13_4
  try clear o16_0 o16_1 o16_2 o16_3 o16_4
  obtain ⟨kq, x19_2, rfl, HA, HJ2, BK1, BK0, HB⟩ := hcut; cases kq with
  | zero => exact absurd HA.out (by simp [impl_Cut.j0])
  | succ kj2 =>
   have H := HA.out; clear HA; simp only [impl_Cut.j0] at H
   by_cases c18 : x19_2 = true
   ·subst c18; rw [if_pos rfl] at H
    (try dsimp only at H); simp only [Option.some.injEq, Prod.mk.injEq] at H; obtain ⟨rfl, rfl, rfl, rfl, rfl⟩ := H; have hnb19 := NB0_1.out; have hnc19 := NB1_0.out; obtain ⟨z20_0, z20_1, z20_2, z20_3, z20_4⟩ := Gv.c5 BK0.out; obtain ⟨o20_0, o20_1, o20_2, o20_3, o20_4⟩ := Gv.f5 BK0.out
    go_wp2
    refine bodyPost_ret (results_cell_row rfl _ _ gb0 23 #[.int .i64 0, .int .i64 0, .int .i64 0, .int .i64 0, .int .i64 0] (0, 0) _ rfl (by (with_reducible repeat (first | refine blk_drewN ?_ _ | refine blk_drew ?_ | refine blk_alloc ?_ _)); refine blk_put (cs := #[.int .i64 0, .int .i64 0, .int .i64 0, .int .i64 0, .int .i64 0]) ?_ 4 _ rfl; (with_reducible repeat (first | refine blk_drewN ?_ _ | refine blk_drew ?_ | refine blk_alloc ?_ _)); refine blk_put (cs := #[.int .i64 0, .int .i64 0, .int .i64 0, .int .i64 0, .int .i64 0]) ?_ 3 _ rfl; (with_reducible repeat (first | refine blk_drewN ?_ _ | refine blk_drew ?_ | refine blk_alloc ?_ _)); refine blk_put (cs := #[.int .i64 0, .int .i64 0, .int .i64 0, .int .i64 0, .int .i64 0]) ?_ 2 _ rfl; (with_reducible repeat (first | refine blk_drewN ?_ _ | refine blk_drew ?_ | refine blk_alloc ?_ _)); refine blk_put (cs := #[.int .i64 0, .int .i64 0, .int .i64 0, .int .i64 0, .int .i64 0]) ?_ 1 _ rfl; (with_reducible repeat (first | refine blk_drewN ?_ _ | refine blk_drew ?_ | refine blk_alloc ?_ _)); refine blk_put (cs := #[.int .i64 0, .int .i64 0, .int .i64 0, .int .i64 0, .int .i64 0]) ?_ 0 _ rfl; (with_reducible repeat (first | refine blk_drewN ?_ _ | refine blk_drew ?_ | refine blk_alloc ?_ _)); exact BK0.out) Tryz.underlying23 rfl (by kernel_rfl)) rfl ?_; exact ⟨Gv.rt, Gv.bw⟩
   ·replace c18 := Bool.eq_false_iff.mpr c18; subst c18; rw [if_neg (show ¬ (false = true) by decide)] at H
    (try dsimp only at H); replace H := Option.bind_eq_some_iff.mp H; obtain ⟨t5, A13, H⟩ := H
    (try dsimp only at H); have A21 := Gv.a0 A13; clear A13; have H' := Gv.a0 H; clear H; have hnb22 := NB1_0.out; have hnc22 := NB0_1.out; obtain ⟨z23_0, z23_1, z23_2, z23_3, z23_4⟩ := Gv.c5 BK1.out; obtain ⟨o23_0, o23_1, o23_2, o23_3, o23_4⟩ := Gv.f5 BK1.out
    go_wp2_with (first | ((with_reducible refine gate_callee (f := 85) rfl ?_); refine goesL_ (some 22) rfl rfl Tryz.func85 (by kernel_rfl) rfl #[.agg #[.int .i64 a0_0, .int .i64 a0_1, .int .i64 a0_2, .int .i64 a0_3, .int .i64 a0_4]] rfl Gv.lm ?_; (with_reducible refine (impl_AddrBytes.calls kj2 a0_0 a0_1 a0_2 a0_3 a0_4 t5 _ A21.out).mono ?_); rintro e w24 ⟨v20, rfl, ho0, hb⟩; refine ⟨_, rfl, ?_⟩; have HO14 := Gv.a0 (Kd.R_lower ho0 (below_size Gv.bw)); replace BK1 := Gv.b1 BK1 hb; replace BK0 := Gv.b1 BK0 hb; replace HB := Gv.hb hb; clear hb ho0; obtain ⟨Ao25, co25, eo25⟩ := Kd.R_slice HO14.out; subst eo25))
    go_loopg [25] kj2 (fun kq v25 w' => ∃ (x5_2 : List Int) (x25_2 : Int), v25 = .int .i64 x25_2 ∧ Aside0 (impl_Cut.l0 kq a1 x5_2 (t5.length : Int) x25_2 = some (r1, r2, r3, r4, r5)) ∧ Aside0 (kq ≤ kj2) ∧ Aside0 (Kd.R (Kd.int .u8) 5 w' w.heap.size (fun _ => True) (.slice Ao25 t5.length co25) x5_2) ∧ Aside0 (w'.heap[gb1]? = some (.cells #[.int .i64 a0_0, .int .i64 a0_1, .int .i64 a0_2, .int .i64 a0_3, .int .i64 a0_4] 23 (0, 0))) ∧ Aside0 (w'.heap[gb0]? = some (.cells #[.int .i64 0, .int .i64 0, .int .i64 0, .int .i64 0, .int .i64 0] 23 (0, 0))) ∧ Aside0 (Below w.heap.size w w'))
    case atStart => exact ⟨(t5), (0), Gv.rq, H', ⟨Nat.le_refl _⟩, ⟨Gv.kr HO14.out⟩, ⟨by (with_reducible repeat (first | refine blk_drewN ?_ _ | refine blk_drew ?_ | refine blk_alloc ?_ _)); exact BK1.out⟩, ⟨by (with_reducible repeat (first | refine blk_drewN ?_ _ | refine blk_drew ?_ | refine blk_alloc ?_ _)); exact BK0.out⟩, ⟨Gv.bw⟩⟩
    case round =>
     clear H'
     try clear c1
     try clear c2
     try clear p2
     try clear c7
     try clear c8
     try clear c10
     try clear c15
     try clear c18
     try clear c19
     try clear c22
     try clear z11_0 z11_1 z11_2 z11_3 z11_4
     try clear z13_0 z13_1 z13_2 z13_3 z13_4
     try clear z16_0 z16_1 z16_2 z16_3 z16_4
     try clear z20_0 z20_1 z20_2 z20_3 z20_4
     try clear z23_0 z23_1 z23_2 z23_3 z23_4
     try clear o11_0 o11_1 o11_2 o11_3 o11_4
     try clear o13_0 o13_1 o13_2 o13_3 o13_4
     try clear o16_0 o16_1 o16_2 o16_3 o16_4
     try clear o20_0 o20_1 o20_2 o20_3 o20_4
     try clear o23_0 o23_1 o23_2 o23_3 o23_4
     try clear p2
     obtain ⟨x5_2, x25_2, rfl, HA, HK2, HO_5, BK1, BK0, HB⟩ := hrel; have hl5_2 := (Kd.R_reads' HO_5.out).1; rw [hl5_2] at HO_5
     (try simp only [hl5_2])
     (try simp only [hl5_2] at BK1)
     (try simp only [hl5_2] at BK0); cases gk with
     | zero => exact absurd HA.out (by simp [impl_Cut.l0])
     | succ k2 =>
      have H := HA.out; clear HA; simp only [impl_Cut.l0] at H
      by_cases c26 : x25_2 < (t5.length : Int)
      ·rw [if_pos c26] at H; have c26b0 := decide_eq_true c26
       (try (have c26b9 := c26b0; rw [hl5_2] at c26b9))
       (try (have c26b8 := c26b0; rw [← hl5_2] at c26b8)); clear c26; replace H := Option.bind_eq_some_iff.mp H; obtain ⟨t6, A15, H⟩ := H
       (try dsimp only at H); have A27 := Gv.a0 A15; clear A15
       by_cases c28 : 0 ≤ x25_2
       rotate_left
       ·rw [if_neg c28] at H; cases H
       rw [if_pos c28] at H; have c28b0 := decide_eq_true c28; clear c28
       by_cases c29 : x25_2 < (x5_2.length : Int)
       rotate_left
       ·rw [if_neg c29] at H; cases H
       rw [if_pos c29] at H; have c29b0 := decide_eq_true c29; clear c29
       by_cases c30 : 0 ≤ t6
       rotate_left
       ·rw [if_neg c30] at H; cases H
       rw [if_pos c30] at H; have c30b0 := eq_true c30; have c30b1 := decide_eq_true c30; clear c30; obtain ⟨ji31, hji31⟩ : ∃ j_ : Int, (shr .u16 65280 t6) = j_ := ⟨_, rfl⟩
       replace H : (impl_Cut.l0 k2 a1 (x5_2.set (x25_2 : Int).toNat (Go.bits .and .u8 (rd x5_2 x25_2) ((ji31) % 256))) (t5.length : Int) (wrap64 (x25_2 + 1))) = some (r1, r2, r3, r4, r5) := by first | (rw [hji31] at H; exact H) | (simp only [hji31] at H ⊢; exact H)
       (try rw [hji31] at A27); have hji31_ : (65280 / 2 ^ min t6.toNat 16) = ji31 := hji31; have hji31z : t6 ≤ 16 → (65280 / 2 ^ t6.toNat) = ji31 := shr_small hji31; obtain ⟨y4, hy4⟩ : ∃ y_ : List Int, y_ = (x5_2.set (x25_2 : Int).toNat (Go.bits .and .u8 (rd x5_2 x25_2) ((ji31) % 256))) := ⟨_, rfl⟩
       replace H : (impl_Cut.l0 k2 a1 y4 (t5.length : Int) (wrap64 (x25_2 + 1))) = some (r1, r2, r3, r4, r5) := by first | (rw [hy4]; with_reducible exact H) | (have H2_ := (Option.bind_some _ _).symm.trans H; rw [hy4]; with_reducible exact H2_) | (have H2_ := (Option.bind_some _ _).symm.trans H; with_reducible exact H2_) | with_reducible exact H | (rw [hy4]; exact H) | exact H
       have Ny4 := Gv.a0 hy4; clear hy4; have H' := Gv.a0 H; clear H
       try go_wp2_with (first | ((with_reducible refine gate_callee (f := 103) rfl ?_); refine goesL_ (some 32) rfl rfl Tryz.func103 (by kernel_rfl) rfl #[.int .i64 (wrap64 (a1 - (wrap64 (8 * x25_2)))), .int .i64 0, .int .i64 8] rfl Gv.lm ?_; (with_reducible refine (impl_Clip.calls (wrap64 (a1 - (wrap64 (8 * x25_2)))) 0 8 t6 _ A27.out).mono ?_); rintro e w' ⟨rfl, ⟨nd, rfl⟩⟩; refine ⟨_, rfl, ?_⟩; (try (rw [drewN_self wr]; generalize hq_ : World.drewN wr _ = wr; have n0_ : Aside0 (Kd.R (Kd.int .u8) 5 wr w.heap.size (fun _ => True) (.slice Ao25 x5_2.length co25) x5_2) := ⟨by rw [← hq_]; exact (Gv.kr HO_5.out)⟩; have n1_ : Aside0 (wr.heap[gb1]? = some (.cells #[.int .i64 a0_0, .int .i64 a0_1, .int .i64 a0_2, .int .i64 a0_3, .int .i64 a0_4] 23 (0, 0))) := ⟨by rw [← hq_]; exact Gv.bk⟩; have n2_ : Aside0 (wr.heap[gb0]? = some (.cells #[.int .i64 0, .int .i64 0, .int .i64 0, .int .i64 0, .int .i64 0] 23 (0, 0))) := ⟨by rw [← hq_]; exact Gv.bk⟩; have n3_ : Aside0 (Below w.heap.size w wr) := ⟨by rw [← hq_]; exact Gv.bw⟩; clear HO_5 BK1 BK0 HB hq_; have HO_5 := n0_; have BK1 := n1_; have BK0 := n2_; have HB := n3_; clear n0_ n1_ n2_ n3_))))
       replace HO_5 := Gv.a0 (Kd.R_drew HO_5.out); replace BK1 := Gv.a0 (blk_drew BK1.out); replace BK0 := Gv.a0 (blk_drew BK0.out); replace HB := Gv.a0 (below_drew1 HB.out); have p3 : 0 ≤ (x25_2 : Int) := Gv.od; have q3 : x25_2 < (x5_2.length : Int) := Gv.od; obtain ⟨ad3, e3, u3_0⟩ := Kd.at_int (Kd.R_reads' HO_5.out).2.2 x25_2 p3 q3; cases e3; replace p3 := eq_true p3; replace q3 := eq_true q3; have p32 : 0 ≤ (x25_2 : Int) := Gv.od; have q32 : (x25_2 : Int) < ((x5_2.length : Int) : Int) := Gv.od; obtain ⟨go32, co32, eo32, gb32, gl32, cl32, HG32⟩ := Kd.R_form HO_5.out (by omega)
       (first | cases eo32 | (injection eo32 with ea_ en_ ec_; (first | subst ea_ | (injection ea_ with ea_; subst ea_)); subst ec_; clear en_)); have GB32 := Gv.a0 gb32; have GG32 := Gv.a0 HG32; clear gb32 gl32 HG32
       (first | simp only [add_plain] at u3_0 | skip); obtain ⟨u32_0, n32_0⟩ := Kd.R_celln 0 HO_5.out (x25_2 : Int) p32 q32; replace p32 := eq_true p32; replace q32 := eq_true q32; have HP34 := Kd.R_putn HO_5.out (x25_2 : Int) (Go.bits .and .u8 (rd x5_2 x25_2) ((ji31) % 256)); rw [← Ny4.out] at HP34; have HQ34 := Gv.a0 HP34; clear HP34; refine start_ (n := 10) (S := fun w' => w'.cell? ⟨go32, (x25_2).toNat, none⟩ = some (.int .u8 (rd x5_2 x25_2))) (ds := [9]) #[false, false, false, false, false, false, false, false, false, false] (by kernel_rfl) rfl rfl (u3_0) (fun hHeld => ?_); refine with_tabW impl_Cut.tab8 impl_Cut.bits8 (fun HT_ HW_ => ?_); generalize wr.drew = w33 at HO_5 BK1 BK0 HB GG32 HQ34 n32_0 u32_0 u3_0 hHeld ⊢; refine Gv.pu 0 (some 33) HT_ ?_; refine Gv.pu 1 (some 34) HT_ ?_; refine Gv.pu 2 (some 35) HT_ ?_; refine Gv.pu 4 (some 37) HT_ ?_; refine Gv.pu 5 (some 38) HT_ ?_; refine Gv.pu 6 (some 39) HT_ ?_; refine take_ (i := 3) (N := some 36) (v := ?_) (a' := ?_) #[true, true, true, true, true, true, true, false, false, false] rfl rfl (take_ofW HT_.out HW_.out (by kernel_rfl)) (fun _ _ _ h => h) (Or.inl ⟨by rfl, ?_⟩) hHeld ?_ ?_; rotate_left
       ·intro w' s0
        go_simp
        with_reducible rfl
       rotate_left
       ·simp only [Act.put, List.setIfInBounds_toArray, List.set_cons_zero, List.set_cons_succ, i64_w, i32_w]
        rfl
       refine Gv.pu 7 (some 40) HT_ ?_; refine Gv.pu 8 (some 41) HT_ ?_; refine last_ (i := 9) (N := none) #[true, true, true, true, true, true, true, true, true, true] rfl rfl (one_of HT_.out (by kernel_rfl)) (by decide) (fun K hK => ?_); refine skip_ (w1 := ?_) (by rfl) rfl ?_ ?_; rotate_left
       ·go_simp
        rfl
       refine hK.out _ _ ?_; clear hK K; refine done_ (done_of HT_.out (by kernel_rfl)) ?_
       try go_wp2
       (try simp only [← hl5_2])
       go_roundg k2
       case measure => have := HJ2.out; have := HK2.out; omega
       case rel => exact ⟨(y4), (wrap64 (x25_2 + 1)), Gv.rq, H', ⟨by have := HJ2.out; have := HK2.out; omega⟩, ⟨by (try simp only [hl5_2]); (with_reducible repeat (first | apply Kd.R_alloc | apply Kd.R_drewN | apply Kd.R_drew)); exact HQ34.out⟩, ⟨by (try simp only [hl5_2]); (with_reducible repeat (first | refine blk_drewN ?_ _ | refine blk_drew ?_ | refine blk_alloc ?_ _)); refine blk_far ?_ (by have h_ := Kd.R_ne HO_5.out BK1.out (by decide); intro e_; exact h_ (by rw [e_]; rfl)) _; (with_reducible repeat (first | refine blk_drewN ?_ _ | refine blk_drew ?_ | refine blk_alloc ?_ _)); exact BK1.out⟩, ⟨by (try simp only [hl5_2]); (with_reducible repeat (first | refine blk_drewN ?_ _ | refine blk_drew ?_ | refine blk_alloc ?_ _)); refine blk_far ?_ (by have h_ := Kd.R_ne HO_5.out BK0.out (by decide); intro e_; exact h_ (by rw [e_]; rfl)) _; (with_reducible repeat (first | refine blk_drewN ?_ _ | refine blk_drew ?_ | refine blk_alloc ?_ _)); exact BK0.out⟩, ⟨Gv.bw⟩⟩
      ·rw [if_neg c26] at H; have c26b0 := decide_eq_false c26
       (try (have c26b9 := c26b0; rw [hl5_2] at c26b9))
       (try (have c26b8 := c26b0; rw [← hl5_2] at c26b8)); clear c26; replace H := Option.bind_eq_some_iff.mp H; obtain ⟨⟨t7, t8, t9, t10, t16, t19⟩, A17, H⟩ := H
       (try dsimp only at H); have A35 := Gv.a0 A17; clear A17; simp only [Option.some.injEq, Prod.mk.injEq] at H; obtain ⟨rfl, rfl, rfl, rfl, rfl⟩ := H
       go_wp2_with (first | ((with_reducible refine gate_callee (f := 54) rfl ?_); refine goesL_ (some 45) rfl rfl Tryz.func54 (by kernel_rfl) rfl #[.slice Ao25 x5_2.length co25] rfl Gv.lm ?_; (with_reducible refine (impl_AddrOf.calls k2 _ _ x5_2 t7 t8 t9 t10 t16 t19 _ ?side1 ?side2 A35.out).mono ?_); (case side1 => repeat (first | exact (Kd.R_reads' HO_5.out).2.2 | (with_reducible refine Kd.C_alloc ?_ _) | (with_reducible refine Kd.C_drewN ?_ _) | (with_reducible refine Kd.C_drew ?_))); (case side2 => exact (Kd.R_reads' HO_5.out).2.1); rintro e w36 ⟨rfl, hb⟩; refine ⟨_, rfl, ?_⟩; replace HO_5 := Gv.a0 (Kd.R_below (Gv.kr HO_5.out) hb); replace BK1 := Gv.b1 BK1 hb; replace BK0 := Gv.b1 BK0 hb; replace HB := Gv.hb hb; clear hb) | ((with_reducible refine gate_dst (N := 8) rfl ?_); refine Gv.bev 8 23 #[.int .i64 0, .int .i64 0, .int .i64 0, .int .i64 0, .int .i64 0] ?_; intro gb2 hg w37 hbox hb; replace HO_5 := Gv.a0 (Kd.R_below (Gv.kr HO_5.out) hb); have BK2 := Gv.a0 (hbox); have GW2 := Gv.a0 ((Gv.ble hg Gv.bw : w.heap.size ≤ gb2)); have GE2 := GW2; replace HB := Gv.hb hb; have NB1_2 := Gv.a0 ((Gv.nlt hg (Gv.kb BK1.out) : gb1 ≠ gb2)); have NB2_1 := Gv.a0 ((Gv.ngt hg (Gv.kb BK1.out) : gb2 ≠ gb1)); replace BK1 := Gv.b1 BK1 hb; have NB0_2 := Gv.a0 ((Gv.nlt hg (Gv.kb BK0.out) : gb0 ≠ gb2)); have NB2_0 := Gv.a0 ((Gv.ngt hg (Gv.kb BK0.out) : gb2 ≠ gb0)); replace BK0 := Gv.b1 BK0 hb; clear hb hbox hg; have hnb38 := NB2_1.out; have hnc38 := NB1_2.out; have hnb39 := NB2_0.out; have hnc39 := NB0_2.out; obtain ⟨z40_0, z40_1, z40_2, z40_3, z40_4⟩ := Gv.c5 BK2.out; obtain ⟨o40_0, o40_1, o40_2, o40_3, o40_4⟩ := Gv.f5 BK2.out; have hnb41 := NB0_1.out; have hnc41 := NB1_0.out; obtain ⟨z42_0, z42_1, z42_2, z42_3, z42_4⟩ := Gv.c5 BK0.out; obtain ⟨o42_0, o42_1, o42_2, o42_3, o42_4⟩ := Gv.f5 BK0.out))
       refine bodyPost_ret (results_cell_row rfl _ _ gb0 23 #[.int .i64 t7, .int .i64 t8, .int .i64 t9, .int .i64 t10, .int .i64 t16] (0, 0) _ rfl (by (with_reducible repeat (first | refine blk_drewN ?_ _ | refine blk_drew ?_ | refine blk_alloc ?_ _)); refine blk_put (cs := #[.int .i64 t7, .int .i64 t8, .int .i64 t9, .int .i64 t10, .int .i64 0]) ?_ 4 _ rfl; (with_reducible repeat (first | refine blk_drewN ?_ _ | refine blk_drew ?_ | refine blk_alloc ?_ _)); refine blk_put (cs := #[.int .i64 t7, .int .i64 t8, .int .i64 t9, .int .i64 0, .int .i64 0]) ?_ 3 _ rfl; (with_reducible repeat (first | refine blk_drewN ?_ _ | refine blk_drew ?_ | refine blk_alloc ?_ _)); refine blk_put (cs := #[.int .i64 t7, .int .i64 t8, .int .i64 0, .int .i64 0, .int .i64 0]) ?_ 2 _ rfl; (with_reducible repeat (first | refine blk_drewN ?_ _ | refine blk_drew ?_ | refine blk_alloc ?_ _)); refine blk_put (cs := #[.int .i64 t7, .int .i64 0, .int .i64 0, .int .i64 0, .int .i64 0]) ?_ 1 _ rfl; (with_reducible repeat (first | refine blk_drewN ?_ _ | refine blk_drew ?_ | refine blk_alloc ?_ _)); refine blk_put (cs := #[.int .i64 0, .int .i64 0, .int .i64 0, .int .i64 0, .int .i64 0]) ?_ 0 _ rfl; (with_reducible repeat (first | refine blk_drewN ?_ _ | refine blk_drew ?_ | refine blk_alloc ?_ _)); refine blk_far ?_ NB0_2.out _; (with_reducible repeat (first | refine blk_drewN ?_ _ | refine blk_drew ?_ | refine blk_alloc ?_ _)); refine blk_far ?_ NB0_2.out _; (with_reducible repeat (first | refine blk_drewN ?_ _ | refine blk_drew ?_ | refine blk_alloc ?_ _)); refine blk_far ?_ NB0_2.out _; (with_reducible repeat (first | refine blk_drewN ?_ _ | refine blk_drew ?_ | refine blk_alloc ?_ _)); refine blk_far ?_ NB0_2.out _; (with_reducible repeat (first | refine blk_drewN ?_ _ | refine blk_drew ?_ | refine blk_alloc ?_ _)); refine blk_far ?_ NB0_2.out _; (with_reducible repeat (first | refine blk_drewN ?_ _ | refine blk_drew ?_ | refine blk_alloc ?_ _)); exact BK0.out) Tryz.underlying23 rfl (by kernel_rfl)) rfl ?_; exact ⟨Gv.rt, Gv.bw⟩

end Go.Proofs.YtbihbbkdciebhaaGreatDoor.PRr
