/- Plain Lean functions of a law's Go functions, their contracts, by a program of this session (wip/pr.py over the kit's print). -/
import Derived.Test.YtbihbbkdciebhaaGreatDoorPRrx0
import Derived.Test.YtbihbbkdciebhaaGreatDoorPRrx2
import Derived.Test.YtbihbbkdciebhaaGreatDoorPRrx3
namespace Go.Proofs.YtbihbbkdciebhaaGreatDoor.PRr
open Go.RowKit Go.Proofs.YtbihbbkdciebhaaGreatDoorW.PrintWords Go.Proofs.YtbihbbkdciebhaaGreatDoorW.PrintLast Go.Proofs.YtbihbbkdciebhaaGreatDoorW.PrintMore
attribute [local go_sem] max2_int min2_int max_two min_two max_three min_three max_four min_four   -- for this text's walks alone
set_option linter.unusedVariables false
set_option linter.unusedSimpArgs false

attribute [local go_sem high] eqA25
/-! ### spec_AddrText: function 40 -/
mutual
def spec_AddrText.j1 : Nat → List Int → ByteArray → Option (ByteArray)
 | 0, _, _ => none
 | k + 1, x3, x4 => if (x3.length : Int) = 16 then (spec_AddrText.l1 k x3 x4 0) else (some x4)
def spec_AddrText.l1 : Nat → List Int → ByteArray → Int → Option (ByteArray)
 | 0, _, _, _ => none
 | k + 1, x3, x4, x6 => if x6 < 8 then (if x6 > 0 then (if x4.size + 1 ≤ 9223372036854775807 then (if 0 ≤ (wrap64 (2 * x6)) then (if (wrap64 (2 * x6)) < (x3.length : Int) then (if 0 ≤ (wrap64 ((wrap64 (2 * x6)) + 1)) then (if (wrap64 ((wrap64 (2 * x6)) + 1)) < (x3.length : Int) then ((spec_l03Hex.f k (wrap64 ((wrap64 (256 * (wrap64 (rd x3 (wrap64 (2 * x6)))))) + (wrap64 (rd x3 (wrap64 ((wrap64 (2 * x6)) + 1))))))).bind fun t209 => (if (x4 ++ (⟨#[58]⟩ : ByteArray)).size + t209.size ≤ 9223372036854775807 then (spec_AddrText.l1 k x3 ((x4 ++ (⟨#[58]⟩ : ByteArray)) ++ t209) (wrap64 (x6 + 1))) else (none))) else (none)) else (none)) else (none)) else (none)) else (none)) else (if 0 ≤ (wrap64 (2 * x6)) then (if (wrap64 (2 * x6)) < (x3.length : Int) then (if 0 ≤ (wrap64 ((wrap64 (2 * x6)) + 1)) then (if (wrap64 ((wrap64 (2 * x6)) + 1)) < (x3.length : Int) then ((spec_l03Hex.f k (wrap64 ((wrap64 (256 * (wrap64 (rd x3 (wrap64 (2 * x6)))))) + (wrap64 (rd x3 (wrap64 ((wrap64 (2 * x6)) + 1))))))).bind fun t212 => (if x4.size + t212.size ≤ 9223372036854775807 then (spec_AddrText.l1 k x3 (x4 ++ t212) (wrap64 (x6 + 1))) else (none))) else (none)) else (none)) else (none)) else (none))) else (some x4)
def spec_AddrText.l0 : Nat → List Int → ByteArray → Int → Option (ByteArray)
 | 0, _, _, _ => none
 | k + 1, x3, x4, x5 => if x5 < 4 then (if x5 > 0 then (if x4.size + 1 ≤ 9223372036854775807 then (if 0 ≤ x5 then (if x5 < (x3.length : Int) then ((spec_NumText.f k (wrap64 (rd x3 x5))).bind fun t204 => (if (x4 ++ (⟨#[46]⟩ : ByteArray)).size + t204.size ≤ 9223372036854775807 then (spec_AddrText.l0 k x3 ((x4 ++ (⟨#[46]⟩ : ByteArray)) ++ t204) (wrap64 (x5 + 1))) else (none))) else (none)) else (none)) else (none)) else (if 0 ≤ x5 then (if x5 < (x3.length : Int) then ((spec_NumText.f k (wrap64 (rd x3 x5))).bind fun t206 => (if x4.size + t206.size ≤ 9223372036854775807 then (spec_AddrText.l0 k x3 (x4 ++ t206) (wrap64 (x5 + 1))) else (none))) else (none)) else (none))) else (spec_AddrText.j1 k x3 x4)
end
def spec_AddrText.f (k : Nat) (a0_0 : Int) (a0_1 : Int) (a0_2 : Int) (a0_3 : Int) (a0_4 : Int) : Option (ByteArray) := (spec_AddrBytes.f a0_0 a0_1 a0_2 a0_3 a0_4).bind fun t200 => (if (t200.length : Int) = 4 then (spec_AddrText.l0 k t200 (⟨#[]⟩ : ByteArray) 0) else (spec_AddrText.j1 k t200 (⟨#[]⟩ : ByteArray)))
def spec_AddrText.T16 : Bool × List (List Nat × List Nat) := (true, [([], []), ([], []), ([], []), ([2], [2]), ([1, 3], [1, 3]), ([4], [4]), ([5], [5]), ([6], [6]), ([], []), ([], []), ([9], [9]), ([10], [10]), ([8, 11], [8, 11]), ([12], [12]), ([13], [13]), ([7, 14], [7, 14]), ([15], [15]), ([0, 16], [0, 16]), ([17, 16, 0, 1, 2, 3, 4, 5, 6, 7, 8, 9, 10, 11, 12, 13, 14, 15, 16, 17], [0, 17])])
def spec_AddrText.B16 : List Nat := [0, 0, 0, 4, 14, 30, 62, 126, 0, 0, 512, 1536, 3840, 7936, 16128, 32766, 65534, 131071, 262143]
theorem spec_AddrText.tab16 : rtab .any (opsOf Tryz.f40 16) = spec_AddrText.T16 := by kernel_rfl
theorem spec_AddrText.bits16 : waitsOk spec_AddrText.T16.2 spec_AddrText.B16 = true := by kernel_rfl
set_option maxHeartbeats 8000000 in
set_option maxRecDepth 100000 in
theorem spec_AddrText.calls (k : Nat) (a0_0 : Int) (a0_1 : Int) (a0_2 : Int) (a0_3 : Int) (a0_4 : Int) (r : ByteArray) (w : World) (h : spec_AddrText.f k a0_0 a0_1 a0_2 a0_3 a0_4 = some r) :
  Calls Tryz.prog 40 #[.agg #[.int .i64 a0_0, .int .i64 a0_1, .int .i64 a0_2, .int .i64 a0_3, .int .i64 a0_4]] w fun e w' => e = .returned (.string r) ∧ Below w.heap.size w w' := by
 have hu23 := Tryz.underlying23; have HB := Gv.a0 (Below.refl w.heap.size w); unfold spec_AddrText.f at h; have H := h; clear h; replace H := Option.bind_eq_some_iff.mp H; obtain ⟨t0, A20, H⟩ := H
 (try dsimp only at H); have A2 := Gv.a0 A20; clear A20; have HC3 := Gv.a0 H; clear H
 go_enter Tryz.func40, Tryz.ntmps40
 go_upto_if 11 with (first | ((with_reducible refine gate_dst (N := 1) rfl ?_); refine Gv.bev 1 23 #[.int .i64 a0_0, .int .i64 a0_1, .int .i64 a0_2, .int .i64 a0_3, .int .i64 a0_4] ?_; intro gb1 hg w4 hbox hb; have BK1 := Gv.a0 (hbox); have GW1 := Gv.a0 ((Gv.ble hg Gv.bw : w.heap.size ≤ gb1)); have GE1 := GW1; replace HB := Gv.hb hb; clear hb hbox hg; obtain ⟨z5_0, z5_1, z5_2, z5_3, z5_4⟩ := Gv.c5 BK1.out; obtain ⟨o5_0, o5_1, o5_2, o5_3, o5_4⟩ := Gv.f5 BK1.out) | ((with_reducible refine gate_callee (f := 66) rfl ?_); refine goesL_ (some 8) rfl rfl Tryz.func66 (by kernel_rfl) rfl #[.agg #[.int .i64 a0_0, .int .i64 a0_1, .int .i64 a0_2, .int .i64 a0_3, .int .i64 a0_4]] rfl Gv.lm ?_; (with_reducible refine (spec_AddrBytes.calls a0_0 a0_1 a0_2 a0_3 a0_4 t0 _ A2.out).mono ?_); rintro e w6 ⟨v14, rfl, ho0, hb⟩; refine ⟨_, rfl, ?_⟩; have HO12 := Gv.a0 (Kd.R_lower ho0 (below_size Gv.bw)); replace BK1 := Gv.b1 BK1 hb; replace HB := Gv.hb hb; clear hb ho0; obtain ⟨Ao7, co7, eo7⟩ := Kd.R_slice HO12.out; subst eo7))
 (try simp only [Act.put, List.setIfInBounds_toArray, List.set_cons_zero, List.set_cons_succ])
 go_cut [4] (fun v4 wc => ∃ (kq : Nat) (x4_2 : ByteArray), v4 = .string x4_2 ∧ Aside0 (spec_AddrText.j1 kq t0 x4_2 = some r) ∧ Aside0 (kq ≤ k) ∧ Aside0 (Kd.R (Kd.int .u8) 5 wc w.heap.size (fun _ => True) (.slice Ao7 t0.length co7) t0) ∧ Aside0 (wc.heap[gb1]? = some (.cells #[.int .i64 a0_0, .int .i64 a0_1, .int .i64 a0_2, .int .i64 a0_3, .int .i64 a0_4] 23 (0, 0))) ∧ Aside0 (Below w.heap.size w wc))
 case first =>
  have H := HC3.out; clear HC3
  by_cases c8 : (t0.length : Int) = 4
  rotate_left
  ·rw [if_neg c8] at H; have c8b0 : ((t0.length : Int) == 4) = false := beq_eq_false_iff_ne.mpr c8; have c8b1 : ((t0.length : Int) != 4) = true := bne_iff_ne.mpr c8
   (first | rw [c8b0] | (simp only [i64_w, i32_w]; rw [c8b0]) | skip); have H' := Gv.a0 H; clear H
   go_wp2
   go_meet
   case rel => exact ⟨_, ((⟨#[]⟩ : ByteArray)), Gv.rq, H', ⟨by first | omega | exact Nat.le_refl _⟩, ⟨Gv.kr HO12.out⟩, ⟨by (with_reducible repeat (first | refine blk_drewN ?_ _ | refine blk_drew ?_ | refine blk_alloc ?_ _)); exact BK1.out⟩, ⟨Gv.bw⟩⟩
  rw [if_pos c8] at H; have c8b0 : ((t0.length : Int) == 4) = true := beq_iff_eq.mpr c8; have c8b1 : ((t0.length : Int) != 4) = false := bne_eq_false_iff_eq.mpr c8; clear c8
  (first | rw [c8b0] | (simp only [i64_w, i32_w]; rw [c8b0]) | skip); have H' := Gv.a0 H; clear H
  go_wp2
  go_loopg [4, 5] k (fun kq v4 v5 w' => ∃ (x4_1 : ByteArray) (x5_1 : Int), v4 = .string x4_1 ∧ v5 = .int .i64 x5_1 ∧ Aside0 (spec_AddrText.l0 kq t0 x4_1 x5_1 = some r) ∧ Aside0 (kq ≤ k) ∧ Aside0 (Kd.R (Kd.int .u8) 5 w' w.heap.size (fun _ => True) (.slice Ao7 t0.length co7) t0) ∧ Aside0 (w'.heap[gb1]? = some (.cells #[.int .i64 a0_0, .int .i64 a0_1, .int .i64 a0_2, .int .i64 a0_3, .int .i64 a0_4] 23 (0, 0))) ∧ Aside0 (Below w.heap.size w w'))
  case atStart => exact ⟨((⟨#[]⟩ : ByteArray)), (0), Gv.rq, Gv.rq, H', ⟨Nat.le_refl _⟩, ⟨Gv.kr HO12.out⟩, ⟨by (with_reducible repeat (first | refine blk_drewN ?_ _ | refine blk_drew ?_ | refine blk_alloc ?_ _)); exact BK1.out⟩, ⟨Gv.bw⟩⟩
  case round =>
   clear H'
   try clear p2
   try clear c4
   try clear c6
   try clear c8
   try clear c8b0
   try clear c8b1
   try clear z5_0 z5_1 z5_2 z5_3 z5_4
   try clear o5_0 o5_1 o5_2 o5_3 o5_4
   obtain ⟨x4_1, x5_1, rfl, rfl, HA, HK1, HO_3, BK1, HB⟩ := hrel; cases gk with
   | zero => exact absurd HA.out (by simp [spec_AddrText.l0])
   | succ k1 =>
    have H := HA.out; clear HA; simp only [spec_AddrText.l0] at H
    by_cases c9 : x5_1 < 4
    rotate_left
    ·rw [if_neg c9] at H; have c9b0 := decide_eq_false c9; clear c9; have H' := Gv.a0 H; clear H
     go_wp2
     go_meet
     case rel => exact ⟨_, (x4_1), Gv.rq, H', ⟨by have := HK1.out; first | omega | exact Nat.le_refl _⟩, ⟨Gv.kr HO_3.out⟩, ⟨by (with_reducible repeat (first | refine blk_drewN ?_ _ | refine blk_drew ?_ | refine blk_alloc ?_ _)); exact BK1.out⟩, ⟨Gv.bw⟩⟩
    rw [if_pos c9] at H; have c9b0 := decide_eq_true c9; clear c9
    by_cases c10 : x5_1 > 0
    ·rw [if_pos c10] at H; have c10b0 : decide (0 < x5_1) = true := decide_eq_true c10; clear c10
     by_cases c11 : x4_1.size + 1 ≤ 9223372036854775807
     rotate_left
     ·rw [if_neg c11] at H; cases H
     rw [if_pos c11] at H; have c11b0 := eq_true c11; have c11b1 := decide_eq_true c11
     try have c11b2 : (9223372036854775807 < x4_1.size + 1) = False := eq_false (Nat.not_lt.2 c11)
     by_cases c12 : 0 ≤ x5_1
     rotate_left
     ·rw [if_neg c12] at H; cases H
     rw [if_pos c12] at H; have c12b0 := decide_eq_true c12; clear c12
     by_cases c13 : x5_1 < (t0.length : Int)
     rotate_left
     ·rw [if_neg c13] at H; cases H
     rw [if_pos c13] at H; have c13b0 := decide_eq_true c13; clear c13; replace H := Option.bind_eq_some_iff.mp H; obtain ⟨t10, A13, H⟩ := H
     (try dsimp only at H); have A14 := Gv.a0 A13; clear A13
     by_cases c15 : (x4_1 ++ (⟨#[46]⟩ : ByteArray)).size + t10.size ≤ 9223372036854775807
     rotate_left
     ·rw [if_neg c15] at H; cases H
     rw [if_pos c15] at H; have c15b0 := eq_true c15; have c15b1 := decide_eq_true c15; have c15s : x4_1.size + 1 + t10.size ≤ 9223372036854775807 := (by have h_ := c15; simp only [ByteArray.size_append] at h_; exact h_); have c15b3 := eq_true c15s; have c15b4 : decide (x4_1.size + 1 + t10.size ≤ 9223372036854775807) = true := decide_eq_true c15s; have c15b5 : (9223372036854775807 < x4_1.size + 1 + t10.size) = False := eq_false (Nat.not_lt.2 c15s); clear c15s
     try have c15b2 : (9223372036854775807 < (x4_1 ++ (⟨#[46]⟩ : ByteArray)).size + t10.size) = False := eq_false (Nat.not_lt.2 c15)
     have H' := Gv.a0 H; clear H; have p3 : 0 ≤ (x5_1 : Int) := Gv.od; have q3 : x5_1 < (t0.length : Int) := Gv.od; obtain ⟨ad3, e3, u3_0⟩ := Kd.at_int (Kd.R_reads' HO_3.out).2.2 x5_1 p3 q3; cases e3; replace p3 := eq_true p3; replace q3 := eq_true q3
     go_wp2_with (first | ((with_reducible refine gate_callee (f := 22) rfl ?_); refine goesL_ (some 26) rfl rfl Tryz.func22 (by kernel_rfl) rfl #[.int .i64 (wrap64 (rd t0 x5_1))] rfl Gv.lm ?_; (with_reducible refine (spec_NumText.calls k1 (wrap64 (rd t0 x5_1)) t10 _ A14.out).mono ?_); rintro e w16 ⟨rfl, hb⟩; refine ⟨_, rfl, ?_⟩; replace HO_3 := Gv.a0 (Kd.R_below (Gv.kr HO_3.out) hb); replace BK1 := Gv.b1 BK1 hb; replace HB := Gv.hb hb; clear hb))
     go_roundg k1
     case measure => have := HK1.out; omega
     case rel => exact ⟨((x4_1 ++ (⟨#[46]⟩ : ByteArray)) ++ t10), (wrap64 (x5_1 + 1)), Gv.rq, Gv.rq, H', ⟨by have := HK1.out; omega⟩, ⟨Gv.kr HO_3.out⟩, ⟨by (with_reducible repeat (first | refine blk_drewN ?_ _ | refine blk_drew ?_ | refine blk_alloc ?_ _)); exact BK1.out⟩, ⟨Gv.bw⟩⟩
    ·rw [if_neg c10] at H; have c10b0 : decide (0 < x5_1) = false := decide_eq_false c10; clear c10
     by_cases c17 : 0 ≤ x5_1
     rotate_left
     ·rw [if_neg c17] at H; cases H
     rw [if_pos c17] at H; have c17b0 := decide_eq_true c17; clear c17
     by_cases c18 : x5_1 < (t0.length : Int)
     rotate_left
     ·rw [if_neg c18] at H; cases H
     rw [if_pos c18] at H; have c18b0 := decide_eq_true c18; clear c18; replace H := Option.bind_eq_some_iff.mp H; obtain ⟨t11, A15, H⟩ := H
     (try dsimp only at H); have A19 := Gv.a0 A15; clear A15
     by_cases c20 : x4_1.size + t11.size ≤ 9223372036854775807
     ·rw [if_pos c20] at H; have c20b0 := eq_true c20; have c20b1 := decide_eq_true c20
      try have c20b2 : (9223372036854775807 < x4_1.size + t11.size) = False := eq_false (Nat.not_lt.2 c20)
      have H' := Gv.a0 H; clear H; have p4 : 0 ≤ (x5_1 : Int) := Gv.od; have q4 : x5_1 < (t0.length : Int) := Gv.od; obtain ⟨ad4, e4, u4_0⟩ := Kd.at_int (Kd.R_reads' HO_3.out).2.2 x5_1 p4 q4; cases e4; replace p4 := eq_true p4; replace q4 := eq_true q4
      go_wp2_with (first | ((with_reducible refine gate_callee (f := 22) rfl ?_); refine goesL_ (some 26) rfl rfl Tryz.func22 (by kernel_rfl) rfl #[.int .i64 (wrap64 (rd t0 x5_1))] rfl Gv.lm ?_; (with_reducible refine (spec_NumText.calls k1 (wrap64 (rd t0 x5_1)) t11 _ A19.out).mono ?_); rintro e w21 ⟨rfl, hb⟩; refine ⟨_, rfl, ?_⟩; replace HO_3 := Gv.a0 (Kd.R_below (Gv.kr HO_3.out) hb); replace BK1 := Gv.b1 BK1 hb; replace HB := Gv.hb hb; clear hb))
      go_roundg k1
      case measure => have := HK1.out; omega
      case rel => exact ⟨(x4_1 ++ t11), (wrap64 (x5_1 + 1)), Gv.rq, Gv.rq, H', ⟨by have := HK1.out; omega⟩, ⟨Gv.kr HO_3.out⟩, ⟨by (with_reducible repeat (first | refine blk_drewN ?_ _ | refine blk_drew ?_ | refine blk_alloc ?_ _)); exact BK1.out⟩, ⟨Gv.bw⟩⟩
     ·rw [if_neg c20] at H; cases H
 case rest =>
  clear HC3
  try clear c1
  try clear c2
  try clear p2
  try clear q2
  try clear hx2
  try clear c4
  try clear c6
  try clear p6
  try clear c8
  try clear c8b0
  try clear c8b1
  try clear c9
  try clear c9b0
  try clear c10
  try clear c10b0
  try clear c11
  try clear c11b0
  try clear c11b1
  try clear c11b2
  try clear c12
  try clear c12b0
  try clear c13
  try clear c13b0
  try clear c15
  try clear c15b0
  try clear c15b1
  try clear c15b2
  try clear c17
  try clear c17b0
  try clear c18
  try clear c18b0
  try clear c20
  try clear c20b0
  try clear c20b1
  try clear c20b2
  try clear p20
  try clear q20
  try clear hx20
  try clear z5_0 z5_1 z5_2 z5_3 z5_4
  try clear o5_0 o5_1 o5_2 o5_3 o5_4
  try clear u3_0
  try clear u4_0
  try clear p2
  try clear p3
  try clear p4
  try clear q3
  try clear q4
  obtain ⟨kq, x4_2, rfl, HA, HJ2, HO_3, BK1, HB⟩ := hcut; cases kq with
  | zero => exact absurd HA.out (by simp [spec_AddrText.j1])
  | succ kj2 =>
   have H := HA.out; clear HA; simp only [spec_AddrText.j1] at H
   by_cases c22 : (t0.length : Int) = 16
   rotate_left
   ·rw [if_neg c22] at H; have c22b0 : ((t0.length : Int) == 16) = false := beq_eq_false_iff_ne.mpr c22; have c22b1 : ((t0.length : Int) != 16) = true := bne_iff_ne.mpr c22; obtain rfl := Option.some.inj H
    go_wp2
    go_ret
    exact ⟨Gv.rt, Gv.bw⟩

   rw [if_pos c22] at H; have c22b0 : ((t0.length : Int) == 16) = true := beq_iff_eq.mpr c22; have c22b1 : ((t0.length : Int) != 16) = false := bne_eq_false_iff_eq.mpr c22; clear c22; have H' := Gv.a0 H; clear H
   go_wp2
   go_loopg [4, 6] kj2 (fun kq v4 v6 w' => ∃ (x4_2 : ByteArray) (x6_2 : Int), v4 = .string x4_2 ∧ v6 = .int .i64 x6_2 ∧ Aside0 (spec_AddrText.l1 kq t0 x4_2 x6_2 = some r) ∧ Aside0 (kq ≤ kj2) ∧ Aside0 (Kd.R (Kd.int .u8) 5 w' w.heap.size (fun _ => True) (.slice Ao7 t0.length co7) t0) ∧ Aside0 (w'.heap[gb1]? = some (.cells #[.int .i64 a0_0, .int .i64 a0_1, .int .i64 a0_2, .int .i64 a0_3, .int .i64 a0_4] 23 (0, 0))) ∧ Aside0 (Below w.heap.size w w'))
   case atStart => exact ⟨(x4_2), (0), Gv.rq, Gv.rq, H', ⟨Nat.le_refl _⟩, ⟨Gv.kr HO_3.out⟩, ⟨by (with_reducible repeat (first | refine blk_drewN ?_ _ | refine blk_drew ?_ | refine blk_alloc ?_ _)); exact BK1.out⟩, ⟨Gv.bw⟩⟩
   case round =>
    clear H'
    try clear c1
    try clear c2
    try clear p2
    try clear q2
    try clear hx2
    try clear c4
    try clear c6
    try clear p6
    try clear c8
    try clear c8b0
    try clear c8b1
    try clear c9
    try clear c9b0
    try clear c10
    try clear c10b0
    try clear c11
    try clear c11b0
    try clear c11b1
    try clear c11b2
    try clear c12
    try clear c12b0
    try clear c13
    try clear c13b0
    try clear c15
    try clear c15b0
    try clear c15b1
    try clear c15b2
    try clear c17
    try clear c17b0
    try clear c18
    try clear c18b0
    try clear c20
    try clear c20b0
    try clear c20b1
    try clear c20b2
    try clear p20
    try clear q20
    try clear hx20
    try clear c22
    try clear c22b0
    try clear c22b1
    try clear z5_0 z5_1 z5_2 z5_3 z5_4
    try clear o5_0 o5_1 o5_2 o5_3 o5_4
    try clear u3_0
    try clear u4_0
    try clear p2
    try clear p20
    try clear p3
    try clear p4
    try clear p6
    try clear q2
    try clear q20
    try clear q3
    try clear q4
    obtain ⟨x4_2, x6_2, rfl, rfl, HA, HK2, HO_3, BK1, HB⟩ := hrel; cases gk with
    | zero => exact absurd HA.out (by simp [spec_AddrText.l1])
    | succ k2 =>
     have H := HA.out; clear HA; simp only [spec_AddrText.l1] at H
     by_cases c23 : x6_2 < 8
     rotate_left
     ·rw [if_neg c23] at H; have c23b0 := decide_eq_false c23; clear c23; obtain rfl := Option.some.inj H
      go_wp2
      go_ret
      exact ⟨Gv.rt, Gv.bw⟩
     rw [if_pos c23] at H; have c23b0 := decide_eq_true c23; clear c23
     by_cases c24 : x6_2 > 0
     ·rw [if_pos c24] at H; have c24b0 : decide (0 < x6_2) = true := decide_eq_true c24; clear c24
      by_cases c25 : x4_2.size + 1 ≤ 9223372036854775807
      rotate_left
      ·rw [if_neg c25] at H; cases H
      rw [if_pos c25] at H; have c25b0 := eq_true c25; have c25b1 := decide_eq_true c25
      try have c25b2 : (9223372036854775807 < x4_2.size + 1) = False := eq_false (Nat.not_lt.2 c25)
      obtain ⟨ji26, hji26⟩ : ∃ j_ : Int, (wrap64 (2 * x6_2)) = j_ := ⟨_, rfl⟩
      replace H : (if 0 ≤ (ji26) then (if (ji26) < (t0.length : Int) then (if 0 ≤ (wrap64 ((ji26) + 1)) then (if (wrap64 ((ji26) + 1)) < (t0.length : Int) then ((spec_l03Hex.f k2 (wrap64 ((wrap64 (256 * (wrap64 (rd t0 (ji26))))) + (wrap64 (rd t0 (wrap64 ((ji26) + 1))))))).bind fun t2 => (if (x4_2 ++ (⟨#[58]⟩ : ByteArray)).size + t2.size ≤ 9223372036854775807 then (spec_AddrText.l1 k2 t0 ((x4_2 ++ (⟨#[58]⟩ : ByteArray)) ++ t2) (wrap64 (x6_2 + 1))) else (none))) else (none)) else (none)) else (none)) else (none)) = some r := by first | (rw [hji26] at H; exact H) | (simp only [hji26] at H ⊢; exact H)
      have hji26w : (IntKind.i64.wrap (2 * x6_2)) = ji26 := (i64_w _).trans hji26
      by_cases c27 : 0 ≤ (ji26)
      rotate_left
      ·rw [if_neg c27] at H; cases H
      rw [if_pos c27] at H; have c27b0 := decide_eq_true c27; clear c27
      by_cases c28 : (ji26) < (t0.length : Int)
      rotate_left
      ·rw [if_neg c28] at H; cases H
      rw [if_pos c28] at H; have c28b0 := decide_eq_true c28; clear c28; obtain ⟨ji29, hji29⟩ : ∃ j_ : Int, (wrap64 ((ji26) + 1)) = j_ := ⟨_, rfl⟩
      replace H : (if 0 ≤ (ji29) then (if (ji29) < (t0.length : Int) then ((spec_l03Hex.f k2 (wrap64 ((wrap64 (256 * (wrap64 (rd t0 (ji26))))) + (wrap64 (rd t0 (ji29)))))).bind fun t2 => (if (x4_2 ++ (⟨#[58]⟩ : ByteArray)).size + t2.size ≤ 9223372036854775807 then (spec_AddrText.l1 k2 t0 ((x4_2 ++ (⟨#[58]⟩ : ByteArray)) ++ t2) (wrap64 (x6_2 + 1))) else (none))) else (none)) else (none)) = some r := by first | (rw [hji29] at H; exact H) | (simp only [hji29] at H ⊢; exact H)
      have hji29w : (IntKind.i64.wrap ((ji26) + 1)) = ji29 := (i64_w _).trans hji29
      by_cases c30 : 0 ≤ (ji29)
      rotate_left
      ·rw [if_neg c30] at H; cases H
      rw [if_pos c30] at H; have c30b0 := decide_eq_true c30; clear c30
      by_cases c31 : (ji29) < (t0.length : Int)
      rotate_left
      ·rw [if_neg c31] at H; cases H
      rw [if_pos c31] at H; have c31b0 := decide_eq_true c31; clear c31; replace H := Option.bind_eq_some_iff.mp H; obtain ⟨t2, A16, H⟩ := H
      (try dsimp only at H); have A32 := Gv.a0 A16; clear A16
      by_cases c33 : (x4_2 ++ (⟨#[58]⟩ : ByteArray)).size + t2.size ≤ 9223372036854775807
      rotate_left
      ·rw [if_neg c33] at H; cases H
      rw [if_pos c33] at H; have c33b0 := eq_true c33; have c33b1 := decide_eq_true c33; have c33s : x4_2.size + 1 + t2.size ≤ 9223372036854775807 := (by have h_ := c33; simp only [ByteArray.size_append] at h_; exact h_); have c33b3 := eq_true c33s; have c33b4 : decide (x4_2.size + 1 + t2.size ≤ 9223372036854775807) = true := decide_eq_true c33s; have c33b5 : (9223372036854775807 < x4_2.size + 1 + t2.size) = False := eq_false (Nat.not_lt.2 c33s); clear c33s
      try have c33b2 : (9223372036854775807 < (x4_2 ++ (⟨#[58]⟩ : ByteArray)).size + t2.size) = False := eq_false (Nat.not_lt.2 c33)
      have H' := Gv.a0 H; clear H
      try go_wp2
      replace HO_3 := Gv.a0 (Kd.R_drew HO_3.out); replace BK1 := Gv.a0 (blk_drew BK1.out); replace HB := Gv.a0 (below_drew1 HB.out); have p5 : 0 ≤ ((ji26) : Int) := Gv.od; have q5 : (ji26) < (t0.length : Int) := Gv.od; obtain ⟨ad5, e5, u5_0⟩ := Kd.at_int (Kd.R_reads' HO_3.out).2.2 (ji26) p5 q5; cases e5; replace p5 := eq_true p5; replace q5 := eq_true q5; have p8 : 0 ≤ ((ji29) : Int) := Gv.od; have q8 : (ji29) < (t0.length : Int) := Gv.od; obtain ⟨ad8, e8, u8_0⟩ := Kd.at_int (Kd.R_reads' HO_3.out).2.2 (ji29) p8 q8; obtain rfl : ad5 = ad8 := (by injection e8); replace p8 := eq_true p8; replace q8 := eq_true q8; refine start_ (n := 19) (S := fun w' => w'.cell? (ad5.add ((ji26)).toNat) = some (.int .u8 (rd t0 (ji26))) ∧ w'.cell? (ad5.add ((ji29)).toNat) = some (.int .u8 (rd t0 (ji29)))) (ds := []) #[false, false, false, false, false, false, false, false, false, false, false, false, false, false, false, false, false, false, false] (by kernel_rfl) rfl rfl ⟨u5_0, u8_0⟩ (fun hHeld => ?_); refine with_tabW spec_AddrText.tab16 spec_AddrText.bits16 (fun HT_ HW_ => ?_); generalize wr.drew = w34 at HO_3 BK1 HB u5_0 u8_0 hHeld ⊢; refine Gv.pu 0 (some 39) HT_ ?_; refine Gv.pu 1 (some 40) HT_ ?_; refine Gv.pu 2 (some 41) HT_ ?_; refine Gv.pu 3 (some 42) HT_ ?_; refine Gv.pu 4 (some 43) HT_ ?_; refine Gv.pu 8 (some 47) HT_ ?_; refine Gv.pu 9 (some 48) HT_ ?_; refine Gv.pu 10 (some 49) HT_ ?_; refine Gv.pu 11 (some 50) HT_ ?_; refine Gv.pu 12 (some 51) HT_ ?_; refine take_ (i := 5) (N := some 44) (v := ?_) (a' := ?_) #[true, true, true, true, true, true, false, false, true, true, true, true, true, false, false, false, false, false, false] rfl rfl (take_ofW HT_.out HW_.out (by kernel_rfl)) (fun _ _ _ h => h) (Or.inl ⟨by rfl, ?_⟩) hHeld ?_ ?_; rotate_left
      ·rintro w' ⟨s0, s1⟩
       go_simp
       with_reducible rfl
      rotate_left
      ·simp only [Act.put, List.setIfInBounds_toArray, List.set_cons_zero, List.set_cons_succ, i64_w, i32_w]
       rfl
      refine Gv.pu 6 (some 45) HT_ ?_; refine Gv.pu 7 (some 46) HT_ ?_; refine take_ (i := 13) (N := some 52) (v := ?_) (a' := ?_) #[true, true, true, true, true, true, true, true, true, true, true, true, true, true, false, false, false, false, false] rfl rfl (take_ofW HT_.out HW_.out (by kernel_rfl)) (fun _ _ _ h => h) (Or.inl ⟨by rfl, ?_⟩) hHeld ?_ ?_; rotate_left
      ·rintro w' ⟨s0, s1⟩
       go_simp
       with_reducible rfl
      rotate_left
      ·simp only [Act.put, List.setIfInBounds_toArray, List.set_cons_zero, List.set_cons_succ, i64_w, i32_w]
       rfl
      refine Gv.pu 14 (some 53) HT_ ?_; refine Gv.pu 15 (some 54) HT_ ?_; refine one_ (i := 16) (N := some 55) #[true, true, true, true, true, true, true, true, true, true, true, true, true, true, true, true, true, false, false] rfl rfl (one_of HT_.out (by kernel_rfl)) (by decide) (fun K hK => ?_); refine goes_ Tryz.func67 (by kernel_rfl) rfl #[.int .i64 (wrap64 ((wrap64 (256 * (wrap64 (rd t0 (ji26))))) + (wrap64 (rd t0 (ji29)))))] (by rfl) rfl rfl (by (try simp only [List.map_toArray, List.map_cons, List.map_nil]); first | done | (simp only [hji26, hji29]; rfl) | rfl | (simp only [List.length_drop, List.length_take]; rfl)) ?_
      with_reducible refine (spec_l03Hex.calls k2 (wrap64 ((wrap64 (256 * (wrap64 (rd t0 (ji26))))) + (wrap64 (rd t0 (ji29))))) t2 _ A32.out).mono ?_
      rintro e w35 ⟨rfl, hb⟩; have HS0_ := (hb.cell (World.block_lt_of_cell? _ _ (hHeld.1))).trans (hHeld.1); have HS1_ := (hb.cell (World.block_lt_of_cell? _ _ (hHeld.2))).trans (hHeld.2); refine ⟨_, rfl, ?_⟩; replace HO_3 := Gv.a0 (Kd.R_below (Gv.kr HO_3.out) hb); replace BK1 := Gv.b1 BK1 hb; replace HB := Gv.hb hb
      (try clear hb)
      (try clear hb2)
      (try clear hk)
      (try clear hi); refine hK.out _ _ ⟨HS0_, HS1_⟩ (fun hHeld => ?_); clear hK K; refine norm_ (a' := ?_) ?_ ?_; rotate_left
      ·show Act.put _ (some 55) _ = _
       simp only [Act.put, List.setIfInBounds_toArray, List.set_cons_zero, List.set_cons_succ, i64_w, i32_w]
       rfl
      refine Gv.pu 17 (some 56) HT_ ?_; refine Gv.pu 18 (some 4) HT_ ?_; refine done_ (done_of HT_.out (by kernel_rfl)) ?_
      try go_wp2
      go_roundg k2
      case measure => have := HJ2.out; have := HK2.out; omega
      case rel => exact ⟨((x4_2 ++ (⟨#[58]⟩ : ByteArray)) ++ t2), (wrap64 (x6_2 + 1)), Gv.rq, Gv.rq, H', ⟨by have := HJ2.out; have := HK2.out; omega⟩, ⟨Gv.kr HO_3.out⟩, ⟨by (with_reducible repeat (first | refine blk_drewN ?_ _ | refine blk_drew ?_ | refine blk_alloc ?_ _)); exact BK1.out⟩, ⟨Gv.bw⟩⟩
     ·rw [if_neg c24] at H; have c24b0 : decide (0 < x6_2) = false := decide_eq_false c24; clear c24; obtain ⟨ji36, hji36⟩ : ∃ j_ : Int, (wrap64 (2 * x6_2)) = j_ := ⟨_, rfl⟩
      replace H : (if 0 ≤ (ji36) then (if (ji36) < (t0.length : Int) then (if 0 ≤ (wrap64 ((ji36) + 1)) then (if (wrap64 ((ji36) + 1)) < (t0.length : Int) then ((spec_l03Hex.f k2 (wrap64 ((wrap64 (256 * (wrap64 (rd t0 (ji36))))) + (wrap64 (rd t0 (wrap64 ((ji36) + 1))))))).bind fun t6 => (if x4_2.size + t6.size ≤ 9223372036854775807 then (spec_AddrText.l1 k2 t0 (x4_2 ++ t6) (wrap64 (x6_2 + 1))) else (none))) else (none)) else (none)) else (none)) else (none)) = some r := by first | (rw [hji36] at H; exact H) | (simp only [hji36] at H ⊢; exact H)
      have hji36w : (IntKind.i64.wrap (2 * x6_2)) = ji36 := (i64_w _).trans hji36
      by_cases c37 : 0 ≤ (ji36)
      rotate_left
      ·rw [if_neg c37] at H; cases H
      rw [if_pos c37] at H; have c37b0 := decide_eq_true c37; clear c37
      by_cases c38 : (ji36) < (t0.length : Int)
      rotate_left
      ·rw [if_neg c38] at H; cases H
      rw [if_pos c38] at H; have c38b0 := decide_eq_true c38; clear c38; obtain ⟨ji39, hji39⟩ : ∃ j_ : Int, (wrap64 ((ji36) + 1)) = j_ := ⟨_, rfl⟩
      replace H : (if 0 ≤ (ji39) then (if (ji39) < (t0.length : Int) then ((spec_l03Hex.f k2 (wrap64 ((wrap64 (256 * (wrap64 (rd t0 (ji36))))) + (wrap64 (rd t0 (ji39)))))).bind fun t6 => (if x4_2.size + t6.size ≤ 9223372036854775807 then (spec_AddrText.l1 k2 t0 (x4_2 ++ t6) (wrap64 (x6_2 + 1))) else (none))) else (none)) else (none)) = some r := by first | (rw [hji39] at H; exact H) | (simp only [hji39] at H ⊢; exact H)
      have hji39w : (IntKind.i64.wrap ((ji36) + 1)) = ji39 := (i64_w _).trans hji39
      by_cases c40 : 0 ≤ (ji39)
      rotate_left
      ·rw [if_neg c40] at H; cases H
      rw [if_pos c40] at H; have c40b0 := decide_eq_true c40; clear c40
      by_cases c41 : (ji39) < (t0.length : Int)
      rotate_left
      ·rw [if_neg c41] at H; cases H
      rw [if_pos c41] at H; have c41b0 := decide_eq_true c41; clear c41; replace H := Option.bind_eq_some_iff.mp H; obtain ⟨t6, A17, H⟩ := H
      (try dsimp only at H); have A42 := Gv.a0 A17; clear A17
      by_cases c43 : x4_2.size + t6.size ≤ 9223372036854775807
      rotate_left
      ·rw [if_neg c43] at H; cases H
      rw [if_pos c43] at H; have c43b0 := eq_true c43; have c43b1 := decide_eq_true c43
      try have c43b2 : (9223372036854775807 < x4_2.size + t6.size) = False := eq_false (Nat.not_lt.2 c43)
      have H' := Gv.a0 H; clear H
      try go_wp2
      replace HO_3 := Gv.a0 (Kd.R_drew HO_3.out); replace BK1 := Gv.a0 (blk_drew BK1.out); replace HB := Gv.a0 (below_drew1 HB.out); have p7 : 0 ≤ ((ji36) : Int) := Gv.od; have q7 : (ji36) < (t0.length : Int) := Gv.od; obtain ⟨ad7, e7, u7_0⟩ := Kd.at_int (Kd.R_reads' HO_3.out).2.2 (ji36) p7 q7; cases e7; replace p7 := eq_true p7; replace q7 := eq_true q7; have p9 : 0 ≤ ((ji39) : Int) := Gv.od; have q9 : (ji39) < (t0.length : Int) := Gv.od; obtain ⟨ad9, e9, u9_0⟩ := Kd.at_int (Kd.R_reads' HO_3.out).2.2 (ji39) p9 q9; obtain rfl : ad7 = ad9 := (by injection e9); replace p9 := eq_true p9; replace q9 := eq_true q9; refine start_ (n := 19) (S := fun w' => w'.cell? (ad7.add ((ji36)).toNat) = some (.int .u8 (rd t0 (ji36))) ∧ w'.cell? (ad7.add ((ji39)).toNat) = some (.int .u8 (rd t0 (ji39)))) (ds := []) #[false, false, false, false, false, false, false, false, false, false, false, false, false, false, false, false, false, false, false] (by kernel_rfl) rfl rfl ⟨u7_0, u9_0⟩ (fun hHeld => ?_); refine with_tabW spec_AddrText.tab16 spec_AddrText.bits16 (fun HT_ HW_ => ?_); generalize wr.drew = w44 at HO_3 BK1 HB u7_0 u9_0 hHeld ⊢; refine Gv.pu 0 (some 39) HT_ ?_; refine Gv.pu 1 (some 40) HT_ ?_; refine Gv.pu 2 (some 41) HT_ ?_; refine Gv.pu 3 (some 42) HT_ ?_; refine Gv.pu 4 (some 43) HT_ ?_; refine Gv.pu 8 (some 47) HT_ ?_; refine Gv.pu 9 (some 48) HT_ ?_; refine Gv.pu 10 (some 49) HT_ ?_; refine Gv.pu 11 (some 50) HT_ ?_; refine Gv.pu 12 (some 51) HT_ ?_; refine take_ (i := 5) (N := some 44) (v := ?_) (a' := ?_) #[true, true, true, true, true, true, false, false, true, true, true, true, true, false, false, false, false, false, false] rfl rfl (take_ofW HT_.out HW_.out (by kernel_rfl)) (fun _ _ _ h => h) (Or.inl ⟨by rfl, ?_⟩) hHeld ?_ ?_; rotate_left
      ·rintro w' ⟨s0, s1⟩
       go_simp
       with_reducible rfl
      rotate_left
      ·simp only [Act.put, List.setIfInBounds_toArray, List.set_cons_zero, List.set_cons_succ, i64_w, i32_w]
       rfl
      refine Gv.pu 6 (some 45) HT_ ?_; refine Gv.pu 7 (some 46) HT_ ?_; refine take_ (i := 13) (N := some 52) (v := ?_) (a' := ?_) #[true, true, true, true, true, true, true, true, true, true, true, true, true, true, false, false, false, false, false] rfl rfl (take_ofW HT_.out HW_.out (by kernel_rfl)) (fun _ _ _ h => h) (Or.inl ⟨by rfl, ?_⟩) hHeld ?_ ?_; rotate_left
      ·rintro w' ⟨s0, s1⟩
       go_simp
       with_reducible rfl
      rotate_left
      ·simp only [Act.put, List.setIfInBounds_toArray, List.set_cons_zero, List.set_cons_succ, i64_w, i32_w]
       rfl
      refine Gv.pu 14 (some 53) HT_ ?_; refine Gv.pu 15 (some 54) HT_ ?_; refine one_ (i := 16) (N := some 55) #[true, true, true, true, true, true, true, true, true, true, true, true, true, true, true, true, true, false, false] rfl rfl (one_of HT_.out (by kernel_rfl)) (by decide) (fun K hK => ?_); refine goes_ Tryz.func67 (by kernel_rfl) rfl #[.int .i64 (wrap64 ((wrap64 (256 * (wrap64 (rd t0 (ji36))))) + (wrap64 (rd t0 (ji39)))))] (by rfl) rfl rfl (by (try simp only [List.map_toArray, List.map_cons, List.map_nil]); first | done | (simp only [hji36, hji39]; rfl) | rfl | (simp only [List.length_drop, List.length_take]; rfl)) ?_
      with_reducible refine (spec_l03Hex.calls k2 (wrap64 ((wrap64 (256 * (wrap64 (rd t0 (ji36))))) + (wrap64 (rd t0 (ji39))))) t6 _ A42.out).mono ?_
      rintro e w45 ⟨rfl, hb⟩; have HS0_ := (hb.cell (World.block_lt_of_cell? _ _ (hHeld.1))).trans (hHeld.1); have HS1_ := (hb.cell (World.block_lt_of_cell? _ _ (hHeld.2))).trans (hHeld.2); refine ⟨_, rfl, ?_⟩; replace HO_3 := Gv.a0 (Kd.R_below (Gv.kr HO_3.out) hb); replace BK1 := Gv.b1 BK1 hb; replace HB := Gv.hb hb
      (try clear hb)
      (try clear hb2)
      (try clear hk)
      (try clear hi); refine hK.out _ _ ⟨HS0_, HS1_⟩ (fun hHeld => ?_); clear hK K; refine norm_ (a' := ?_) ?_ ?_; rotate_left
      ·show Act.put _ (some 55) _ = _
       simp only [Act.put, List.setIfInBounds_toArray, List.set_cons_zero, List.set_cons_succ, i64_w, i32_w]
       rfl
      refine Gv.pu 17 (some 56) HT_ ?_; refine Gv.pu 18 (some 4) HT_ ?_; refine done_ (done_of HT_.out (by kernel_rfl)) ?_
      try go_wp2
      go_roundg k2
      case measure => have := HJ2.out; have := HK2.out; omega
      case rel => exact ⟨(x4_2 ++ t6), (wrap64 (x6_2 + 1)), Gv.rq, Gv.rq, H', ⟨by have := HJ2.out; have := HK2.out; omega⟩, ⟨Gv.kr HO_3.out⟩, ⟨by (with_reducible repeat (first | refine blk_drewN ?_ _ | refine blk_drew ?_ | refine blk_alloc ?_ _)); exact BK1.out⟩, ⟨Gv.bw⟩⟩
/-! ### spec_AddrRead: function 23 -/
mutual
def spec_AddrRead.j1 : Nat → ByteArray → List Int → List ByteArray → Option (Int × Int × Int × Int × Int × Bool)
 | 0, _, _, _ => none
 | k + 1, x0, x4, x6 => if (x6.length : Int) = 8 then (spec_AddrRead.l1 k x0 x4 x6 0) else (spec_AddrRead.j3 k x0 x4)
def spec_AddrRead.j3 : Nat → ByteArray → List Int → Option (Int × Int × Int × Int × Int × Bool)
 | 0, _, _ => none
 | k + 1, x0, x4 => (spec_AddrOf.f k x4).bind fun bt236 => (if bt236.2.2.2.2.2 = true then ((spec_AddrText.f k bt236.1 bt236.2.1 bt236.2.2.1 bt236.2.2.2.1 bt236.2.2.2.2.1).bind fun t243 => (if t243.toList = x0.toList then (some (bt236.1, bt236.2.1, bt236.2.2.1, bt236.2.2.2.1, bt236.2.2.2.2.1, true)) else (some (0, 0, 0, 0, 0, false)))) else (some (0, 0, 0, 0, 0, false)))
def spec_AddrRead.l1 : Nat → ByteArray → List Int → List ByteArray → Int → Option (Int × Int × Int × Int × Int × Bool)
 | 0, _, _, _, _ => none
 | k + 1, x0, x4, x6, x9 => if x9 < 8 then (if 0 ≤ x9 then (if x9 < (x6.length : Int) then ((spec_l03Value.f k (rdOf ByteArray.empty x6 x9) 16).bind fun t229 => (if t229 < 0 then (some (0, 0, 0, 0, 0, false)) else ((spec_Put16.f t229).bind fun t230 => (if x4.length + t230.length < 140737488355328 then (spec_AddrRead.l1 k x0 (x4 ++ t230) x6 (wrap64 (x9 + 1))) else (none))))) else (none)) else (none)) else (spec_AddrRead.j3 k x0 x4)
def spec_AddrRead.l0 : Nat → ByteArray → List Int → List ByteArray → List ByteArray → Int → Option (Int × Int × Int × Int × Int × Bool)
 | 0, _, _, _, _, _ => none
 | k + 1, x0, x4, x5, x6, x7 => if x7 < 4 then (if 0 ≤ x7 then (if x7 < (x5.length : Int) then ((spec_l03Value.f k (rdOf ByteArray.empty x5 x7) 10).bind fun t224 => (if t224 < 0 then (some (0, 0, 0, 0, 0, false)) else (if t224 > 255 then (some (0, 0, 0, 0, 0, false)) else (if x4.length < 140737488355328 then (spec_AddrRead.l0 k x0 (x4 ++ [(t224) % 256]) x5 x6 (wrap64 (x7 + 1))) else (none))))) else (none)) else (none)) else (spec_AddrRead.j1 k x0 x4 x6)
end
def spec_AddrRead.f (k : Nat) (a0 : ByteArray) : Option (Int × Int × Int × Int × Int × Bool) := if (a0.size : Int) > 39 then (some (0, 0, 0, 0, 0, false)) else ((some (([] : List Int) : List Int)).bind fun y214 => ((spec_l03Group.f k a0 46).bind fun t217 => ((spec_l03Group.f k a0 58).bind fun t220 => (if (t217.length : Int) = 4 then (spec_AddrRead.l0 k a0 y214 t217 t220 0) else (spec_AddrRead.j1 k a0 y214 t220)))))
set_option maxHeartbeats 8000000 in
set_option maxRecDepth 100000 in
theorem spec_AddrRead.calls (k : Nat) (a0 : ByteArray) (r1 : Int) (r2 : Int) (r3 : Int) (r4 : Int) (r5 : Int) (r6 : Bool) (w : World) (h : spec_AddrRead.f k a0 = some (r1, r2, r3, r4, r5, r6)) :
  Calls Tryz.prog 23 #[.string a0] w fun e w' => e = .returned (.tuple #[.agg #[.int .i64 r1, .int .i64 r2, .int .i64 r3, .int .i64 r4, .int .i64 r5], .bool r6]) ∧ Below w.heap.size w w' := by
 have hu23 := Tryz.underlying23; have HB := Gv.a0 (Below.refl w.heap.size w); unfold spec_AddrRead.f at h; have H := h; clear h
 by_cases c2 : (a0.size : Int) > 39
 ·rw [if_pos c2] at H; have c2b0 : decide (39 < (a0.size : Int)) = true := decide_eq_true c2; have c2b1 : decide (39 < a0.size) = true := decide_eq_true (by omega); clear c2; simp only [Option.some.injEq, Prod.mk.injEq] at H; obtain ⟨rfl, rfl, rfl, rfl, rfl, rfl⟩ := H
  go_enter Tryz.func23, Tryz.ntmps23
  go_wp2_with (first | ((with_reducible refine gate_dst (N := 2) rfl ?_); refine Gv.bev 2 23 #[.int .i64 0, .int .i64 0, .int .i64 0, .int .i64 0, .int .i64 0] ?_; intro gb0 hg w3 hbox hb; have BK0 := Gv.a0 (hbox); have GW0 := Gv.a0 ((Gv.ble hg Gv.bw : w.heap.size ≤ gb0)); have GE0 := GW0; replace HB := Gv.hb hb; clear hb hbox hg; obtain ⟨z4_0, z4_1, z4_2, z4_3, z4_4⟩ := Gv.c5 BK0.out; obtain ⟨o4_0, o4_1, o4_2, o4_3, o4_4⟩ := Gv.f5 BK0.out))
  refine bodyPost_ret (results_ct rfl _ _ gb0 23 #[.int .i64 0, .int .i64 0, .int .i64 0, .int .i64 0, .int .i64 0] (0, 0) _ rfl (by (with_reducible repeat (first | refine blk_drewN ?_ _ | refine blk_drew ?_ | refine blk_alloc ?_ _)); refine blk_put (cs := #[.int .i64 0, .int .i64 0, .int .i64 0, .int .i64 0, .int .i64 0]) ?_ 4 _ rfl; (with_reducible repeat (first | refine blk_drewN ?_ _ | refine blk_drew ?_ | refine blk_alloc ?_ _)); refine blk_put (cs := #[.int .i64 0, .int .i64 0, .int .i64 0, .int .i64 0, .int .i64 0]) ?_ 3 _ rfl; (with_reducible repeat (first | refine blk_drewN ?_ _ | refine blk_drew ?_ | refine blk_alloc ?_ _)); refine blk_put (cs := #[.int .i64 0, .int .i64 0, .int .i64 0, .int .i64 0, .int .i64 0]) ?_ 2 _ rfl; (with_reducible repeat (first | refine blk_drewN ?_ _ | refine blk_drew ?_ | refine blk_alloc ?_ _)); refine blk_put (cs := #[.int .i64 0, .int .i64 0, .int .i64 0, .int .i64 0, .int .i64 0]) ?_ 1 _ rfl; (with_reducible repeat (first | refine blk_drewN ?_ _ | refine blk_drew ?_ | refine blk_alloc ?_ _)); refine blk_put (cs := #[.int .i64 0, .int .i64 0, .int .i64 0, .int .i64 0, .int .i64 0]) ?_ 0 _ rfl; (with_reducible repeat (first | refine blk_drewN ?_ _ | refine blk_drew ?_ | refine blk_alloc ?_ _)); exact BK0.out) Tryz.underlying23 rfl (by kernel_rfl)) rfl ?_; exact ⟨Gv.rt, Gv.bw⟩
 ·rw [if_neg c2] at H; have c2b0 : decide (39 < (a0.size : Int)) = false := decide_eq_false c2; have c2b1 : decide (39 < a0.size) = false := decide_eq_false (by omega); clear c2; obtain ⟨y14, hy14⟩ : ∃ y_ : List Int, y_ = (([] : List Int)) := ⟨_, rfl⟩
  replace H : ((spec_l03Group.f k a0 46).bind fun t4 => ((spec_l03Group.f k a0 58).bind fun t7 => (if (t4.length : Int) = 4 then (spec_AddrRead.l0 k a0 y14 t4 t7 0) else (spec_AddrRead.j1 k a0 y14 t7)))) = some (r1, r2, r3, r4, r5, r6) := by first | (rw [hy14]; with_reducible exact H) | (have H2_ := (Option.bind_some _ _).symm.trans H; rw [hy14]; with_reducible exact H2_) | (have H2_ := (Option.bind_some _ _).symm.trans H; with_reducible exact H2_) | with_reducible exact H | (rw [hy14]; exact H) | exact H
  have Ny14 := Gv.a0 hy14; clear hy14; replace H := Option.bind_eq_some_iff.mp H; obtain ⟨t4, A50, H⟩ := H
  (try dsimp only at H); have A5 := Gv.a0 A50; clear A50; replace H := Option.bind_eq_some_iff.mp H; obtain ⟨t7, A60, H⟩ := H
  (try dsimp only at H); have A6 := Gv.a0 A60; clear A60; have HC7 := Gv.a0 H; clear H
  go_enter Tryz.func23, Tryz.ntmps23
  go_upto_if 24 with (first | ((with_reducible refine gate_dst (N := 2) rfl ?_); refine Gv.bev 2 23 #[.int .i64 0, .int .i64 0, .int .i64 0, .int .i64 0, .int .i64 0] ?_; intro gb0 hg w8 hbox hb; have BK0 := Gv.a0 (hbox); have GW0 := Gv.a0 ((Gv.ble hg Gv.bw : w.heap.size ≤ gb0)); have GE0 := GW0; replace HB := Gv.hb hb; clear hb hbox hg) | ((with_reducible refine gate_dst (N := 17) rfl ?_); refine Kd.R_lit (Kd.int .u8) _ 5 ?hg (N := 17) ?hd (xs := ([] : List Int)) (inner := []) (ok := fun _ => True) (okp := fun _ => True) ?hr ?hp (fun _ hk => hk) trivial (Below.refl _ _) (Nat.le_refl _) (by simp) ?_; (case hd => rfl); (case hg => rfl); (case hr => first | (go_simp; done) | (go_simp; rfl)); (case hp => exact (Reps.none _ _)); intro v36 w9 ho10 hb hg_ hnew_; clear hg_ hnew_; (first | rw [← Ny14.out] at ho10 | (simp only [Int.reduceToNat] at ho10; rw [← Ny14.out] at ho10)); have HO22 := Gv.a0 (Kd.R_lower ho10 (below_size Gv.bw)); replace BK0 := Gv.b1 BK0 hb; replace HB := Gv.hb hb; clear hb ho10) | ((with_reducible refine gate_callee (f := 7) rfl ?_); refine goesL_ (some 19) rfl rfl Tryz.func7 (by kernel_rfl) rfl #[.string a0, .int .u8 46] rfl Gv.lm ?_; (with_reducible refine (spec_l03Group.calls k a0 46 t4 _ A5.out).mono ?_); rintro e w11 ⟨v37, rfl, ho0, hb⟩; refine ⟨_, rfl, ?_⟩; replace HO22 := Gv.a0 (Kd.R_below (Gv.kr HO22.out) hb); have HO23 := Gv.a0 (Kd.R_lower ho0 (below_size Gv.bw)); replace BK0 := Gv.b1 BK0 hb; replace HB := Gv.hb hb; clear hb ho0) | ((with_reducible refine gate_callee (f := 7) rfl ?_); refine goesL_ (some 21) rfl rfl Tryz.func7 (by kernel_rfl) rfl #[.string a0, .int .u8 58] rfl Gv.lm ?_; (with_reducible refine (spec_l03Group.calls k a0 58 t7 _ A6.out).mono ?_); rintro e w12 ⟨v20, rfl, ho0, hb⟩; refine ⟨_, rfl, ?_⟩; replace HO22 := Gv.a0 (Kd.R_below (Gv.kr HO22.out) hb); have HO27 := Gv.a0 (Kd.R_lower (Kd.R_new' ho0 (Kd.R_lt (Gv.kr HO23.out))) (below_size Gv.bw)); replace HO23 := Gv.a0 (Kd.R_elder' (Gv.kr HO23.out) (Kd.R_base ho0) hb); replace BK0 := Gv.b1 BK0 hb; replace HB := Gv.hb hb; clear hb ho0; obtain ⟨Ao13, co13, eo13⟩ := Kd.R_slice HO23.out; subst eo13))
  (try simp only [Act.put, List.setIfInBounds_toArray, List.set_cons_zero, List.set_cons_succ])
  go_cut [4] (fun v4 wc => ∃ (kq : Nat) (x4_6 : List Int) (x10_6 : Int) (x8_6 : Int) (x6_6 : Int) (x3_6 : Int) (x2_6 : Int), Aside0 (spec_AddrRead.j1 kq a0 x4_6 t7 = some (r1, r2, r3, r4, r5, r6)) ∧ Aside0 (kq ≤ k) ∧ Aside0 (Kd.R (Kd.int .u8) 5 wc w.heap.size (fun _ => True) v4 x4_6) ∧ Aside0 (Kd.R Kd.string 9 wc w.heap.size (fun _ => True) v20 t7) ∧ Aside0 (wc.heap[gb0]? = some (.cells #[.int .i64 x10_6, .int .i64 x8_6, .int .i64 x6_6, .int .i64 x3_6, .int .i64 x2_6] 23 (0, 0))) ∧ Aside0 (Below w.heap.size w wc))
  case first =>
   have H := HC7.out; clear HC7
   by_cases c14 : (t4.length : Int) = 4
   rotate_left
   ·rw [if_neg c14] at H; have c14b0 : ((t4.length : Int) == 4) = false := beq_eq_false_iff_ne.mpr c14; have c14b1 : ((t4.length : Int) != 4) = true := bne_iff_ne.mpr c14
    (first | rw [c14b0] | (simp only [i64_w, i32_w]; rw [c14b0]) | skip); have H' := Gv.a0 H; clear H
    go_wp2
    go_meet
    case rel => exact ⟨_, (y14), (0), (0), (0), (0), (0), H', ⟨by first | omega | exact Nat.le_refl _⟩, ⟨Gv.kr HO22.out⟩, ⟨by (with_reducible repeat (first | apply Kd.R_alloc | apply Kd.R_drewN | apply Kd.R_drew)); exact Kd.R_mono HO27.out (fun _ hk => trivial)⟩, ⟨by (with_reducible repeat (first | refine blk_drewN ?_ _ | refine blk_drew ?_ | refine blk_alloc ?_ _)); exact BK0.out⟩, ⟨Gv.bw⟩⟩
   rw [if_pos c14] at H; have c14b0 : ((t4.length : Int) == 4) = true := beq_iff_eq.mpr c14; have c14b1 : ((t4.length : Int) != 4) = false := bne_eq_false_iff_eq.mpr c14; clear c14
   (first | rw [c14b0] | (simp only [i64_w, i32_w]; rw [c14b0]) | skip); have H' := Gv.a0 H; clear H
   go_wp2
   go_loopg [4, 7] k (fun kq v4 v7 w' => ∃ (x4_1 : List Int) (x7_1 : Int) (x10_1 : Int) (x8_1 : Int) (x6_1 : Int) (x3_1 : Int) (x2_1 : Int), v7 = .int .i64 x7_1 ∧ Aside0 (spec_AddrRead.l0 kq a0 x4_1 t4 t7 x7_1 = some (r1, r2, r3, r4, r5, r6)) ∧ Aside0 (kq ≤ k) ∧ Aside0 (Kd.R (Kd.int .u8) 5 w' w.heap.size (fun _ => True) v4 x4_1) ∧ Aside0 (Kd.R Kd.string 9 w' w.heap.size (fun k_ => some k_ ≠ (v20 : Value).ownBlock) (.slice Ao13 t4.length co13) t4) ∧ Aside0 (Kd.R Kd.string 9 w' w.heap.size (fun k_ => some k_ ≠ ((.slice Ao13 t4.length co13) : Value).ownBlock) v20 t7) ∧ Aside0 (w'.heap[gb0]? = some (.cells #[.int .i64 x10_1, .int .i64 x8_1, .int .i64 x6_1, .int .i64 x3_1, .int .i64 x2_1] 23 (0, 0))) ∧ Aside0 (Below w.heap.size w w'))
   case atStart => exact ⟨(y14), (0), (0), (0), (0), (0), (0), Gv.rq, H', ⟨Nat.le_refl _⟩, ⟨Gv.kr HO22.out⟩, ⟨by (with_reducible repeat (first | apply Kd.R_alloc | apply Kd.R_drewN | apply Kd.R_drew)); exact Kd.R_mono HO23.out (fun _ hk => hk.2)⟩, ⟨by (with_reducible repeat (first | apply Kd.R_alloc | apply Kd.R_drewN | apply Kd.R_drew)); exact Kd.R_mono HO27.out (fun _ hk => hk.2)⟩, ⟨by (with_reducible repeat (first | refine blk_drewN ?_ _ | refine blk_drew ?_ | refine blk_alloc ?_ _)); exact BK0.out⟩, ⟨Gv.bw⟩⟩
   case round =>
    clear H'
    try clear c1
    try clear c2
    try clear c2b0
    try clear c2b1
    try clear p2
    try clear c7
    try clear c14
    try clear c14b0
    try clear c14b1
    try clear z4_0 z4_1 z4_2 z4_3 z4_4
    try clear o4_0 o4_1 o4_2 o4_3 o4_4
    obtain ⟨x4_1, x7_1, x10_1, x8_1, x6_1, x3_1, x2_1, rfl, HA, HK1, HO_4, HO_5, HO_6, BK0, HB⟩ := hrel; cases gk with
    | zero => exact absurd HA.out (by simp [spec_AddrRead.l0])
    | succ k1 =>
     have H := HA.out; clear HA; simp only [spec_AddrRead.l0] at H
     by_cases c15 : x7_1 < 4
     rotate_left
     ·rw [if_neg c15] at H; have c15b0 := decide_eq_false c15; clear c15; have H' := Gv.a0 H; clear H
      go_wp2
      go_meet
      case rel => exact ⟨_, (x4_1), (x10_1), (x8_1), (x6_1), (x3_1), (x2_1), H', ⟨by have := HK1.out; first | omega | exact Nat.le_refl _⟩, ⟨Gv.kr HO_4.out⟩, ⟨by (with_reducible repeat (first | apply Kd.R_alloc | apply Kd.R_drewN | apply Kd.R_drew)); exact Kd.R_mono HO_6.out (fun _ hk => trivial)⟩, ⟨by (with_reducible repeat (first | refine blk_drewN ?_ _ | refine blk_drew ?_ | refine blk_alloc ?_ _)); exact BK0.out⟩, ⟨Gv.bw⟩⟩
     rw [if_pos c15] at H; have c15b0 := decide_eq_true c15; clear c15
     by_cases c16 : 0 ≤ x7_1
     rotate_left
     ·rw [if_neg c16] at H; cases H
     rw [if_pos c16] at H; have c16b0 := decide_eq_true c16; clear c16
     by_cases c17 : x7_1 < (t4.length : Int)
     rotate_left
     ·rw [if_neg c17] at H; cases H
     rw [if_pos c17] at H; have c17b0 := decide_eq_true c17; clear c17; replace H := Option.bind_eq_some_iff.mp H; obtain ⟨t16, A28, H⟩ := H
     (try dsimp only at H); have A18 := Gv.a0 A28; clear A28
     by_cases c19 : t16 < 0
     ·rw [if_pos c19] at H; have c19b0 := decide_eq_true c19; clear c19; simp only [Option.some.injEq, Prod.mk.injEq] at H; obtain ⟨rfl, rfl, rfl, rfl, rfl, rfl⟩ := H; have p5 : 0 ≤ (x7_1 : Int) := Gv.od; have q5 : x7_1 < (t4.length : Int) := Gv.od; obtain ⟨ad5, e5, u5_0⟩ := Kd.at_string (Kd.R_reads' HO_5.out).2.2 x7_1 p5 q5; cases e5; replace p5 := eq_true p5; replace q5 := eq_true q5
      go_wp2_with (first | ((with_reducible refine gate_callee (f := 37) rfl ?_); refine goesL_ (some 33) rfl rfl Tryz.func37 (by kernel_rfl) rfl #[.string (rdOf ByteArray.empty t4 x7_1), .int .i64 10] rfl Gv.lm ?_; (with_reducible refine (spec_l03Value.calls k1 (rdOf ByteArray.empty t4 x7_1) 10 t16 _ A18.out).mono ?_); rintro e w' ⟨rfl, ⟨nd, rfl⟩⟩; refine ⟨_, rfl, ?_⟩; (try (rw [drewN_self wr]; generalize hq_ : World.drewN wr _ = wr; have n0_ : Aside0 (Kd.R (Kd.int .u8) 5 wr w.heap.size (fun _ => True) u4 x4_1) := ⟨by rw [← hq_]; exact (Gv.kr HO_4.out)⟩; have n1_ : Aside0 (Kd.R Kd.string 9 wr w.heap.size (fun k_ => some k_ ≠ (v20 : Value).ownBlock) (.slice (some ad5) t4.length co13) t4) := ⟨by rw [← hq_]; exact (Gv.kr HO_5.out)⟩; have n2_ : Aside0 (Kd.R Kd.string 9 wr w.heap.size (fun k_ => some k_ ≠ (.slice (some ad5) t4.length co13 : Value).ownBlock) v20 t7) := ⟨by rw [← hq_]; exact (Gv.kr HO_6.out)⟩; have n3_ : Aside0 (wr.heap[gb0]? = some (.cells #[.int .i64 x10_1, .int .i64 x8_1, .int .i64 x6_1, .int .i64 x3_1, .int .i64 x2_1] 23 (0, 0))) := ⟨by rw [← hq_]; exact Gv.bk⟩; have n4_ : Aside0 (Below w.heap.size w wr) := ⟨by rw [← hq_]; exact Gv.bw⟩; clear HO_4 HO_5 HO_6 BK0 HB hq_; have HO_4 := n0_; have HO_5 := n1_; have HO_6 := n2_; have BK0 := n3_; have HB := n4_; clear n0_ n1_ n2_ n3_ n4_)); obtain ⟨z20_0, z20_1, z20_2, z20_3, z20_4⟩ := Gv.c5 BK0.out; obtain ⟨o20_0, o20_1, o20_2, o20_3, o20_4⟩ := Gv.f5 BK0.out))
      refine bodyPost_ret (results_ct rfl _ _ gb0 23 #[.int .i64 0, .int .i64 0, .int .i64 0, .int .i64 0, .int .i64 0] (0, 0) _ rfl (by (with_reducible repeat (first | refine blk_drewN ?_ _ | refine blk_drew ?_ | refine blk_alloc ?_ _)); refine blk_put (cs := #[.int .i64 0, .int .i64 0, .int .i64 0, .int .i64 0, .int .i64 x2_1]) ?_ 4 _ rfl; (with_reducible repeat (first | refine blk_drewN ?_ _ | refine blk_drew ?_ | refine blk_alloc ?_ _)); refine blk_put (cs := #[.int .i64 0, .int .i64 0, .int .i64 0, .int .i64 x3_1, .int .i64 x2_1]) ?_ 3 _ rfl; (with_reducible repeat (first | refine blk_drewN ?_ _ | refine blk_drew ?_ | refine blk_alloc ?_ _)); refine blk_put (cs := #[.int .i64 0, .int .i64 0, .int .i64 x6_1, .int .i64 x3_1, .int .i64 x2_1]) ?_ 2 _ rfl; (with_reducible repeat (first | refine blk_drewN ?_ _ | refine blk_drew ?_ | refine blk_alloc ?_ _)); refine blk_put (cs := #[.int .i64 0, .int .i64 x8_1, .int .i64 x6_1, .int .i64 x3_1, .int .i64 x2_1]) ?_ 1 _ rfl; (with_reducible repeat (first | refine blk_drewN ?_ _ | refine blk_drew ?_ | refine blk_alloc ?_ _)); refine blk_put (cs := #[.int .i64 x10_1, .int .i64 x8_1, .int .i64 x6_1, .int .i64 x3_1, .int .i64 x2_1]) ?_ 0 _ rfl; (with_reducible repeat (first | refine blk_drewN ?_ _ | refine blk_drew ?_ | refine blk_alloc ?_ _)); exact BK0.out) Tryz.underlying23 rfl (by kernel_rfl)) rfl ?_; exact ⟨Gv.rt, Gv.bw⟩
     ·rw [if_neg c19] at H; have c19b0 := decide_eq_false c19; clear c19
      by_cases c21 : t16 > 255
      ·rw [if_pos c21] at H; have c21b0 : decide (255 < t16) = true := decide_eq_true c21; clear c21; simp only [Option.some.injEq, Prod.mk.injEq] at H; obtain ⟨rfl, rfl, rfl, rfl, rfl, rfl⟩ := H; have p5 : 0 ≤ (x7_1 : Int) := Gv.od; have q5 : x7_1 < (t4.length : Int) := Gv.od; obtain ⟨ad5, e5, u5_0⟩ := Kd.at_string (Kd.R_reads' HO_5.out).2.2 x7_1 p5 q5; cases e5; replace p5 := eq_true p5; replace q5 := eq_true q5
       go_wp2_with (first | ((with_reducible refine gate_callee (f := 37) rfl ?_); refine goesL_ (some 33) rfl rfl Tryz.func37 (by kernel_rfl) rfl #[.string (rdOf ByteArray.empty t4 x7_1), .int .i64 10] rfl Gv.lm ?_; (with_reducible refine (spec_l03Value.calls k1 (rdOf ByteArray.empty t4 x7_1) 10 t16 _ A18.out).mono ?_); rintro e w' ⟨rfl, ⟨nd, rfl⟩⟩; refine ⟨_, rfl, ?_⟩; (try (rw [drewN_self wr]; generalize hq_ : World.drewN wr _ = wr; have n0_ : Aside0 (Kd.R (Kd.int .u8) 5 wr w.heap.size (fun _ => True) u4 x4_1) := ⟨by rw [← hq_]; exact (Gv.kr HO_4.out)⟩; have n1_ : Aside0 (Kd.R Kd.string 9 wr w.heap.size (fun k_ => some k_ ≠ (v20 : Value).ownBlock) (.slice (some ad5) t4.length co13) t4) := ⟨by rw [← hq_]; exact (Gv.kr HO_5.out)⟩; have n2_ : Aside0 (Kd.R Kd.string 9 wr w.heap.size (fun k_ => some k_ ≠ (.slice (some ad5) t4.length co13 : Value).ownBlock) v20 t7) := ⟨by rw [← hq_]; exact (Gv.kr HO_6.out)⟩; have n3_ : Aside0 (wr.heap[gb0]? = some (.cells #[.int .i64 x10_1, .int .i64 x8_1, .int .i64 x6_1, .int .i64 x3_1, .int .i64 x2_1] 23 (0, 0))) := ⟨by rw [← hq_]; exact Gv.bk⟩; have n4_ : Aside0 (Below w.heap.size w wr) := ⟨by rw [← hq_]; exact Gv.bw⟩; clear HO_4 HO_5 HO_6 BK0 HB hq_; have HO_4 := n0_; have HO_5 := n1_; have HO_6 := n2_; have BK0 := n3_; have HB := n4_; clear n0_ n1_ n2_ n3_ n4_)); obtain ⟨z22_0, z22_1, z22_2, z22_3, z22_4⟩ := Gv.c5 BK0.out; obtain ⟨o22_0, o22_1, o22_2, o22_3, o22_4⟩ := Gv.f5 BK0.out))
       refine bodyPost_ret (results_ct rfl _ _ gb0 23 #[.int .i64 0, .int .i64 0, .int .i64 0, .int .i64 0, .int .i64 0] (0, 0) _ rfl (by (with_reducible repeat (first | refine blk_drewN ?_ _ | refine blk_drew ?_ | refine blk_alloc ?_ _)); refine blk_put (cs := #[.int .i64 0, .int .i64 0, .int .i64 0, .int .i64 0, .int .i64 x2_1]) ?_ 4 _ rfl; (with_reducible repeat (first | refine blk_drewN ?_ _ | refine blk_drew ?_ | refine blk_alloc ?_ _)); refine blk_put (cs := #[.int .i64 0, .int .i64 0, .int .i64 0, .int .i64 x3_1, .int .i64 x2_1]) ?_ 3 _ rfl; (with_reducible repeat (first | refine blk_drewN ?_ _ | refine blk_drew ?_ | refine blk_alloc ?_ _)); refine blk_put (cs := #[.int .i64 0, .int .i64 0, .int .i64 x6_1, .int .i64 x3_1, .int .i64 x2_1]) ?_ 2 _ rfl; (with_reducible repeat (first | refine blk_drewN ?_ _ | refine blk_drew ?_ | refine blk_alloc ?_ _)); refine blk_put (cs := #[.int .i64 0, .int .i64 x8_1, .int .i64 x6_1, .int .i64 x3_1, .int .i64 x2_1]) ?_ 1 _ rfl; (with_reducible repeat (first | refine blk_drewN ?_ _ | refine blk_drew ?_ | refine blk_alloc ?_ _)); refine blk_put (cs := #[.int .i64 x10_1, .int .i64 x8_1, .int .i64 x6_1, .int .i64 x3_1, .int .i64 x2_1]) ?_ 0 _ rfl; (with_reducible repeat (first | refine blk_drewN ?_ _ | refine blk_drew ?_ | refine blk_alloc ?_ _)); exact BK0.out) Tryz.underlying23 rfl (by kernel_rfl)) rfl ?_; exact ⟨Gv.rt, Gv.bw⟩
      ·rw [if_neg c21] at H; have c21b0 : decide (255 < t16) = false := decide_eq_false c21; clear c21
       by_cases c23 : x4_1.length < 140737488355328
       ·rw [if_pos c23] at H; have LMc23 := Gv.a0 c23; clear c23; obtain ⟨y17, hy17⟩ : ∃ y_ : List Int, y_ = (x4_1 ++ [(t16) % 256]) := ⟨_, rfl⟩
        replace H : (spec_AddrRead.l0 k1 a0 y17 t4 t7 (wrap64 (x7_1 + 1))) = some (r1, r2, r3, r4, r5, r6) := by first | (rw [hy17]; with_reducible exact H) | (have H2_ := (Option.bind_some _ _).symm.trans H; rw [hy17]; with_reducible exact H2_) | (have H2_ := (Option.bind_some _ _).symm.trans H; with_reducible exact H2_) | with_reducible exact H | (rw [hy17]; exact H) | exact H
        have Ny17 := Gv.a0 hy17; clear hy17; have H' := Gv.a0 H; clear H; have p5 : 0 ≤ (x7_1 : Int) := Gv.od; have q5 : x7_1 < (t4.length : Int) := Gv.od; obtain ⟨ad5, e5, u5_0⟩ := Kd.at_string (Kd.R_reads' HO_5.out).2.2 x7_1 p5 q5; cases e5; replace p5 := eq_true p5; replace q5 := eq_true q5
        go_wp2_with (first | ((with_reducible refine gate_callee (f := 37) rfl ?_); refine goesL_ (some 33) rfl rfl Tryz.func37 (by kernel_rfl) rfl #[.string (rdOf ByteArray.empty t4 x7_1), .int .i64 10] rfl Gv.lm ?_; (with_reducible refine (spec_l03Value.calls k1 (rdOf ByteArray.empty t4 x7_1) 10 t16 _ A18.out).mono ?_); rintro e w' ⟨rfl, ⟨nd, rfl⟩⟩; refine ⟨_, rfl, ?_⟩) | ((with_reducible refine gate_builtin (b := .append) (xs := #[.tmp 41, .tmp 44]) rfl ?_); at_builtin; refine Kd.R_append (Kd.int .u8) (w0 := w) w.heap.size rfl (.tmp 41) (.tmp 44) 62 5 (.int .u8 0) 1 rfl Tryz.underlying62 info5 rfl (by decide) (by omega) u4 x4_1 ((t16) % 256) [.int .u8 ((t16) % 256)] (fun _ => True) (fun _ => False) rfl rfl ?aP (fun _ hk => hk.elim) ?aF ?aO ?aB ?aS ?aL ?_; (case aP => exact rfl); (case aB => exact Gv.bw); (case aF => exact (fun _ _ => trivial)); (case aO => exact (Gv.kr HO_4.out)); (case aS => exact (below_size Gv.bw)); (case aL => have := LMc23.out; omega); intro v38 w24 ho hb hg hat; rw [← Ny17.out] at ho; replace HO_5 := Gv.a0 (Kd.R_over' (Gv.kr HO_5.out) (Kd.R_typed (Gv.kr HO_4.out)) (by decide) hg); replace HO_6 := Gv.a0 (Kd.R_over' (Gv.kr HO_6.out) (Kd.R_typed (Gv.kr HO_4.out)) (by decide) hg); replace BK0 := Gv.a0 (blk_grown (g := gb0) (o := .cells #[.int .i64 x10_1, .int .i64 x8_1, .int .i64 x6_1, .int .i64 x3_1, .int .i64 x2_1] 23 (0, 0)) Gv.bk hg (Kd.R_ne HO_4.out BK0.out (by decide))); replace HB := Gv.a0 (hb); have HO31 := Gv.a0 (ho); clear HO_4 ho hb hg hat))
        go_roundg k1
        case measure => have := HK1.out; omega
        case rel => exact ⟨(y17), (wrap64 (x7_1 + 1)), (x10_1), (x8_1), (x6_1), (x3_1), (x2_1), Gv.rq, H', ⟨by have := HK1.out; omega⟩, ⟨Gv.kr HO31.out⟩, ⟨Gv.kr HO_5.out⟩, ⟨Gv.kr HO_6.out⟩, ⟨by (with_reducible repeat (first | refine blk_drewN ?_ _ | refine blk_drew ?_ | refine blk_alloc ?_ _)); exact BK0.out⟩, ⟨Gv.bw⟩⟩
       ·rw [if_neg c23] at H; cases H
  case rest =>
   clear HC7
   try clear c1
   try clear c2
   try clear c2b0
   try clear c2b1
   try clear p2
   try clear q2
   try clear hx2
   try clear c3
   try clear p6
   try clear c7
   try clear c14
   try clear c14b0
   try clear c14b1
   try clear c15
   try clear c15b0
   try clear c16
   try clear c16b0
   try clear c17
   try clear c17b0
   try clear c19
   try clear c19b0
   try clear c21
   try clear c21b0
   try clear p22
   try clear q22
   try clear hx22
   try clear c23
   try clear z20_0 z20_1 z20_2 z20_3 z20_4
   try clear z22_0 z22_1 z22_2 z22_3 z22_4
   try clear z4_0 z4_1 z4_2 z4_3 z4_4
   try clear o20_0 o20_1 o20_2 o20_3 o20_4
   try clear o22_0 o22_1 o22_2 o22_3 o22_4
   try clear o4_0 o4_1 o4_2 o4_3 o4_4
   try clear u5_0
   try clear p2
   try clear p5
   try clear q5
   obtain ⟨kq, x4_6, x10_6, x8_6, x6_6, x3_6, x2_6, HA, HJ6, HO_4, HO_6, BK0, HB⟩ := hcut; cases kq with
   | zero => exact absurd HA.out (by simp [spec_AddrRead.j1])
   | succ kj6 =>
    have H := HA.out; clear HA; simp only [spec_AddrRead.j1] at H; have HC25 := Gv.a0 H; clear H; obtain ⟨Ao26, co26, eo26⟩ := Kd.R_slice HO_6.out; subst eo26
    go_upto_if 48 with (fail)
    go_cut [4] (fun v4 wc => ∃ (kq : Nat) (x4_24 : List Int) (x10_24 : Int) (x8_24 : Int) (x6_24 : Int) (x3_24 : Int) (x2_24 : Int), Aside0 (spec_AddrRead.j3 kq a0 x4_24 = some (r1, r2, r3, r4, r5, r6)) ∧ Aside0 (kq ≤ kj6) ∧ Aside0 (Kd.R (Kd.int .u8) 5 wc w.heap.size (fun _ => True) v4 x4_24) ∧ Aside0 (wc.heap[gb0]? = some (.cells #[.int .i64 x10_24, .int .i64 x8_24, .int .i64 x6_24, .int .i64 x3_24, .int .i64 x2_24] 23 (0, 0))) ∧ Aside0 (Below w.heap.size w wc))
    case first =>
     have H := HC25.out; clear HC25
     by_cases c27 : (t7.length : Int) = 8
     rotate_left
     ·rw [if_neg c27] at H; have c27b0 : ((t7.length : Int) == 8) = false := beq_eq_false_iff_ne.mpr c27; have c27b1 : ((t7.length : Int) != 8) = true := bne_iff_ne.mpr c27
      (first | rw [c27b0] | (simp only [i64_w, i32_w]; rw [c27b0]) | skip); have H' := Gv.a0 H; clear H
      go_wp2
      go_meet
      case rel => exact ⟨_, (x4_6), (x10_6), (x8_6), (x6_6), (x3_6), (x2_6), H', ⟨by have := HJ6.out; first | omega | exact Nat.le_refl _⟩, ⟨Gv.kr HO_4.out⟩, ⟨by (with_reducible repeat (first | refine blk_drewN ?_ _ | refine blk_drew ?_ | refine blk_alloc ?_ _)); exact BK0.out⟩, ⟨Gv.bw⟩⟩
     rw [if_pos c27] at H; have c27b0 : ((t7.length : Int) == 8) = true := beq_iff_eq.mpr c27; have c27b1 : ((t7.length : Int) != 8) = false := bne_eq_false_iff_eq.mpr c27; clear c27
     (first | rw [c27b0] | (simp only [i64_w, i32_w]; rw [c27b0]) | skip); have H' := Gv.a0 H; clear H
     go_wp2
     go_loopg [4, 9] kj6 (fun kq v4 v9 w' => ∃ (x4_2 : List Int) (x9_2 : Int) (x10_2 : Int) (x8_2 : Int) (x6_2 : Int) (x3_2 : Int) (x2_2 : Int), v9 = .int .i64 x9_2 ∧ Aside0 (spec_AddrRead.l1 kq a0 x4_2 t7 x9_2 = some (r1, r2, r3, r4, r5, r6)) ∧ Aside0 (kq ≤ kj6) ∧ Aside0 (Kd.R (Kd.int .u8) 5 w' w.heap.size (fun _ => True) v4 x4_2) ∧ Aside0 (Kd.R Kd.string 9 w' w.heap.size (fun _ => True) (.slice Ao26 t7.length co26) t7) ∧ Aside0 (w'.heap[gb0]? = some (.cells #[.int .i64 x10_2, .int .i64 x8_2, .int .i64 x6_2, .int .i64 x3_2, .int .i64 x2_2] 23 (0, 0))) ∧ Aside0 (Below w.heap.size w w'))
     case atStart => exact ⟨(x4_6), (0), (x10_6), (x8_6), (x6_6), (x3_6), (x2_6), Gv.rq, H', ⟨Nat.le_refl _⟩, ⟨Gv.kr HO_4.out⟩, ⟨Gv.kr HO_6.out⟩, ⟨by (with_reducible repeat (first | refine blk_drewN ?_ _ | refine blk_drew ?_ | refine blk_alloc ?_ _)); exact BK0.out⟩, ⟨Gv.bw⟩⟩
     case round =>
      clear H'
      try clear c1
      try clear c2
      try clear c2b0
      try clear c2b1
      try clear p2
      try clear q2
      try clear hx2
      try clear c3
      try clear p6
      try clear c7
      try clear c14
      try clear c14b0
      try clear c14b1
      try clear c15
      try clear c15b0
      try clear c16
      try clear c16b0
      try clear c17
      try clear c17b0
      try clear c19
      try clear c19b0
      try clear c21
      try clear c21b0
      try clear p22
      try clear q22
      try clear hx22
      try clear c23
      try clear c27
      try clear c27b0
      try clear c27b1
      try clear z20_0 z20_1 z20_2 z20_3 z20_4
      try clear z22_0 z22_1 z22_2 z22_3 z22_4
      try clear z4_0 z4_1 z4_2 z4_3 z4_4
      try clear o20_0 o20_1 o20_2 o20_3 o20_4
      try clear o22_0 o22_1 o22_2 o22_3 o22_4
      try clear o4_0 o4_1 o4_2 o4_3 o4_4
      try clear u5_0
      try clear p2
      try clear p22
      try clear p5
      try clear p6
      try clear q2
      try clear q22
      try clear q5
      obtain ⟨x4_2, x9_2, x10_2, x8_2, x6_2, x3_2, x2_2, rfl, HA, HK2, HO_4, HO_6, BK0, HB⟩ := hrel; cases gk with
      | zero => exact absurd HA.out (by simp [spec_AddrRead.l1])
      | succ k2 =>
       have H := HA.out; clear HA; simp only [spec_AddrRead.l1] at H
       by_cases c28 : x9_2 < 8
       rotate_left
       ·rw [if_neg c28] at H; have c28b0 := decide_eq_false c28; clear c28; have H' := Gv.a0 H; clear H
        go_wp2
        go_meet
        case rel => exact ⟨_, (x4_2), (x10_2), (x8_2), (x6_2), (x3_2), (x2_2), H', ⟨by have := HJ6.out; have := HK2.out; first | omega | exact Nat.le_refl _⟩, ⟨Gv.kr HO_4.out⟩, ⟨by (with_reducible repeat (first | refine blk_drewN ?_ _ | refine blk_drew ?_ | refine blk_alloc ?_ _)); exact BK0.out⟩, ⟨Gv.bw⟩⟩
       rw [if_pos c28] at H; have c28b0 := decide_eq_true c28; clear c28
       by_cases c29 : 0 ≤ x9_2
       rotate_left
       ·rw [if_neg c29] at H; cases H
       rw [if_pos c29] at H; have c29b0 := decide_eq_true c29; clear c29
       by_cases c30 : x9_2 < (t7.length : Int)
       rotate_left
       ·rw [if_neg c30] at H; cases H
       rw [if_pos c30] at H; have c30b0 := decide_eq_true c30; clear c30; replace H := Option.bind_eq_some_iff.mp H; obtain ⟨t24, A29, H⟩ := H
       (try dsimp only at H); have A31 := Gv.a0 A29; clear A29
       by_cases c32 : t24 < 0
       ·rw [if_pos c32] at H; have c32b0 := decide_eq_true c32; clear c32; simp only [Option.some.injEq, Prod.mk.injEq] at H; obtain ⟨rfl, rfl, rfl, rfl, rfl, rfl⟩ := H; have p9 : 0 ≤ (x9_2 : Int) := Gv.od; have q9 : x9_2 < (t7.length : Int) := Gv.od; obtain ⟨ad9, e9, u9_0⟩ := Kd.at_string (Kd.R_reads' HO_6.out).2.2 x9_2 p9 q9; cases e9; replace p9 := eq_true p9; replace q9 := eq_true q9
        go_wp2_with (first | ((with_reducible refine gate_callee (f := 37) rfl ?_); refine goesL_ (some 57) rfl rfl Tryz.func37 (by kernel_rfl) rfl #[.string (rdOf ByteArray.empty t7 x9_2), .int .i64 16] rfl Gv.lm ?_; (with_reducible refine (spec_l03Value.calls k2 (rdOf ByteArray.empty t7 x9_2) 16 t24 _ A31.out).mono ?_); rintro e w' ⟨rfl, ⟨nd, rfl⟩⟩; refine ⟨_, rfl, ?_⟩; (try (rw [drewN_self wr]; generalize hq_ : World.drewN wr _ = wr; have n0_ : Aside0 (Kd.R (Kd.int .u8) 5 wr w.heap.size (fun _ => True) u4 x4_2) := ⟨by rw [← hq_]; exact (Gv.kr HO_4.out)⟩; have n1_ : Aside0 (Kd.R Kd.string 9 wr w.heap.size (fun _ => True) (.slice (some ad9) t7.length co26) t7) := ⟨by rw [← hq_]; exact (Gv.kr HO_6.out)⟩; have n2_ : Aside0 (wr.heap[gb0]? = some (.cells #[.int .i64 x10_2, .int .i64 x8_2, .int .i64 x6_2, .int .i64 x3_2, .int .i64 x2_2] 23 (0, 0))) := ⟨by rw [← hq_]; exact Gv.bk⟩; have n3_ : Aside0 (Below w.heap.size w wr) := ⟨by rw [← hq_]; exact Gv.bw⟩; clear HO_4 HO_6 BK0 HB hq_; have HO_4 := n0_; have HO_6 := n1_; have BK0 := n2_; have HB := n3_; clear n0_ n1_ n2_ n3_)); obtain ⟨z33_0, z33_1, z33_2, z33_3, z33_4⟩ := Gv.c5 BK0.out; obtain ⟨o33_0, o33_1, o33_2, o33_3, o33_4⟩ := Gv.f5 BK0.out))
        refine bodyPost_ret (results_ct rfl _ _ gb0 23 #[.int .i64 0, .int .i64 0, .int .i64 0, .int .i64 0, .int .i64 0] (0, 0) _ rfl (by (with_reducible repeat (first | refine blk_drewN ?_ _ | refine blk_drew ?_ | refine blk_alloc ?_ _)); refine blk_put (cs := #[.int .i64 0, .int .i64 0, .int .i64 0, .int .i64 0, .int .i64 x2_2]) ?_ 4 _ rfl; (with_reducible repeat (first | refine blk_drewN ?_ _ | refine blk_drew ?_ | refine blk_alloc ?_ _)); refine blk_put (cs := #[.int .i64 0, .int .i64 0, .int .i64 0, .int .i64 x3_2, .int .i64 x2_2]) ?_ 3 _ rfl; (with_reducible repeat (first | refine blk_drewN ?_ _ | refine blk_drew ?_ | refine blk_alloc ?_ _)); refine blk_put (cs := #[.int .i64 0, .int .i64 0, .int .i64 x6_2, .int .i64 x3_2, .int .i64 x2_2]) ?_ 2 _ rfl; (with_reducible repeat (first | refine blk_drewN ?_ _ | refine blk_drew ?_ | refine blk_alloc ?_ _)); refine blk_put (cs := #[.int .i64 0, .int .i64 x8_2, .int .i64 x6_2, .int .i64 x3_2, .int .i64 x2_2]) ?_ 1 _ rfl; (with_reducible repeat (first | refine blk_drewN ?_ _ | refine blk_drew ?_ | refine blk_alloc ?_ _)); refine blk_put (cs := #[.int .i64 x10_2, .int .i64 x8_2, .int .i64 x6_2, .int .i64 x3_2, .int .i64 x2_2]) ?_ 0 _ rfl; (with_reducible repeat (first | refine blk_drewN ?_ _ | refine blk_drew ?_ | refine blk_alloc ?_ _)); exact BK0.out) Tryz.underlying23 rfl (by kernel_rfl)) rfl ?_; exact ⟨Gv.rt, Gv.bw⟩
       ·rw [if_neg c32] at H; have c32b0 := decide_eq_false c32; clear c32; replace H := Option.bind_eq_some_iff.mp H; obtain ⟨t25, A30, H⟩ := H
        (try dsimp only at H); have A34 := Gv.a0 A30; clear A30
        by_cases c35 : x4_2.length + t25.length < 140737488355328
        ·rw [if_pos c35] at H; have LMc35 := Gv.a0 c35; clear c35; obtain ⟨y18, hy18⟩ : ∃ y_ : List Int, y_ = (x4_2 ++ t25) := ⟨_, rfl⟩
         replace H : (spec_AddrRead.l1 k2 a0 y18 t7 (wrap64 (x9_2 + 1))) = some (r1, r2, r3, r4, r5, r6) := by first | (rw [hy18]; with_reducible exact H) | (have H2_ := (Option.bind_some _ _).symm.trans H; rw [hy18]; with_reducible exact H2_) | (have H2_ := (Option.bind_some _ _).symm.trans H; with_reducible exact H2_) | with_reducible exact H | (rw [hy18]; exact H) | exact H
         have Ny18 := Gv.a0 hy18; clear hy18; have H' := Gv.a0 H; clear H; have p9 : 0 ≤ (x9_2 : Int) := Gv.od; have q9 : x9_2 < (t7.length : Int) := Gv.od; obtain ⟨ad9, e9, u9_0⟩ := Kd.at_string (Kd.R_reads' HO_6.out).2.2 x9_2 p9 q9; cases e9; replace p9 := eq_true p9; replace q9 := eq_true q9
         go_wp2_with (first | ((with_reducible refine gate_callee (f := 37) rfl ?_); refine goesL_ (some 57) rfl rfl Tryz.func37 (by kernel_rfl) rfl #[.string (rdOf ByteArray.empty t7 x9_2), .int .i64 16] rfl Gv.lm ?_; (with_reducible refine (spec_l03Value.calls k2 (rdOf ByteArray.empty t7 x9_2) 16 t24 _ A31.out).mono ?_); rintro e w' ⟨rfl, ⟨nd, rfl⟩⟩; refine ⟨_, rfl, ?_⟩) | ((with_reducible refine gate_callee (f := 38) rfl ?_); refine goesL_ (some 63) rfl rfl Tryz.func38 (by kernel_rfl) rfl #[.int .i64 t24] rfl Gv.lm ?_; (with_reducible refine (spec_Put16.calls t24 t25 _ A34.out).mono ?_); rintro e w36 ⟨v39, rfl, ho0, hb⟩; refine ⟨_, rfl, ?_⟩; replace HO_6 := Gv.a0 (Kd.R_below (Gv.kr HO_6.out) hb); have HO26 := Gv.a0 (Kd.R_lower (Kd.R_new' ho0 (Kd.R_lt (Gv.kr HO_4.out))) (below_size Gv.bw)); replace HO_4 := Gv.a0 (Kd.R_elder' (Gv.kr HO_4.out) (Kd.R_base ho0) hb); replace BK0 := Gv.b1 BK0 hb; replace HB := Gv.hb hb; clear hb ho0; obtain ⟨Ao38, co38, eo38⟩ := Kd.R_slice HO26.out; subst eo38) | ((with_reducible refine gate_builtin (b := .append) (xs := #[.tmp 61, .tmp 63]) rfl ?_); at_builtin; refine Kd.R_append_rows (Kd.int .u8) (w0 := w) w.heap.size rfl (.tmp 61) (.tmp 63) 62 5 (.int .u8 0) 1 rfl Tryz.underlying62 info5 rfl (by decide) (by omega) u4 x4_2 t25 _ _ _ (fun k_ => some k_ ≠ (.slice Ao38 t25.length co38 : Value).ownBlock) (fun _ => False) rfl rfl ?aO ?aR (fun _ _ h => h) (fun _ h => h.elim) ?aF ?aB ?aS ?aL ?_; (case aR => repeat (first | exact (Kd.R_reads' HO26.out).2.2 | (with_reducible refine Kd.C_alloc ?_ _) | (with_reducible refine Kd.C_drewN ?_ _) | (with_reducible refine Kd.C_drew ?_))); (case aB => exact Gv.bw); (case aF => exact (fun k_ hk => Kd.fresh' (Kd.R_lt (Gv.kr HO26.out)) k_ hk)); (case aO => exact (by (with_reducible repeat (first | apply Kd.R_alloc | apply Kd.R_drewN | apply Kd.R_drew)); exact Kd.R_mono HO_4.out (fun _ hk => hk.2))); (case aS => exact (below_size Gv.bw)); (case aL => have := LMc35.out; omega); intro v40 w37 ho hb hg hat; rw [← Ny18.out] at ho; replace HO_6 := Gv.a0 (Kd.R_over' (Gv.kr HO_6.out) (Kd.R_typed (Gv.kr HO_4.out)) (by decide) hg); replace BK0 := Gv.a0 (blk_grown (g := gb0) (o := .cells #[.int .i64 x10_2, .int .i64 x8_2, .int .i64 x6_2, .int .i64 x3_2, .int .i64 x2_2] 23 (0, 0)) Gv.bk hg (Kd.R_ne HO_4.out BK0.out (by decide))); replace HO26 := Gv.a0 (Kd.R_after (ok := (fun _ => True)) (Gv.kr HO26.out) hg hat); replace HB := Gv.a0 (hb); have HO34 := Gv.a0 (ho); clear HO_4 ho hb hg hat))
         go_roundg k2
         case measure => have := HJ6.out; have := HK2.out; omega
         case rel => exact ⟨(y18), (wrap64 (x9_2 + 1)), (x10_2), (x8_2), (x6_2), (x3_2), (x2_2), Gv.rq, H', ⟨by have := HJ6.out; have := HK2.out; omega⟩, ⟨by (with_reducible repeat (first | apply Kd.R_alloc | apply Kd.R_drewN | apply Kd.R_drew)); exact Kd.R_mono HO34.out (fun _ hk => trivial)⟩, ⟨Gv.kr HO_6.out⟩, ⟨by (with_reducible repeat (first | refine blk_drewN ?_ _ | refine blk_drew ?_ | refine blk_alloc ?_ _)); exact BK0.out⟩, ⟨Gv.bw⟩⟩
        ·rw [if_neg c35] at H; cases H
    case rest =>
     clear HC25
     try clear c1
     try clear c2
     try clear c2b0
     try clear c2b1
     try clear p2
     try clear q2
     try clear hx2
     try clear c3
     try clear p6
     try clear c7
     try clear c14
     try clear c14b0
     try clear c14b1
     try clear c15
     try clear c15b0
     try clear c16
     try clear c16b0
     try clear c17
     try clear c17b0
     try clear c19
     try clear c19b0
     try clear c21
     try clear c21b0
     try clear p22
     try clear q22
     try clear hx22
     try clear c23
     try clear c27
     try clear c27b0
     try clear c27b1
     try clear c28
     try clear c28b0
     try clear c29
     try clear c29b0
     try clear c30
     try clear c30b0
     try clear c32
     try clear c32b0
     try clear c35
     try clear c37
     try clear c38
     try clear z20_0 z20_1 z20_2 z20_3 z20_4
     try clear z22_0 z22_1 z22_2 z22_3 z22_4
     try clear z33_0 z33_1 z33_2 z33_3 z33_4
     try clear z4_0 z4_1 z4_2 z4_3 z4_4
     try clear o20_0 o20_1 o20_2 o20_3 o20_4
     try clear o22_0 o22_1 o22_2 o22_3 o22_4
     try clear o33_0 o33_1 o33_2 o33_3 o33_4
     try clear o4_0 o4_1 o4_2 o4_3 o4_4
     try clear u5_0
     try clear u9_0
     try clear p2
     try clear p22
     try clear p5
     try clear p9
     try clear p6
     try clear q2
     try clear q22
     try clear q5
     try clear q9
     obtain ⟨kq, x4_24, x10_24, x8_24, x6_24, x3_24, x2_24, HA, HJ24, HO_4, BK0, HB⟩ := hcut; cases kq with
     | zero => exact absurd HA.out (by simp [spec_AddrRead.j3])
     | succ kj24 =>
      have H := HA.out; clear HA; simp only [spec_AddrRead.j3] at H; replace H := Option.bind_eq_some_iff.mp H; obtain ⟨⟨t11, t12, t13, t15, t19, t35⟩, A32, H⟩ := H
      (try dsimp only at H); have A39 := Gv.a0 A32; clear A32
      by_cases c40 : t35 = true
      rotate_left
      ·replace c40 := Bool.eq_false_iff.mpr c40; subst c40; rw [if_neg (show ¬ (false = true) by decide)] at H
       (try dsimp only at H); simp only [Option.some.injEq, Prod.mk.injEq] at H; obtain ⟨rfl, rfl, rfl, rfl, rfl, rfl⟩ := H; obtain ⟨Ao58, co58, eo58⟩ := Kd.R_slice HO_4.out; subst eo58
       go_wp2_with (first | ((with_reducible refine gate_callee (f := 39) rfl ?_); refine goesL_ (some 67) rfl rfl Tryz.func39 (by kernel_rfl) rfl #[.slice Ao58 x4_24.length co58] rfl Gv.lm ?_; (with_reducible refine (spec_AddrOf.calls kj24 _ _ x4_24 t11 t12 t13 t15 t19 false _ ?side1 ?side2 A39.out).mono ?_); (case side1 => repeat (first | exact (Kd.R_reads' HO_4.out).2.2 | (with_reducible refine Kd.C_alloc ?_ _) | (with_reducible refine Kd.C_drewN ?_ _) | (with_reducible refine Kd.C_drew ?_))); (case side2 => exact (Kd.R_reads' HO_4.out).2.1); rintro e w59 ⟨rfl, hb⟩; refine ⟨_, rfl, ?_⟩; replace HO_4 := Gv.a0 (Kd.R_below (Gv.kr HO_4.out) hb); replace BK0 := Gv.b1 BK0 hb; replace HB := Gv.hb hb; clear hb) | ((with_reducible refine gate_dst (N := 11) rfl ?_); refine Gv.bev 11 23 #[.int .i64 0, .int .i64 0, .int .i64 0, .int .i64 0, .int .i64 0] ?_; intro gb1 hg w60 hbox hb; replace HO_4 := Gv.a0 (Kd.R_below (Gv.kr HO_4.out) hb); have BK1 := Gv.a0 (hbox); have GW1 := Gv.a0 ((Gv.ble hg Gv.bw : w.heap.size ≤ gb1)); have GE1 := GW1; replace HB := Gv.hb hb; have NB0_1 := Gv.a0 ((Gv.nlt hg (Gv.kb BK0.out) : gb0 ≠ gb1)); have NB1_0 := Gv.a0 ((Gv.ngt hg (Gv.kb BK0.out) : gb1 ≠ gb0)); replace BK0 := Gv.b1 BK0 hb; clear hb hbox hg; have hnb61 := NB1_0.out; have hnc61 := NB0_1.out; obtain ⟨z62_0, z62_1, z62_2, z62_3, z62_4⟩ := Gv.c5 BK1.out; obtain ⟨o62_0, o62_1, o62_2, o62_3, o62_4⟩ := Gv.f5 BK1.out; obtain ⟨z63_0, z63_1, z63_2, z63_3, z63_4⟩ := Gv.c5 BK0.out; obtain ⟨o63_0, o63_1, o63_2, o63_3, o63_4⟩ := Gv.f5 BK0.out))
       refine bodyPost_ret (results_ct rfl _ _ gb0 23 #[.int .i64 0, .int .i64 0, .int .i64 0, .int .i64 0, .int .i64 0] (0, 0) _ rfl (by (with_reducible repeat (first | refine blk_drewN ?_ _ | refine blk_drew ?_ | refine blk_alloc ?_ _)); refine blk_put (cs := #[.int .i64 0, .int .i64 0, .int .i64 0, .int .i64 0, .int .i64 x2_24]) ?_ 4 _ rfl; (with_reducible repeat (first | refine blk_drewN ?_ _ | refine blk_drew ?_ | refine blk_alloc ?_ _)); refine blk_put (cs := #[.int .i64 0, .int .i64 0, .int .i64 0, .int .i64 x3_24, .int .i64 x2_24]) ?_ 3 _ rfl; (with_reducible repeat (first | refine blk_drewN ?_ _ | refine blk_drew ?_ | refine blk_alloc ?_ _)); refine blk_put (cs := #[.int .i64 0, .int .i64 0, .int .i64 x6_24, .int .i64 x3_24, .int .i64 x2_24]) ?_ 2 _ rfl; (with_reducible repeat (first | refine blk_drewN ?_ _ | refine blk_drew ?_ | refine blk_alloc ?_ _)); refine blk_put (cs := #[.int .i64 0, .int .i64 x8_24, .int .i64 x6_24, .int .i64 x3_24, .int .i64 x2_24]) ?_ 1 _ rfl; (with_reducible repeat (first | refine blk_drewN ?_ _ | refine blk_drew ?_ | refine blk_alloc ?_ _)); refine blk_put (cs := #[.int .i64 x10_24, .int .i64 x8_24, .int .i64 x6_24, .int .i64 x3_24, .int .i64 x2_24]) ?_ 0 _ rfl; (with_reducible repeat (first | refine blk_drewN ?_ _ | refine blk_drew ?_ | refine blk_alloc ?_ _)); refine blk_far ?_ NB0_1.out _; (with_reducible repeat (first | refine blk_drewN ?_ _ | refine blk_drew ?_ | refine blk_alloc ?_ _)); refine blk_far ?_ NB0_1.out _; (with_reducible repeat (first | refine blk_drewN ?_ _ | refine blk_drew ?_ | refine blk_alloc ?_ _)); refine blk_far ?_ NB0_1.out _; (with_reducible repeat (first | refine blk_drewN ?_ _ | refine blk_drew ?_ | refine blk_alloc ?_ _)); refine blk_far ?_ NB0_1.out _; (with_reducible repeat (first | refine blk_drewN ?_ _ | refine blk_drew ?_ | refine blk_alloc ?_ _)); refine blk_far ?_ NB0_1.out _; (with_reducible repeat (first | refine blk_drewN ?_ _ | refine blk_drew ?_ | refine blk_alloc ?_ _)); exact BK0.out) Tryz.underlying23 rfl (by kernel_rfl)) rfl ?_; exact ⟨Gv.rt, Gv.bw⟩

      subst c40; rw [if_pos rfl] at H
      (try dsimp only at H); replace H := Option.bind_eq_some_iff.mp H; obtain ⟨t21, A33, H⟩ := H
      (try dsimp only at H); have A41 := Gv.a0 A33; clear A33
      by_cases c42 : t21.toList = a0.toList
      ·rw [if_pos c42] at H; have c42b0 : (t21.toList == a0.toList) = true := beq_iff_eq.mpr c42; have c42b1 : (t21.toList != a0.toList) = false := bne_eq_false_iff_eq.mpr c42; clear c42; simp only [Option.some.injEq, Prod.mk.injEq] at H; obtain ⟨rfl, rfl, rfl, rfl, rfl, rfl⟩ := H; obtain ⟨Ao43, co43, eo43⟩ := Kd.R_slice HO_4.out; subst eo43
       go_wp2_with (first | ((with_reducible refine gate_callee (f := 39) rfl ?_); refine goesL_ (some 67) rfl rfl Tryz.func39 (by kernel_rfl) rfl #[.slice Ao43 x4_24.length co43] rfl Gv.lm ?_; (with_reducible refine (spec_AddrOf.calls kj24 _ _ x4_24 t11 t12 t13 t15 t19 true _ ?side1 ?side2 A39.out).mono ?_); (case side1 => repeat (first | exact (Kd.R_reads' HO_4.out).2.2 | (with_reducible refine Kd.C_alloc ?_ _) | (with_reducible refine Kd.C_drewN ?_ _) | (with_reducible refine Kd.C_drew ?_))); (case side2 => exact (Kd.R_reads' HO_4.out).2.1); rintro e w44 ⟨rfl, hb⟩; refine ⟨_, rfl, ?_⟩; replace HO_4 := Gv.a0 (Kd.R_below (Gv.kr HO_4.out) hb); replace BK0 := Gv.b1 BK0 hb; replace HB := Gv.hb hb; clear hb) | ((with_reducible refine gate_dst (N := 11) rfl ?_); refine Gv.bev 11 23 #[.int .i64 0, .int .i64 0, .int .i64 0, .int .i64 0, .int .i64 0] ?_; intro gb1 hg w45 hbox hb; replace HO_4 := Gv.a0 (Kd.R_below (Gv.kr HO_4.out) hb); have BK1 := Gv.a0 (hbox); have GW1 := Gv.a0 ((Gv.ble hg Gv.bw : w.heap.size ≤ gb1)); have GE1 := GW1; replace HB := Gv.hb hb; have NB0_1 := Gv.a0 ((Gv.nlt hg (Gv.kb BK0.out) : gb0 ≠ gb1)); have NB1_0 := Gv.a0 ((Gv.ngt hg (Gv.kb BK0.out) : gb1 ≠ gb0)); replace BK0 := Gv.b1 BK0 hb; clear hb hbox hg; have hnb46 := NB1_0.out; have hnc46 := NB0_1.out; obtain ⟨z47_0, z47_1, z47_2, z47_3, z47_4⟩ := Gv.c5 BK1.out; obtain ⟨o47_0, o47_1, o47_2, o47_3, o47_4⟩ := Gv.f5 BK1.out) | (go_at_call 40; (with_reducible refine (spec_AddrText.calls kj24 t11 t12 t13 t15 t19 t21 _ A41.out).mono ?_); rintro e w48 ⟨rfl, hb⟩; replace HO_4 := Gv.a0 (Kd.R_below (by (with_reducible repeat (first | apply Kd.R_alloc | apply Kd.R_drewN | apply Kd.R_drew)); exact (Kd.R_mono (Kd.R_far (p := ⟨gb1, 4, none⟩) (Kd.R_far (p := ⟨gb1, 3, none⟩) (Kd.R_far (p := ⟨gb1, 2, none⟩) (Kd.R_far (p := ⟨gb1, 1, none⟩) (Kd.R_far (p := ⟨gb1, 0, none⟩) (Kd.R_types HO_4.out BK1.out (by decide)) (fun _ hk => hk.2) (.int .i64 t11)) (fun _ hk => hk.2) (.int .i64 t12)) (fun _ hk => hk.2) (.int .i64 t13)) (fun _ hk => hk.2) (.int .i64 t15)) (fun _ hk => hk.2) (.int .i64 t19)) (fun _ h_ => h_.1))) hb); replace BK0 := Gv.a0 (blk_below (g := gb0) (o := .cells #[.int .i64 x10_24, .int .i64 x8_24, .int .i64 x6_24, .int .i64 x3_24, .int .i64 x2_24] 23 (0, 0)) Gv.bkf hb); replace BK1 := Gv.a0 (blk_below (g := gb1) (o := .cells #[.int .i64 t11, .int .i64 t12, .int .i64 t13, .int .i64 t15, .int .i64 t19] 23 (0, 0)) (by (with_reducible repeat (first | refine blk_drewN ?_ _ | refine blk_drew ?_ | refine blk_alloc ?_ _)); refine blk_put (cs := #[.int .i64 t11, .int .i64 t12, .int .i64 t13, .int .i64 t15, .int .i64 0]) ?_ 4 _ rfl; (with_reducible repeat (first | refine blk_drewN ?_ _ | refine blk_drew ?_ | refine blk_alloc ?_ _)); refine blk_put (cs := #[.int .i64 t11, .int .i64 t12, .int .i64 t13, .int .i64 0, .int .i64 0]) ?_ 3 _ rfl; (with_reducible repeat (first | refine blk_drewN ?_ _ | refine blk_drew ?_ | refine blk_alloc ?_ _)); refine blk_put (cs := #[.int .i64 t11, .int .i64 t12, .int .i64 0, .int .i64 0, .int .i64 0]) ?_ 2 _ rfl; (with_reducible repeat (first | refine blk_drewN ?_ _ | refine blk_drew ?_ | refine blk_alloc ?_ _)); refine blk_put (cs := #[.int .i64 t11, .int .i64 0, .int .i64 0, .int .i64 0, .int .i64 0]) ?_ 1 _ rfl; (with_reducible repeat (first | refine blk_drewN ?_ _ | refine blk_drew ?_ | refine blk_alloc ?_ _)); refine blk_put (cs := #[.int .i64 0, .int .i64 0, .int .i64 0, .int .i64 0, .int .i64 0]) ?_ 0 _ rfl; (with_reducible repeat (first | refine blk_drewN ?_ _ | refine blk_drew ?_ | refine blk_alloc ?_ _)); exact BK1.out) hb); replace HB := Gv.hb hb; clear hb; obtain ⟨z49_0, z49_1, z49_2, z49_3, z49_4⟩ := Gv.c5 BK1.out; obtain ⟨o49_0, o49_1, o49_2, o49_3, o49_4⟩ := Gv.f5 BK1.out; obtain ⟨z50_0, z50_1, z50_2, z50_3, z50_4⟩ := Gv.c5 BK0.out; obtain ⟨o50_0, o50_1, o50_2, o50_3, o50_4⟩ := Gv.f5 BK0.out))
       refine bodyPost_ret (results_ct rfl _ _ gb0 23 #[.int .i64 t11, .int .i64 t12, .int .i64 t13, .int .i64 t15, .int .i64 t19] (0, 0) _ rfl (by (with_reducible repeat (first | refine blk_drewN ?_ _ | refine blk_drew ?_ | refine blk_alloc ?_ _)); refine blk_put (cs := #[.int .i64 t11, .int .i64 t12, .int .i64 t13, .int .i64 t15, .int .i64 x2_24]) ?_ 4 _ rfl; (with_reducible repeat (first | refine blk_drewN ?_ _ | refine blk_drew ?_ | refine blk_alloc ?_ _)); refine blk_put (cs := #[.int .i64 t11, .int .i64 t12, .int .i64 t13, .int .i64 x3_24, .int .i64 x2_24]) ?_ 3 _ rfl; (with_reducible repeat (first | refine blk_drewN ?_ _ | refine blk_drew ?_ | refine blk_alloc ?_ _)); refine blk_put (cs := #[.int .i64 t11, .int .i64 t12, .int .i64 x6_24, .int .i64 x3_24, .int .i64 x2_24]) ?_ 2 _ rfl; (with_reducible repeat (first | refine blk_drewN ?_ _ | refine blk_drew ?_ | refine blk_alloc ?_ _)); refine blk_put (cs := #[.int .i64 t11, .int .i64 x8_24, .int .i64 x6_24, .int .i64 x3_24, .int .i64 x2_24]) ?_ 1 _ rfl; (with_reducible repeat (first | refine blk_drewN ?_ _ | refine blk_drew ?_ | refine blk_alloc ?_ _)); refine blk_put (cs := #[.int .i64 x10_24, .int .i64 x8_24, .int .i64 x6_24, .int .i64 x3_24, .int .i64 x2_24]) ?_ 0 _ rfl; (with_reducible repeat (first | refine blk_drewN ?_ _ | refine blk_drew ?_ | refine blk_alloc ?_ _)); exact BK0.out) Tryz.underlying23 rfl (by kernel_rfl)) rfl ?_; exact ⟨Gv.rt, Gv.bw⟩
      ·rw [if_neg c42] at H; have c42b0 : (t21.toList == a0.toList) = false := beq_eq_false_iff_ne.mpr c42; have c42b1 : (t21.toList != a0.toList) = true := bne_iff_ne.mpr c42; simp only [Option.some.injEq, Prod.mk.injEq] at H; obtain ⟨rfl, rfl, rfl, rfl, rfl, rfl⟩ := H; obtain ⟨Ao51, co51, eo51⟩ := Kd.R_slice HO_4.out; subst eo51
       go_wp2_with (first | ((with_reducible refine gate_callee (f := 39) rfl ?_); refine goesL_ (some 67) rfl rfl Tryz.func39 (by kernel_rfl) rfl #[.slice Ao51 x4_24.length co51] rfl Gv.lm ?_; (with_reducible refine (spec_AddrOf.calls kj24 _ _ x4_24 t11 t12 t13 t15 t19 true _ ?side1 ?side2 A39.out).mono ?_); (case side1 => repeat (first | exact (Kd.R_reads' HO_4.out).2.2 | (with_reducible refine Kd.C_alloc ?_ _) | (with_reducible refine Kd.C_drewN ?_ _) | (with_reducible refine Kd.C_drew ?_))); (case side2 => exact (Kd.R_reads' HO_4.out).2.1); rintro e w52 ⟨rfl, hb⟩; refine ⟨_, rfl, ?_⟩; replace HO_4 := Gv.a0 (Kd.R_below (Gv.kr HO_4.out) hb); replace BK0 := Gv.b1 BK0 hb; replace HB := Gv.hb hb; clear hb) | ((with_reducible refine gate_dst (N := 11) rfl ?_); refine Gv.bev 11 23 #[.int .i64 0, .int .i64 0, .int .i64 0, .int .i64 0, .int .i64 0] ?_; intro gb1 hg w53 hbox hb; replace HO_4 := Gv.a0 (Kd.R_below (Gv.kr HO_4.out) hb); have BK1 := Gv.a0 (hbox); have GW1 := Gv.a0 ((Gv.ble hg Gv.bw : w.heap.size ≤ gb1)); have GE1 := GW1; replace HB := Gv.hb hb; have NB0_1 := Gv.a0 ((Gv.nlt hg (Gv.kb BK0.out) : gb0 ≠ gb1)); have NB1_0 := Gv.a0 ((Gv.ngt hg (Gv.kb BK0.out) : gb1 ≠ gb0)); replace BK0 := Gv.b1 BK0 hb; clear hb hbox hg; have hnb54 := NB1_0.out; have hnc54 := NB0_1.out; obtain ⟨z55_0, z55_1, z55_2, z55_3, z55_4⟩ := Gv.c5 BK1.out; obtain ⟨o55_0, o55_1, o55_2, o55_3, o55_4⟩ := Gv.f5 BK1.out) | (go_at_call 40; (with_reducible refine (spec_AddrText.calls kj24 t11 t12 t13 t15 t19 t21 _ A41.out).mono ?_); rintro e w56 ⟨rfl, hb⟩; replace HO_4 := Gv.a0 (Kd.R_below (by (with_reducible repeat (first | apply Kd.R_alloc | apply Kd.R_drewN | apply Kd.R_drew)); exact (Kd.R_mono (Kd.R_far (p := ⟨gb1, 4, none⟩) (Kd.R_far (p := ⟨gb1, 3, none⟩) (Kd.R_far (p := ⟨gb1, 2, none⟩) (Kd.R_far (p := ⟨gb1, 1, none⟩) (Kd.R_far (p := ⟨gb1, 0, none⟩) (Kd.R_types HO_4.out BK1.out (by decide)) (fun _ hk => hk.2) (.int .i64 t11)) (fun _ hk => hk.2) (.int .i64 t12)) (fun _ hk => hk.2) (.int .i64 t13)) (fun _ hk => hk.2) (.int .i64 t15)) (fun _ hk => hk.2) (.int .i64 t19)) (fun _ h_ => h_.1))) hb); replace BK0 := Gv.a0 (blk_below (g := gb0) (o := .cells #[.int .i64 x10_24, .int .i64 x8_24, .int .i64 x6_24, .int .i64 x3_24, .int .i64 x2_24] 23 (0, 0)) Gv.bkf hb); replace BK1 := Gv.a0 (blk_below (g := gb1) (o := .cells #[.int .i64 t11, .int .i64 t12, .int .i64 t13, .int .i64 t15, .int .i64 t19] 23 (0, 0)) (by (with_reducible repeat (first | refine blk_drewN ?_ _ | refine blk_drew ?_ | refine blk_alloc ?_ _)); refine blk_put (cs := #[.int .i64 t11, .int .i64 t12, .int .i64 t13, .int .i64 t15, .int .i64 0]) ?_ 4 _ rfl; (with_reducible repeat (first | refine blk_drewN ?_ _ | refine blk_drew ?_ | refine blk_alloc ?_ _)); refine blk_put (cs := #[.int .i64 t11, .int .i64 t12, .int .i64 t13, .int .i64 0, .int .i64 0]) ?_ 3 _ rfl; (with_reducible repeat (first | refine blk_drewN ?_ _ | refine blk_drew ?_ | refine blk_alloc ?_ _)); refine blk_put (cs := #[.int .i64 t11, .int .i64 t12, .int .i64 0, .int .i64 0, .int .i64 0]) ?_ 2 _ rfl; (with_reducible repeat (first | refine blk_drewN ?_ _ | refine blk_drew ?_ | refine blk_alloc ?_ _)); refine blk_put (cs := #[.int .i64 t11, .int .i64 0, .int .i64 0, .int .i64 0, .int .i64 0]) ?_ 1 _ rfl; (with_reducible repeat (first | refine blk_drewN ?_ _ | refine blk_drew ?_ | refine blk_alloc ?_ _)); refine blk_put (cs := #[.int .i64 0, .int .i64 0, .int .i64 0, .int .i64 0, .int .i64 0]) ?_ 0 _ rfl; (with_reducible repeat (first | refine blk_drewN ?_ _ | refine blk_drew ?_ | refine blk_alloc ?_ _)); exact BK1.out) hb); replace HB := Gv.hb hb; clear hb; obtain ⟨z57_0, z57_1, z57_2, z57_3, z57_4⟩ := Gv.c5 BK0.out; obtain ⟨o57_0, o57_1, o57_2, o57_3, o57_4⟩ := Gv.f5 BK0.out))
       refine bodyPost_ret (results_ct rfl _ _ gb0 23 #[.int .i64 0, .int .i64 0, .int .i64 0, .int .i64 0, .int .i64 0] (0, 0) _ rfl (by (with_reducible repeat (first | refine blk_drewN ?_ _ | refine blk_drew ?_ | refine blk_alloc ?_ _)); refine blk_put (cs := #[.int .i64 0, .int .i64 0, .int .i64 0, .int .i64 0, .int .i64 x2_24]) ?_ 4 _ rfl; (with_reducible repeat (first | refine blk_drewN ?_ _ | refine blk_drew ?_ | refine blk_alloc ?_ _)); refine blk_put (cs := #[.int .i64 0, .int .i64 0, .int .i64 0, .int .i64 x3_24, .int .i64 x2_24]) ?_ 3 _ rfl; (with_reducible repeat (first | refine blk_drewN ?_ _ | refine blk_drew ?_ | refine blk_alloc ?_ _)); refine blk_put (cs := #[.int .i64 0, .int .i64 0, .int .i64 x6_24, .int .i64 x3_24, .int .i64 x2_24]) ?_ 2 _ rfl; (with_reducible repeat (first | refine blk_drewN ?_ _ | refine blk_drew ?_ | refine blk_alloc ?_ _)); refine blk_put (cs := #[.int .i64 0, .int .i64 x8_24, .int .i64 x6_24, .int .i64 x3_24, .int .i64 x2_24]) ?_ 1 _ rfl; (with_reducible repeat (first | refine blk_drewN ?_ _ | refine blk_drew ?_ | refine blk_alloc ?_ _)); refine blk_put (cs := #[.int .i64 x10_24, .int .i64 x8_24, .int .i64 x6_24, .int .i64 x3_24, .int .i64 x2_24]) ?_ 0 _ rfl; (with_reducible repeat (first | refine blk_drewN ?_ _ | refine blk_drew ?_ | refine blk_alloc ?_ _)); exact BK0.out) Tryz.underlying23 rfl (by kernel_rfl)) rfl ?_; exact ⟨Gv.rt, Gv.bw⟩
/-! ### spec_l03Any: function 41 -/
def spec_l03Any.f (a0_0 : Int) (a0_1 : Int) (a0_2 : Int) (a0_3 : Int) (a0_4 : Int) (a0_5 : Int) : Option (Bool) := some ((a0_0 == 0 && (a0_1 == 0 && (a0_2 == 0 && (a0_3 == 0 && (a0_4 == 0))))) && (a0_5 == 0))
set_option maxHeartbeats 8000000 in
set_option maxRecDepth 100000 in
theorem spec_l03Any.calls (a0_0 : Int) (a0_1 : Int) (a0_2 : Int) (a0_3 : Int) (a0_4 : Int) (a0_5 : Int) (r : Bool) (w : World) (h : spec_l03Any.f a0_0 a0_1 a0_2 a0_3 a0_4 a0_5 = some r) :
  Calls Tryz.prog 41 #[.agg #[.int .i64 a0_0, .int .i64 a0_1, .int .i64 a0_2, .int .i64 a0_3, .int .i64 a0_4, .int .i64 a0_5]] w fun e w' => e = .returned (.bool r) ∧ Below w.heap.size w w' := by
 have hu25 := Tryz.underlying25; have HB := Gv.a0 (Below.refl w.heap.size w); unfold spec_l03Any.f at h; have H := h; clear h; obtain rfl := Option.some.inj H
 go_enter Tryz.func41, Tryz.ntmps41
 go_wp2_with (first | ((with_reducible refine gate_dst (N := 1) rfl ?_); refine Gv.bev 1 25 #[.int .i64 a0_0, .int .i64 a0_1, .int .i64 a0_2, .int .i64 a0_3, .int .i64 a0_4, .int .i64 a0_5] ?_; intro gb0 hg w2 hbox hb; have BK0 := Gv.a0 (hbox); have GW0 := Gv.a0 ((Gv.ble hg Gv.bw : w.heap.size ≤ gb0)); have GE0 := GW0; replace HB := Gv.hb hb; clear hb hbox hg; obtain ⟨z3_0, z3_1, z3_2, z3_3, z3_4, z3_5⟩ := Gv.c6 BK0.out; obtain ⟨o3_0, o3_1, o3_2, o3_3, o3_4, o3_5⟩ := Gv.f6 BK0.out))
 go_ret
 exact ⟨Gv.rt, Gv.bw⟩

/-! ### spec_l03Bits: function 43 -/
def spec_l03Bits.f (a0_0 : Int) (a0_1 : Int) (a0_2 : Int) (a0_3 : Int) (a0_4 : Int) : Option (Int) := if a0_0 = 4 then (some 32) else (some 128)
set_option maxHeartbeats 8000000 in
set_option maxRecDepth 100000 in
theorem spec_l03Bits.calls (a0_0 : Int) (a0_1 : Int) (a0_2 : Int) (a0_3 : Int) (a0_4 : Int) (r : Int) (w : World) (h : spec_l03Bits.f a0_0 a0_1 a0_2 a0_3 a0_4 = some r) :
  Calls Tryz.prog 43 #[.agg #[.int .i64 a0_0, .int .i64 a0_1, .int .i64 a0_2, .int .i64 a0_3, .int .i64 a0_4]] w fun e w' => e = .returned (.int .i64 r) ∧ Below w.heap.size w w' := by
 have hu23 := Tryz.underlying23; have HB := Gv.a0 (Below.refl w.heap.size w); unfold spec_l03Bits.f at h; have H := h; clear h
 by_cases c2 : a0_0 = 4
 ·rw [if_pos c2] at H; have c2b0 : (a0_0 == 4) = true := beq_iff_eq.mpr c2; have c2b1 : (a0_0 != 4) = false := bne_eq_false_iff_eq.mpr c2; clear c2; obtain rfl := Option.some.inj H
  go_enter Tryz.func43, Tryz.ntmps43
  go_wp2_with (first | ((with_reducible refine gate_dst (N := 1) rfl ?_); refine Gv.bev 1 23 #[.int .i64 a0_0, .int .i64 a0_1, .int .i64 a0_2, .int .i64 a0_3, .int .i64 a0_4] ?_; intro gb0 hg w3 hbox hb; have BK0 := Gv.a0 (hbox); have GW0 := Gv.a0 ((Gv.ble hg Gv.bw : w.heap.size ≤ gb0)); have GE0 := GW0; replace HB := Gv.hb hb; clear hb hbox hg; obtain ⟨z4_0, z4_1, z4_2, z4_3, z4_4⟩ := Gv.c5 BK0.out; obtain ⟨o4_0, o4_1, o4_2, o4_3, o4_4⟩ := Gv.f5 BK0.out))
  go_ret
  exact ⟨Gv.rt, Gv.bw⟩
 ·rw [if_neg c2] at H; have c2b0 : (a0_0 == 4) = false := beq_eq_false_iff_ne.mpr c2; have c2b1 : (a0_0 != 4) = true := bne_iff_ne.mpr c2; obtain rfl := Option.some.inj H
  go_enter Tryz.func43, Tryz.ntmps43
  go_wp2_with (first | ((with_reducible refine gate_dst (N := 1) rfl ?_); refine Gv.bev 1 23 #[.int .i64 a0_0, .int .i64 a0_1, .int .i64 a0_2, .int .i64 a0_3, .int .i64 a0_4] ?_; intro gb0 hg w5 hbox hb; have BK0 := Gv.a0 (hbox); have GW0 := Gv.a0 ((Gv.ble hg Gv.bw : w.heap.size ≤ gb0)); have GE0 := GW0; replace HB := Gv.hb hb; clear hb hbox hg; obtain ⟨z6_0, z6_1, z6_2, z6_3, z6_4⟩ := Gv.c5 BK0.out; obtain ⟨o6_0, o6_1, o6_2, o6_3, o6_4⟩ := Gv.f5 BK0.out))
  go_ret
  exact ⟨Gv.rt, Gv.bw⟩

/-! ### spec_Cut: function 44 -/
mutual
def spec_Cut.j0 : Nat → Int → Bool → Int → Int → Int → Int → Int → Option (Int × Int × Int × Int × Int)
 | 0, _, _, _, _, _, _, _ => none
 | k + 1, x1, x23, x247000, x247001, x247002, x247003, x247004 => if x23 = true then (some (0, 0, 0, 0, 0)) else ((spec_AddrBytes.f x247000 x247001 x247002 x247003 x247004).bind fun t250 => (spec_Cut.l0 k t250 x1 x247000 x247001 x247002 x247003 x247004))
def spec_Cut.l0 : Nat → List Int → Int → Int → Int → Int → Int → Int → Option (Int × Int × Int × Int × Int)
 | 0, _, _, _, _, _, _, _ => none
 | k + 1, x5, x6, x247000, x247001, x247002, x247003, x247004 => (spec_l03Bits.f x247000 x247001 x247002 x247003 x247004).bind fun t253 => (if x6 < t253 then (spec_Cut.l1 k x5 x6 128 (Int.tmod x6 8) x247000 x247001 x247002 x247003 x247004) else ((spec_AddrOf.f k x5).bind fun bt254 => (some (bt254.1, bt254.2.1, bt254.2.2.1, bt254.2.2.2.1, bt254.2.2.2.2.1))))
def spec_Cut.l1 : Nat → List Int → Int → Int → Int → Int → Int → Int → Int → Int → Option (Int × Int × Int × Int × Int)
 | 0, _, _, _, _, _, _, _, _, _ => none
 | k + 1, x5, x6, x7, x8, x247000, x247001, x247002, x247003, x247004 => if x8 > 0 then (spec_Cut.l1 k x5 x6 (wrap64 (Int.tdiv x7 2)) (wrap64 (x8 - 1)) x247000 x247001 x247002 x247003 x247004) else (if 0 ≤ (wrap64 (Int.tdiv x6 8)) then (if (wrap64 (Int.tdiv x6 8)) < (x5.length : Int) then (if x7 = 0 then (none) else (if (Int.tmod (wrap64 (Int.tdiv (wrap64 (rd x5 (wrap64 (Int.tdiv x6 8)))) x7)) 2) = 1 then (spec_Cut.l0 k (x5.set ((wrap64 (Int.tdiv x6 8)) : Int).toNat (((rd x5 (wrap64 (Int.tdiv x6 8))) - ((x7) % 256)) % 256)) (wrap64 (x6 + 1)) x247000 x247001 x247002 x247003 x247004) else (spec_Cut.l0 k x5 (wrap64 (x6 + 1)) x247000 x247001 x247002 x247003 x247004))) else (none)) else (none))
end
def spec_Cut.f (k : Nat) (a0_0 : Int) (a0_1 : Int) (a0_2 : Int) (a0_3 : Int) (a0_4 : Int) (a1 : Int) : Option (Int × Int × Int × Int × Int) := (spec_AddrOk.f a0_0 a0_1 a0_2 a0_3 a0_4).bind fun t248 => (if t248 = true then (if a1 < 0 then (spec_Cut.j0 k a1 true a0_0 a0_1 a0_2 a0_3 a0_4) else ((spec_l03Bits.f a0_0 a0_1 a0_2 a0_3 a0_4).bind fun t249 => (spec_Cut.j0 k a1 (decide (a1 > t249)) a0_0 a0_1 a0_2 a0_3 a0_4))) else (spec_Cut.j0 k a1 true a0_0 a0_1 a0_2 a0_3 a0_4))
set_option maxHeartbeats 8000000 in
set_option maxRecDepth 100000 in
theorem spec_Cut.calls (k : Nat) (a0_0 : Int) (a0_1 : Int) (a0_2 : Int) (a0_3 : Int) (a0_4 : Int) (a1 : Int) (r1 : Int) (r2 : Int) (r3 : Int) (r4 : Int) (r5 : Int) (w : World) (h : spec_Cut.f k a0_0 a0_1 a0_2 a0_3 a0_4 a1 = some (r1, r2, r3, r4, r5)) :
  Calls Tryz.prog 44 #[.agg #[.int .i64 a0_0, .int .i64 a0_1, .int .i64 a0_2, .int .i64 a0_3, .int .i64 a0_4], .int .i64 a1] w fun e w' => e = .returned (.agg #[.int .i64 r1, .int .i64 r2, .int .i64 r3, .int .i64 r4, .int .i64 r5]) ∧ Below w.heap.size w w' := by
 have hu23 := Tryz.underlying23; have HB := Gv.a0 (Below.refl w.heap.size w); unfold spec_Cut.f at h; have H := h; clear h; have HC3 := Gv.a0 H; clear H
 go_enter Tryz.func44, Tryz.ntmps44
 go_upto_region 1 with (first | ((with_reducible refine gate_dst (N := 2) rfl ?_); refine Gv.bev 2 23 #[.int .i64 a0_0, .int .i64 a0_1, .int .i64 a0_2, .int .i64 a0_3, .int .i64 a0_4] ?_; intro gb0 hg w4 hbox hb; have BK0 := Gv.a0 (hbox); have GW0 := Gv.a0 ((Gv.ble hg Gv.bw : w.heap.size ≤ gb0)); have GE0 := GW0; replace HB := Gv.hb hb; clear hb hbox hg) | ((with_reducible refine gate_dst (N := 4) rfl ?_); refine Gv.bev 4 23 #[.int .i64 0, .int .i64 0, .int .i64 0, .int .i64 0, .int .i64 0] ?_; intro gb1 hg w5 hbox hb; have BK1 := Gv.a0 (hbox); have GW1 := Gv.a0 ((Gv.ble hg Gv.bw : w.heap.size ≤ gb1)); have GE1 := GW1; replace HB := Gv.hb hb; have NB0_1 := Gv.a0 ((Gv.nlt hg (Gv.kb BK0.out) : gb0 ≠ gb1)); have NB1_0 := Gv.a0 ((Gv.ngt hg (Gv.kb BK0.out) : gb1 ≠ gb0)); replace BK0 := Gv.b1 BK0 hb; clear hb hbox hg))
 (try simp only [Act.put, List.setIfInBounds_toArray, List.set_cons_zero, List.set_cons_succ])
 go_cut [23] (fun v23 wc => ∃ (kq : Nat) (x23_2 : Bool), v23 = .bool x23_2 ∧ Aside0 (spec_Cut.j0 kq a1 x23_2 a0_0 a0_1 a0_2 a0_3 a0_4 = some (r1, r2, r3, r4, r5)) ∧ Aside0 (kq ≤ k) ∧ Aside0 (wc.heap[gb0]? = some (.cells #[.int .i64 a0_0, .int .i64 a0_1, .int .i64 a0_2, .int .i64 a0_3, .int .i64 a0_4] 23 (0, 0))) ∧ Aside0 (wc.heap[gb1]? = some (.cells #[.int .i64 0, .int .i64 0, .int .i64 0, .int .i64 0, .int .i64 0] 23 (0, 0))) ∧ Aside0 (Below w.heap.size w wc))
 case first =>
  have H := HC3.out; clear HC3; replace H := Option.bind_eq_some_iff.mp H; obtain ⟨t19, A60, H⟩ := H
  (try dsimp only at H); have A6 := Gv.a0 A60; clear A60
  by_cases c7 : t19 = true
  ·subst c7; rw [if_pos rfl] at H
   (try dsimp only at H)
   by_cases c8 : a1 < 0
   ·rw [if_pos c8] at H; have c8b0 := decide_eq_true c8; clear c8
    (first | rw [c8b0] | (simp only [i64_w, i32_w]; rw [c8b0]) | skip); have H' := Gv.a0 H; clear H; have hnb9 := NB0_1.out; have hnc9 := NB1_0.out; obtain ⟨z10_0, z10_1, z10_2, z10_3, z10_4⟩ := Gv.c5 BK0.out; obtain ⟨o10_0, o10_1, o10_2, o10_3, o10_4⟩ := Gv.f5 BK0.out
    go_wp2_with (first | ((with_reducible refine gate_callee (f := 42) rfl ?_); refine goesL_ (some 12) rfl rfl Tryz.func42 (by kernel_rfl) rfl #[.agg #[.int .i64 a0_0, .int .i64 a0_1, .int .i64 a0_2, .int .i64 a0_3, .int .i64 a0_4]] rfl Gv.lm ?_; (with_reducible refine (spec_AddrOk.calls a0_0 a0_1 a0_2 a0_3 a0_4 true _ A6.out).mono ?_); rintro e w11 ⟨rfl, hb⟩; refine ⟨_, rfl, ?_⟩; replace BK0 := Gv.b1 BK0 hb; replace BK1 := Gv.b1 BK1 hb; replace HB := Gv.hb hb; clear hb))
    go_meet
    case rel => exact ⟨_, (true), Gv.rq, H', ⟨by first | omega | exact Nat.le_refl _⟩, ⟨by (with_reducible repeat (first | refine blk_drewN ?_ _ | refine blk_drew ?_ | refine blk_alloc ?_ _)); exact BK0.out⟩, ⟨by (with_reducible repeat (first | refine blk_drewN ?_ _ | refine blk_drew ?_ | refine blk_alloc ?_ _)); exact BK1.out⟩, ⟨Gv.bw⟩⟩
   ·rw [if_neg c8] at H; have c8b0 := decide_eq_false c8; clear c8
    (first | rw [c8b0] | (simp only [i64_w, i32_w]; rw [c8b0]) | skip); replace H := Option.bind_eq_some_iff.mp H; obtain ⟨t11, A13, H⟩ := H
    (try dsimp only at H); have A12 := Gv.a0 A13; clear A13; have H' := Gv.a0 H; clear H; have hnb13 := NB0_1.out; have hnc13 := NB1_0.out; obtain ⟨z14_0, z14_1, z14_2, z14_3, z14_4⟩ := Gv.c5 BK0.out; obtain ⟨o14_0, o14_1, o14_2, o14_3, o14_4⟩ := Gv.f5 BK0.out
    go_wp2_with (first | ((with_reducible refine gate_callee (f := 42) rfl ?_); refine goesL_ (some 12) rfl rfl Tryz.func42 (by kernel_rfl) rfl #[.agg #[.int .i64 a0_0, .int .i64 a0_1, .int .i64 a0_2, .int .i64 a0_3, .int .i64 a0_4]] rfl Gv.lm ?_; (with_reducible refine (spec_AddrOk.calls a0_0 a0_1 a0_2 a0_3 a0_4 true _ A6.out).mono ?_); rintro e w15 ⟨rfl, hb⟩; refine ⟨_, rfl, ?_⟩; replace BK0 := Gv.b1 BK0 hb; replace BK1 := Gv.b1 BK1 hb; replace HB := Gv.hb hb; clear hb; obtain ⟨z16_0, z16_1, z16_2, z16_3, z16_4⟩ := Gv.c5 BK0.out; obtain ⟨o16_0, o16_1, o16_2, o16_3, o16_4⟩ := Gv.f5 BK0.out) | (go_at_call 43; (with_reducible refine (spec_l03Bits.calls a0_0 a0_1 a0_2 a0_3 a0_4 t11 _ A12.out).mono ?_); rintro e w17 ⟨rfl, hb⟩; replace BK0 := Gv.b1 BK0 hb; replace BK1 := Gv.b1 BK1 hb; replace HB := Gv.hb hb; clear hb))
    go_meet
    case rel => exact ⟨_, (decide (a1 > t11)), Gv.rq, H', ⟨by first | omega | exact Nat.le_refl _⟩, ⟨by (with_reducible repeat (first | refine blk_drewN ?_ _ | refine blk_drew ?_ | refine blk_alloc ?_ _)); exact BK0.out⟩, ⟨by (with_reducible repeat (first | refine blk_drewN ?_ _ | refine blk_drew ?_ | refine blk_alloc ?_ _)); exact BK1.out⟩, ⟨Gv.bw⟩⟩
  ·replace c7 := Bool.eq_false_iff.mpr c7; subst c7; rw [if_neg (show ¬ (false = true) by decide)] at H
   (try dsimp only at H); have H' := Gv.a0 H; clear H; have hnb18 := NB0_1.out; have hnc18 := NB1_0.out; obtain ⟨z19_0, z19_1, z19_2, z19_3, z19_4⟩ := Gv.c5 BK0.out; obtain ⟨o19_0, o19_1, o19_2, o19_3, o19_4⟩ := Gv.f5 BK0.out
   go_wp2_with (first | ((with_reducible refine gate_callee (f := 42) rfl ?_); refine goesL_ (some 12) rfl rfl Tryz.func42 (by kernel_rfl) rfl #[.agg #[.int .i64 a0_0, .int .i64 a0_1, .int .i64 a0_2, .int .i64 a0_3, .int .i64 a0_4]] rfl Gv.lm ?_; (with_reducible refine (spec_AddrOk.calls a0_0 a0_1 a0_2 a0_3 a0_4 false _ A6.out).mono ?_); rintro e w20 ⟨rfl, hb⟩; refine ⟨_, rfl, ?_⟩; replace BK0 := Gv.b1 BK0 hb; replace BK1 := Gv.b1 BK1 hb; replace HB := Gv.hb hb; clear hb))
   go_meet
   case rel => exact ⟨_, (true), Gv.rq, H', ⟨by first | omega | exact Nat.le_refl _⟩, ⟨by (with_reducible repeat (first | refine blk_drewN ?_ _ | refine blk_drew ?_ | refine blk_alloc ?_ _)); exact BK0.out⟩, ⟨by (with_reducible repeat (first | refine blk_drewN ?_ _ | refine blk_drew ?_ | refine blk_alloc ?_ _)); exact BK1.out⟩, ⟨Gv.bw⟩⟩
 case rest =>
  clear HC3
  try clear c1
  try clear p2
  try clear c4
  try clear c7
  try clear c8
  try clear c8b0
  try clear c9
  try clear c13
  try clear c18
  try clear z10_0 z10_1 z10_2 z10_3 z10_4
  try clear z14_0 z14_1 z14_2 z14_3 z14_4
  try clear z16_0 z16_1 z16_2 z16_3 z16_4
  try clear z19_0 z19_1 z19_2 z19_3 z19_4
  try clear o10_0 o10_1 o10_2 o10_3 o10_4
  try clear o14_0 o14_1 o14_2 o14_3 o14_4
  try clear o16_0 o16_1 o16_2 o16_3 o16_4
  try clear o19_0 o19_1 o19_2 o19_3 o19_4
  obtain ⟨kq, x23_2, rfl, HA, HJ2, BK0, BK1, HB⟩ := hcut; cases kq with
  | zero => exact absurd HA.out (by simp [spec_Cut.j0])
  | succ kj2 =>
   have H := HA.out; clear HA; simp only [spec_Cut.j0] at H
   by_cases c21 : x23_2 = true
   ·subst c21; rw [if_pos rfl] at H
    (try dsimp only at H); simp only [Option.some.injEq, Prod.mk.injEq] at H; obtain ⟨rfl, rfl, rfl, rfl, rfl⟩ := H; have hnb22 := NB1_0.out; have hnc22 := NB0_1.out; obtain ⟨z23_0, z23_1, z23_2, z23_3, z23_4⟩ := Gv.c5 BK1.out; obtain ⟨o23_0, o23_1, o23_2, o23_3, o23_4⟩ := Gv.f5 BK1.out
    go_wp2
    refine bodyPost_ret (results_cell_row rfl _ _ gb1 23 #[.int .i64 0, .int .i64 0, .int .i64 0, .int .i64 0, .int .i64 0] (0, 0) _ rfl (by (with_reducible repeat (first | refine blk_drewN ?_ _ | refine blk_drew ?_ | refine blk_alloc ?_ _)); refine blk_put (cs := #[.int .i64 0, .int .i64 0, .int .i64 0, .int .i64 0, .int .i64 0]) ?_ 4 _ rfl; (with_reducible repeat (first | refine blk_drewN ?_ _ | refine blk_drew ?_ | refine blk_alloc ?_ _)); refine blk_put (cs := #[.int .i64 0, .int .i64 0, .int .i64 0, .int .i64 0, .int .i64 0]) ?_ 3 _ rfl; (with_reducible repeat (first | refine blk_drewN ?_ _ | refine blk_drew ?_ | refine blk_alloc ?_ _)); refine blk_put (cs := #[.int .i64 0, .int .i64 0, .int .i64 0, .int .i64 0, .int .i64 0]) ?_ 2 _ rfl; (with_reducible repeat (first | refine blk_drewN ?_ _ | refine blk_drew ?_ | refine blk_alloc ?_ _)); refine blk_put (cs := #[.int .i64 0, .int .i64 0, .int .i64 0, .int .i64 0, .int .i64 0]) ?_ 1 _ rfl; (with_reducible repeat (first | refine blk_drewN ?_ _ | refine blk_drew ?_ | refine blk_alloc ?_ _)); refine blk_put (cs := #[.int .i64 0, .int .i64 0, .int .i64 0, .int .i64 0, .int .i64 0]) ?_ 0 _ rfl; (with_reducible repeat (first | refine blk_drewN ?_ _ | refine blk_drew ?_ | refine blk_alloc ?_ _)); exact BK1.out) Tryz.underlying23 rfl (by kernel_rfl)) rfl ?_; exact ⟨Gv.rt, Gv.bw⟩
   ·replace c21 := Bool.eq_false_iff.mpr c21; subst c21; rw [if_neg (show ¬ (false = true) by decide)] at H
    (try dsimp only at H); replace H := Option.bind_eq_some_iff.mp H; obtain ⟨t12, A14, H⟩ := H
    (try dsimp only at H); have A24 := Gv.a0 A14; clear A14; have H' := Gv.a0 H; clear H; have hnb25 := NB0_1.out; have hnc25 := NB1_0.out; obtain ⟨z26_0, z26_1, z26_2, z26_3, z26_4⟩ := Gv.c5 BK0.out; obtain ⟨o26_0, o26_1, o26_2, o26_3, o26_4⟩ := Gv.f5 BK0.out
    go_wp2_with (first | ((with_reducible refine gate_callee (f := 66) rfl ?_); refine goesL_ (some 26) rfl rfl Tryz.func66 (by kernel_rfl) rfl #[.agg #[.int .i64 a0_0, .int .i64 a0_1, .int .i64 a0_2, .int .i64 a0_3, .int .i64 a0_4]] rfl Gv.lm ?_; (with_reducible refine (spec_AddrBytes.calls a0_0 a0_1 a0_2 a0_3 a0_4 t12 _ A24.out).mono ?_); rintro e w27 ⟨v15, rfl, ho0, hb⟩; refine ⟨_, rfl, ?_⟩; have HO20 := Gv.a0 (Kd.R_lower ho0 (below_size Gv.bw)); replace BK0 := Gv.b1 BK0 hb; replace BK1 := Gv.b1 BK1 hb; replace HB := Gv.hb hb; clear hb ho0))
    go_loopg [6] kj2 (fun kq v6 w' => ∃ (x5_2 : List Int) (x6_2 : Int), v6 = .int .i64 x6_2 ∧ Aside0 (spec_Cut.l0 kq x5_2 x6_2 a0_0 a0_1 a0_2 a0_3 a0_4 = some (r1, r2, r3, r4, r5)) ∧ Aside0 (kq ≤ kj2) ∧ Aside0 (Kd.R (Kd.int .u8) 5 w' w.heap.size (fun _ => True) v15 x5_2) ∧ Aside0 (w'.heap[gb0]? = some (.cells #[.int .i64 a0_0, .int .i64 a0_1, .int .i64 a0_2, .int .i64 a0_3, .int .i64 a0_4] 23 (0, 0))) ∧ Aside0 (w'.heap[gb1]? = some (.cells #[.int .i64 0, .int .i64 0, .int .i64 0, .int .i64 0, .int .i64 0] 23 (0, 0))) ∧ Aside0 (Below w.heap.size w w'))
    case atStart => exact ⟨(t12), (a1), Gv.rq, H', ⟨Nat.le_refl _⟩, ⟨Gv.kr HO20.out⟩, ⟨by (with_reducible repeat (first | refine blk_drewN ?_ _ | refine blk_drew ?_ | refine blk_alloc ?_ _)); exact BK0.out⟩, ⟨by (with_reducible repeat (first | refine blk_drewN ?_ _ | refine blk_drew ?_ | refine blk_alloc ?_ _)); exact BK1.out⟩, ⟨Gv.bw⟩⟩
    case round =>
     clear H'
     try clear c1
     try clear c2
     try clear p2
     try clear c4
     try clear c6
     try clear c7
     try clear c8
     try clear c8b0
     try clear c9
     try clear c13
     try clear c18
     try clear c21
     try clear c22
     try clear c25
     try clear z10_0 z10_1 z10_2 z10_3 z10_4
     try clear z14_0 z14_1 z14_2 z14_3 z14_4
     try clear z16_0 z16_1 z16_2 z16_3 z16_4
     try clear z19_0 z19_1 z19_2 z19_3 z19_4
     try clear z23_0 z23_1 z23_2 z23_3 z23_4
     try clear z26_0 z26_1 z26_2 z26_3 z26_4
     try clear o10_0 o10_1 o10_2 o10_3 o10_4
     try clear o14_0 o14_1 o14_2 o14_3 o14_4
     try clear o16_0 o16_1 o16_2 o16_3 o16_4
     try clear o19_0 o19_1 o19_2 o19_3 o19_4
     try clear o23_0 o23_1 o23_2 o23_3 o23_4
     try clear o26_0 o26_1 o26_2 o26_3 o26_4
     try clear p2
     obtain ⟨x5_2, x6_2, rfl, HA, HK2, HO_5, BK0, BK1, HB⟩ := hrel; cases gk with
     | zero => exact absurd HA.out (by simp [spec_Cut.l0])
     | succ k2 =>
      have H := HA.out; clear HA; simp only [spec_Cut.l0] at H; replace H := Option.bind_eq_some_iff.mp H; obtain ⟨t9, A16, H⟩ := H
      (try dsimp only at H); have A28 := Gv.a0 A16; clear A16
      by_cases c29 : x6_2 < t9
      ·rw [if_pos c29] at H; have c29b0 := decide_eq_true c29; clear c29; have H' := Gv.a0 H; clear H; have hnb30 := NB0_1.out; have hnc30 := NB1_0.out; obtain ⟨z31_0, z31_1, z31_2, z31_3, z31_4⟩ := Gv.c5 BK0.out; obtain ⟨o31_0, o31_1, o31_2, o31_3, o31_4⟩ := Gv.f5 BK0.out
       go_wp2_with (first | ((with_reducible refine gate_callee (f := 43) rfl ?_); refine goesL_ (some 30) rfl rfl Tryz.func43 (by kernel_rfl) rfl #[.agg #[.int .i64 a0_0, .int .i64 a0_1, .int .i64 a0_2, .int .i64 a0_3, .int .i64 a0_4]] rfl Gv.lm ?_; (with_reducible refine (spec_l03Bits.calls a0_0 a0_1 a0_2 a0_3 a0_4 t9 _ A28.out).mono ?_); rintro e w32 ⟨rfl, hb⟩; refine ⟨_, rfl, ?_⟩; replace HO_5 := Gv.a0 (Kd.R_below (Gv.kr HO_5.out) hb); replace BK0 := Gv.b1 BK0 hb; replace BK1 := Gv.b1 BK1 hb; replace HB := Gv.hb hb; clear hb))
       go_loopg [7, 8] k2 (fun kq v7 v8 w' => ∃ (x7_3 : Int) (x8_3 : Int), v7 = .int .i64 x7_3 ∧ v8 = .int .i64 x8_3 ∧ Aside0 (spec_Cut.l1 kq x5_2 x6_2 x7_3 x8_3 a0_0 a0_1 a0_2 a0_3 a0_4 = some (r1, r2, r3, r4, r5)) ∧ Aside0 (kq ≤ k2) ∧ Aside0 (Kd.R (Kd.int .u8) 5 w' w.heap.size (fun _ => True) v15 x5_2) ∧ Aside0 (w'.heap[gb0]? = some (.cells #[.int .i64 a0_0, .int .i64 a0_1, .int .i64 a0_2, .int .i64 a0_3, .int .i64 a0_4] 23 (0, 0))) ∧ Aside0 (w'.heap[gb1]? = some (.cells #[.int .i64 0, .int .i64 0, .int .i64 0, .int .i64 0, .int .i64 0] 23 (0, 0))) ∧ Aside0 (Below w.heap.size w w'))
       case atStart => exact ⟨(128), (Int.tmod x6_2 8), Gv.rq, Gv.rq, H', ⟨Nat.le_refl _⟩, ⟨Gv.kr HO_5.out⟩, ⟨by (with_reducible repeat (first | refine blk_drewN ?_ _ | refine blk_drew ?_ | refine blk_alloc ?_ _)); exact BK0.out⟩, ⟨by (with_reducible repeat (first | refine blk_drewN ?_ _ | refine blk_drew ?_ | refine blk_alloc ?_ _)); exact BK1.out⟩, ⟨Gv.bw⟩⟩
       case round =>
        clear H'
        try clear c1
        try clear c2
        try clear p2
        try clear c3
        try clear c4
        try clear c6
        try clear c7
        try clear c8
        try clear c8b0
        try clear c9
        try clear c13
        try clear c18
        try clear c21
        try clear c22
        try clear c25
        try clear c29
        try clear c29b0
        try clear c30
        try clear z10_0 z10_1 z10_2 z10_3 z10_4
        try clear z14_0 z14_1 z14_2 z14_3 z14_4
        try clear z16_0 z16_1 z16_2 z16_3 z16_4
        try clear z19_0 z19_1 z19_2 z19_3 z19_4
        try clear z23_0 z23_1 z23_2 z23_3 z23_4
        try clear z26_0 z26_1 z26_2 z26_3 z26_4
        try clear z31_0 z31_1 z31_2 z31_3 z31_4
        try clear o10_0 o10_1 o10_2 o10_3 o10_4
        try clear o14_0 o14_1 o14_2 o14_3 o14_4
        try clear o16_0 o16_1 o16_2 o16_3 o16_4
        try clear o19_0 o19_1 o19_2 o19_3 o19_4
        try clear o23_0 o23_1 o23_2 o23_3 o23_4
        try clear o26_0 o26_1 o26_2 o26_3 o26_4
        try clear o31_0 o31_1 o31_2 o31_3 o31_4
        try clear p2
        obtain ⟨x7_3, x8_3, rfl, rfl, HA, HK3, HO_5, BK0, BK1, HB⟩ := hrel; cases gk with
        | zero => exact absurd HA.out (by simp [spec_Cut.l1])
        | succ k3 =>
         have H := HA.out; clear HA; simp only [spec_Cut.l1] at H
         by_cases c33 : x8_3 > 0
         ·rw [if_pos c33] at H; have c33b0 : decide (0 < x8_3) = true := decide_eq_true c33; clear c33; have H' := Gv.a0 H; clear H
          go_wp2
          go_roundg k3
          case measure => have := HJ2.out; have := HK2.out; have := HK3.out; omega
          case rel => exact ⟨(wrap64 (Int.tdiv x7_3 2)), (wrap64 (x8_3 - 1)), Gv.rq, Gv.rq, H', ⟨by have := HJ2.out; have := HK2.out; have := HK3.out; omega⟩, ⟨Gv.kr HO_5.out⟩, ⟨by (with_reducible repeat (first | refine blk_drewN ?_ _ | refine blk_drew ?_ | refine blk_alloc ?_ _)); exact BK0.out⟩, ⟨by (with_reducible repeat (first | refine blk_drewN ?_ _ | refine blk_drew ?_ | refine blk_alloc ?_ _)); exact BK1.out⟩, ⟨Gv.bw⟩⟩
         ·rw [if_neg c33] at H; have c33b0 : decide (0 < x8_3) = false := decide_eq_false c33; clear c33; obtain ⟨ji34, hji34⟩ : ∃ j_ : Int, (wrap64 (Int.tdiv x6_2 8)) = j_ := ⟨_, rfl⟩
          replace H : (if 0 ≤ (ji34) then (if (ji34) < (x5_2.length : Int) then (if x7_3 = 0 then (none) else (if (Int.tmod (wrap64 (Int.tdiv (wrap64 (rd x5_2 (ji34))) x7_3)) 2) = 1 then (spec_Cut.l0 k3 (x5_2.set ((ji34) : Int).toNat (((rd x5_2 (ji34)) - ((x7_3) % 256)) % 256)) (wrap64 (x6_2 + 1)) a0_0 a0_1 a0_2 a0_3 a0_4) else (spec_Cut.l0 k3 x5_2 (wrap64 (x6_2 + 1)) a0_0 a0_1 a0_2 a0_3 a0_4))) else (none)) else (none)) = some (r1, r2, r3, r4, r5) := by first | (rw [hji34] at H; exact H) | (simp only [hji34] at H ⊢; exact H)
          have hji34w : (IntKind.i64.wrap (Int.tdiv x6_2 8)) = ji34 := (i64_w _).trans hji34
          by_cases c35 : 0 ≤ (ji34)
          rotate_left
          ·rw [if_neg c35] at H; cases H
          rw [if_pos c35] at H; have c35b0 := decide_eq_true c35; clear c35
          by_cases c36 : (ji34) < (x5_2.length : Int)
          rotate_left
          ·rw [if_neg c36] at H; cases H
          rw [if_pos c36] at H; have c36b0 := decide_eq_true c36; clear c36
          by_cases c37 : x7_3 = 0
          ·rw [if_pos c37] at H; cases H
          ·rw [if_neg c37] at H; have c37b0 : (x7_3 == 0) = false := beq_eq_false_iff_ne.mpr c37; have c37b1 : (x7_3 != 0) = true := bne_iff_ne.mpr c37
           by_cases c38 : (Int.tmod (wrap64 (Int.tdiv (wrap64 (rd x5_2 (ji34))) x7_3)) 2) = 1
           ·rw [if_pos c38] at H; have c38b0 : ((Int.tmod (wrap64 (Int.tdiv (wrap64 (rd x5_2 (ji34))) x7_3)) 2) == 1) = true := beq_iff_eq.mpr c38; have c38b1 : ((Int.tmod (wrap64 (Int.tdiv (wrap64 (rd x5_2 (ji34))) x7_3)) 2) != 1) = false := bne_eq_false_iff_eq.mpr c38; clear c38; obtain ⟨y5, hy5⟩ : ∃ y_ : List Int, y_ = (x5_2.set ((ji34) : Int).toNat (((rd x5_2 (ji34)) - ((x7_3) % 256)) % 256)) := ⟨_, rfl⟩
            replace H : (spec_Cut.l0 k3 y5 (wrap64 (x6_2 + 1)) a0_0 a0_1 a0_2 a0_3 a0_4) = some (r1, r2, r3, r4, r5) := by first | (rw [hy5]; with_reducible exact H) | (have H2_ := (Option.bind_some _ _).symm.trans H; rw [hy5]; with_reducible exact H2_) | (have H2_ := (Option.bind_some _ _).symm.trans H; with_reducible exact H2_) | with_reducible exact H | (rw [hy5]; exact H) | exact H
            have Ny5 := Gv.a0 hy5; clear hy5; have H' := Gv.a0 H; clear H; obtain ⟨Ao40, co40, eo40⟩ := Kd.R_slice HO_5.out; subst eo40; have p3 : 0 ≤ ((ji34) : Int) := Gv.od; have q3 : (ji34) < (x5_2.length : Int) := Gv.od; obtain ⟨ad3, e3, u3_0⟩ := Kd.at_int (Kd.R_reads' HO_5.out).2.2 (ji34) p3 q3; cases e3; replace p3 := eq_true p3; replace q3 := eq_true q3; have p4 : 0 ≤ ((ji34) : Int) := Gv.od; have q4 : (ji34) < (x5_2.length : Int) := Gv.od; obtain ⟨ad4, e4, u4_0⟩ := Kd.at_int (Kd.R_reads' HO_5.out).2.2 (ji34) p4 q4; obtain rfl : ad3 = ad4 := (by injection e4); replace p4 := eq_true p4; replace q4 := eq_true q4; have p39 : 0 ≤ ((ji34) : Int) := Gv.od; have q39 : ((ji34) : Int) < ((x5_2.length : Int) : Int) := Gv.od; obtain ⟨go39, co39, eo39, gb39, gl39, cl39, HG39⟩ := Kd.R_form HO_5.out (by omega)
            (first | cases eo39 | (injection eo39 with ea_ en_ ec_; (first | subst ea_ | (injection ea_ with ea_; subst ea_)); subst ec_; clear en_)); have GB39 := Gv.a0 gb39; have GG39 := Gv.a0 HG39; clear gb39 gl39 HG39
            (try simp only [add_plain] at u3_0 u4_0); obtain ⟨u39_0, n39_0⟩ := Kd.R_celln 0 HO_5.out ((ji34) : Int) p39 q39; replace p39 := eq_true p39; replace q39 := eq_true q39; have HP41 := Kd.R_putg HO_5.out ((ji34) : Int) (((rd x5_2 (ji34)) - ((x7_3) % 256)) % 256)
            go_wp2_with (first | ((with_reducible refine gate_store (t := 5) (p := 63) rfl ?_); refine store_event (t := 5) (p := 63) (v := ?vo_w42) (w1 := (wr.setCell ⟨go39, ((ji34) : Int).toNat, none⟩ (.int .u8 (((rd x5_2 (ji34)) - ((x7_3) % 256)) % 256)))) ?hg ?ho ?hn ?hr ?_; (case ho => rfl); (case hg => rfl); (case hn => rfl); (case hr => first | (go_simp; done) | (go_simp; rfl)); intro w42 hw; have hg : wr.grownBy w42 (some go39) := (by rw [hw]; exact HP41.2); have hp_ : Kd.R (Kd.int .u8) 5 w42 w.heap.size (fun _ => True) (.slice (some ⟨go39, 0, none⟩) x5_2.length co40) y5 := (by rw [hw, Ny5.out]; exact HP41.1); clear HP41; replace BK0 := Gv.a0 (blk_grown (g := gb0) (o := .cells #[.int .i64 a0_0, .int .i64 a0_1, .int .i64 a0_2, .int .i64 a0_3, .int .i64 a0_4] 23 (0, 0)) Gv.bk hg (Kd.R_ne HO_5.out BK0.out (by decide))); replace BK1 := Gv.a0 (blk_grown (g := gb1) (o := .cells #[.int .i64 0, .int .i64 0, .int .i64 0, .int .i64 0, .int .i64 0] 23 (0, 0)) Gv.bk hg (Kd.R_ne HO_5.out BK1.out (by decide))); replace HO_5 := Gv.a0 (hp_); replace HB := Gv.a0 ((by rw [hw]; exact below_set (HB.out) GB39.out : Below w.heap.size w w42)); clear hg hw hp_))
            go_roundg k3
            case measure => have := HJ2.out; have := HK2.out; have := HK3.out; omega
            case rel => exact ⟨(y5), (wrap64 (x6_2 + 1)), Gv.rq, H', ⟨by have := HJ2.out; have := HK2.out; have := HK3.out; omega⟩, ⟨Gv.kr HO_5.out⟩, ⟨by (with_reducible repeat (first | refine blk_drewN ?_ _ | refine blk_drew ?_ | refine blk_alloc ?_ _)); exact BK0.out⟩, ⟨by (with_reducible repeat (first | refine blk_drewN ?_ _ | refine blk_drew ?_ | refine blk_alloc ?_ _)); exact BK1.out⟩, ⟨Gv.bw⟩⟩
           ·rw [if_neg c38] at H; have c38b0 : ((Int.tmod (wrap64 (Int.tdiv (wrap64 (rd x5_2 (ji34))) x7_3)) 2) == 1) = false := beq_eq_false_iff_ne.mpr c38; have c38b1 : ((Int.tmod (wrap64 (Int.tdiv (wrap64 (rd x5_2 (ji34))) x7_3)) 2) != 1) = true := bne_iff_ne.mpr c38; have H' := Gv.a0 H; clear H; obtain ⟨Ao43, co43, eo43⟩ := Kd.R_slice HO_5.out; subst eo43; have p3 : 0 ≤ ((ji34) : Int) := Gv.od; have q3 : (ji34) < (x5_2.length : Int) := Gv.od; obtain ⟨ad3, e3, u3_0⟩ := Kd.at_int (Kd.R_reads' HO_5.out).2.2 (ji34) p3 q3; cases e3; replace p3 := eq_true p3; replace q3 := eq_true q3
            go_wp2
            go_roundg k3
            case measure => have := HJ2.out; have := HK2.out; have := HK3.out; omega
            case rel => exact ⟨(x5_2), (wrap64 (x6_2 + 1)), Gv.rq, H', ⟨by have := HJ2.out; have := HK2.out; have := HK3.out; omega⟩, ⟨Gv.kr HO_5.out⟩, ⟨by (with_reducible repeat (first | refine blk_drewN ?_ _ | refine blk_drew ?_ | refine blk_alloc ?_ _)); exact BK0.out⟩, ⟨by (with_reducible repeat (first | refine blk_drewN ?_ _ | refine blk_drew ?_ | refine blk_alloc ?_ _)); exact BK1.out⟩, ⟨Gv.bw⟩⟩
      ·rw [if_neg c29] at H; have c29b0 := decide_eq_false c29; clear c29; replace H := Option.bind_eq_some_iff.mp H; obtain ⟨⟨t6, t7, t8, t10, t17, t21⟩, A18, H⟩ := H
       (try dsimp only at H); have A44 := Gv.a0 A18; clear A18; simp only [Option.some.injEq, Prod.mk.injEq] at H; obtain ⟨rfl, rfl, rfl, rfl, rfl⟩ := H; have hnb45 := NB0_1.out; have hnc45 := NB1_0.out; obtain ⟨z46_0, z46_1, z46_2, z46_3, z46_4⟩ := Gv.c5 BK0.out; obtain ⟨o46_0, o46_1, o46_2, o46_3, o46_4⟩ := Gv.f5 BK0.out
       go_wp2_with (first | ((with_reducible refine gate_callee (f := 43) rfl ?_); refine goesL_ (some 30) rfl rfl Tryz.func43 (by kernel_rfl) rfl #[.agg #[.int .i64 a0_0, .int .i64 a0_1, .int .i64 a0_2, .int .i64 a0_3, .int .i64 a0_4]] rfl Gv.lm ?_; (with_reducible refine (spec_l03Bits.calls a0_0 a0_1 a0_2 a0_3 a0_4 t9 _ A28.out).mono ?_); rintro e w47 ⟨rfl, hb⟩; refine ⟨_, rfl, ?_⟩; replace HO_5 := Gv.a0 (Kd.R_below (Gv.kr HO_5.out) hb); replace BK0 := Gv.b1 BK0 hb; replace BK1 := Gv.b1 BK1 hb; replace HB := Gv.hb hb; clear hb; obtain ⟨Ao48, co48, eo48⟩ := Kd.R_slice HO_5.out; subst eo48) | ((with_reducible refine gate_callee (f := 39) rfl ?_); refine goesL_ (some 66) rfl rfl Tryz.func39 (by kernel_rfl) rfl #[.slice Ao48 x5_2.length co48] rfl Gv.lm ?_; (with_reducible refine (spec_AddrOf.calls k2 _ _ x5_2 t6 t7 t8 t10 t17 t21 _ ?side1 ?side2 A44.out).mono ?_); (case side1 => repeat (first | exact (Kd.R_reads' HO_5.out).2.2 | (with_reducible refine Kd.C_alloc ?_ _) | (with_reducible refine Kd.C_drewN ?_ _) | (with_reducible refine Kd.C_drew ?_))); (case side2 => exact (Kd.R_reads' HO_5.out).2.1); rintro e w49 ⟨rfl, hb⟩; refine ⟨_, rfl, ?_⟩; replace HO_5 := Gv.a0 (Kd.R_below (Gv.kr HO_5.out) hb); replace BK0 := Gv.b1 BK0 hb; replace BK1 := Gv.b1 BK1 hb; replace HB := Gv.hb hb; clear hb) | ((with_reducible refine gate_dst (N := 9) rfl ?_); refine Gv.bev 9 23 #[.int .i64 0, .int .i64 0, .int .i64 0, .int .i64 0, .int .i64 0] ?_; intro gb2 hg w50 hbox hb; replace HO_5 := Gv.a0 (Kd.R_below (Gv.kr HO_5.out) hb); have BK2 := Gv.a0 (hbox); have GW2 := Gv.a0 ((Gv.ble hg Gv.bw : w.heap.size ≤ gb2)); have GE2 := GW2; replace HB := Gv.hb hb; have NB0_2 := Gv.a0 ((Gv.nlt hg (Gv.kb BK0.out) : gb0 ≠ gb2)); have NB2_0 := Gv.a0 ((Gv.ngt hg (Gv.kb BK0.out) : gb2 ≠ gb0)); replace BK0 := Gv.b1 BK0 hb; have NB1_2 := Gv.a0 ((Gv.nlt hg (Gv.kb BK1.out) : gb1 ≠ gb2)); have NB2_1 := Gv.a0 ((Gv.ngt hg (Gv.kb BK1.out) : gb2 ≠ gb1)); replace BK1 := Gv.b1 BK1 hb; clear hb hbox hg; have hnb51 := NB2_0.out; have hnc51 := NB0_2.out; have hnb52 := NB2_1.out; have hnc52 := NB1_2.out; obtain ⟨z53_0, z53_1, z53_2, z53_3, z53_4⟩ := Gv.c5 BK2.out; obtain ⟨o53_0, o53_1, o53_2, o53_3, o53_4⟩ := Gv.f5 BK2.out; obtain ⟨z54_0, z54_1, z54_2, z54_3, z54_4⟩ := Gv.c5 BK1.out; obtain ⟨o54_0, o54_1, o54_2, o54_3, o54_4⟩ := Gv.f5 BK1.out))
       refine bodyPost_ret (results_cell_row rfl _ _ gb1 23 #[.int .i64 t6, .int .i64 t7, .int .i64 t8, .int .i64 t10, .int .i64 t17] (0, 0) _ rfl (by (with_reducible repeat (first | refine blk_drewN ?_ _ | refine blk_drew ?_ | refine blk_alloc ?_ _)); refine blk_put (cs := #[.int .i64 t6, .int .i64 t7, .int .i64 t8, .int .i64 t10, .int .i64 0]) ?_ 4 _ rfl; (with_reducible repeat (first | refine blk_drewN ?_ _ | refine blk_drew ?_ | refine blk_alloc ?_ _)); refine blk_put (cs := #[.int .i64 t6, .int .i64 t7, .int .i64 t8, .int .i64 0, .int .i64 0]) ?_ 3 _ rfl; (with_reducible repeat (first | refine blk_drewN ?_ _ | refine blk_drew ?_ | refine blk_alloc ?_ _)); refine blk_put (cs := #[.int .i64 t6, .int .i64 t7, .int .i64 0, .int .i64 0, .int .i64 0]) ?_ 2 _ rfl; (with_reducible repeat (first | refine blk_drewN ?_ _ | refine blk_drew ?_ | refine blk_alloc ?_ _)); refine blk_put (cs := #[.int .i64 t6, .int .i64 0, .int .i64 0, .int .i64 0, .int .i64 0]) ?_ 1 _ rfl; (with_reducible repeat (first | refine blk_drewN ?_ _ | refine blk_drew ?_ | refine blk_alloc ?_ _)); refine blk_put (cs := #[.int .i64 0, .int .i64 0, .int .i64 0, .int .i64 0, .int .i64 0]) ?_ 0 _ rfl; (with_reducible repeat (first | refine blk_drewN ?_ _ | refine blk_drew ?_ | refine blk_alloc ?_ _)); refine blk_far ?_ NB1_2.out _; (with_reducible repeat (first | refine blk_drewN ?_ _ | refine blk_drew ?_ | refine blk_alloc ?_ _)); refine blk_far ?_ NB1_2.out _; (with_reducible repeat (first | refine blk_drewN ?_ _ | refine blk_drew ?_ | refine blk_alloc ?_ _)); refine blk_far ?_ NB1_2.out _; (with_reducible repeat (first | refine blk_drewN ?_ _ | refine blk_drew ?_ | refine blk_alloc ?_ _)); refine blk_far ?_ NB1_2.out _; (with_reducible repeat (first | refine blk_drewN ?_ _ | refine blk_drew ?_ | refine blk_alloc ?_ _)); refine blk_far ?_ NB1_2.out _; (with_reducible repeat (first | refine blk_drewN ?_ _ | refine blk_drew ?_ | refine blk_alloc ?_ _)); exact BK1.out) Tryz.underlying23 rfl (by kernel_rfl)) rfl ?_; exact ⟨Gv.rt, Gv.bw⟩

end Go.Proofs.YtbihbbkdciebhaaGreatDoor.PRr
