/- Plain Lean functions of a law's Go functions, their contracts, by a program of this session (wip/pr.py over the kit's print). -/
import Derived.Test.YtbihbbkdciebhaaDoorPRtx0
import Derived.Test.YtbihbbkdciebhaaDoorPRtx2
import Derived.Test.YtbihbbkdciebhaaDoorPRtx3
import Derived.Test.YtbihbbkdciebhaaDoorPRtx4
namespace Go.Proofs.YtbihbbkdciebhaaDoor.PRt
open Go.RowKit Go.Proofs.YtbihbbkdciebhaaDoorW.PrintWords Go.Proofs.YtbihbbkdciebhaaDoorW.PrintLast Go.Proofs.YtbihbbkdciebhaaDoorW.PrintMore
attribute [local go_sem] max2_int min2_int max_two min_two max_three min_three max_four min_four   -- for this text's walks alone
set_option linter.unusedVariables false
set_option linter.unusedSimpArgs false

attribute [local go_sem high] eqA31
/-! ### spec_AddrText: function 19 -/
mutual
def spec_AddrText.j1 : Nat → List Int → ByteArray → Option (ByteArray)
 | 0, _, _ => none
 | k + 1, x3, x4 => if (x3.length : Int) = 16 then (spec_AddrText.l1 k x3 x4 0) else (some x4)
def spec_AddrText.l1 : Nat → List Int → ByteArray → Int → Option (ByteArray)
 | 0, _, _, _ => none
 | k + 1, x3, x4, x6 => if x6 < 8 then (if x6 > 0 then (if x4.size + 1 ≤ 9223372036854775807 then (if 0 ≤ (wrap64 (2 * x6)) then (if (wrap64 (2 * x6)) < (x3.length : Int) then (if 0 ≤ (wrap64 ((wrap64 (2 * x6)) + 1)) then (if (wrap64 ((wrap64 (2 * x6)) + 1)) < (x3.length : Int) then ((spec_l03Hex.f k (wrap64 ((wrap64 (256 * (wrap64 (rd x3 (wrap64 (2 * x6)))))) + (wrap64 (rd x3 (wrap64 ((wrap64 (2 * x6)) + 1))))))).bind fun t233 => (if (x4 ++ (⟨#[58]⟩ : ByteArray)).size + t233.size ≤ 9223372036854775807 then (spec_AddrText.l1 k x3 ((x4 ++ (⟨#[58]⟩ : ByteArray)) ++ t233) (wrap64 (x6 + 1))) else (none))) else (none)) else (none)) else (none)) else (none)) else (none)) else (if 0 ≤ (wrap64 (2 * x6)) then (if (wrap64 (2 * x6)) < (x3.length : Int) then (if 0 ≤ (wrap64 ((wrap64 (2 * x6)) + 1)) then (if (wrap64 ((wrap64 (2 * x6)) + 1)) < (x3.length : Int) then ((spec_l03Hex.f k (wrap64 ((wrap64 (256 * (wrap64 (rd x3 (wrap64 (2 * x6)))))) + (wrap64 (rd x3 (wrap64 ((wrap64 (2 * x6)) + 1))))))).bind fun t236 => (if x4.size + t236.size ≤ 9223372036854775807 then (spec_AddrText.l1 k x3 (x4 ++ t236) (wrap64 (x6 + 1))) else (none))) else (none)) else (none)) else (none)) else (none))) else (some x4)
def spec_AddrText.l0 : Nat → List Int → ByteArray → Int → Option (ByteArray)
 | 0, _, _, _ => none
 | k + 1, x3, x4, x5 => if x5 < 4 then (if x5 > 0 then (if x4.size + 1 ≤ 9223372036854775807 then (if 0 ≤ x5 then (if x5 < (x3.length : Int) then ((spec_NumText.f k (wrap64 (rd x3 x5))).bind fun t228 => (if (x4 ++ (⟨#[46]⟩ : ByteArray)).size + t228.size ≤ 9223372036854775807 then (spec_AddrText.l0 k x3 ((x4 ++ (⟨#[46]⟩ : ByteArray)) ++ t228) (wrap64 (x5 + 1))) else (none))) else (none)) else (none)) else (none)) else (if 0 ≤ x5 then (if x5 < (x3.length : Int) then ((spec_NumText.f k (wrap64 (rd x3 x5))).bind fun t230 => (if x4.size + t230.size ≤ 9223372036854775807 then (spec_AddrText.l0 k x3 (x4 ++ t230) (wrap64 (x5 + 1))) else (none))) else (none)) else (none))) else (spec_AddrText.j1 k x3 x4)
end
def spec_AddrText.f (k : Nat) (a0_0 : Int) (a0_1 : Int) (a0_2 : Int) (a0_3 : Int) (a0_4 : Int) : Option (ByteArray) := (spec_AddrBytes.f a0_0 a0_1 a0_2 a0_3 a0_4).bind fun t224 => (if (t224.length : Int) = 4 then (spec_AddrText.l0 k t224 (⟨#[]⟩ : ByteArray) 0) else (spec_AddrText.j1 k t224 (⟨#[]⟩ : ByteArray)))
theorem spec_AddrText.mono_l : ∀ k, (∀ y0 y1, LeO (spec_AddrText.j1 k y0 y1) (spec_AddrText.j1 (k + 1) y0 y1)) ∧ (∀ y0 y1 y2, LeO (spec_AddrText.l1 k y0 y1 y2) (spec_AddrText.l1 (k + 1) y0 y1 y2)) ∧ (∀ y0 y1 y2, LeO (spec_AddrText.l0 k y0 y1 y2) (spec_AddrText.l0 (k + 1) y0 y1 y2))
 | 0 => ⟨fun _ _ r h => by simp [spec_AddrText.j1] at h, fun _ _ _ r h => by simp [spec_AddrText.l1] at h, fun _ _ _ r h => by simp [spec_AddrText.l0] at h⟩
 | k + 1 => by
  obtain ⟨ih0, ih1, ih2⟩ := spec_AddrText.mono_l k
  refine ⟨?_, ?_, ?_⟩
  ·intro y0 y1
   unfold spec_AddrText.j1
   repeat' first
   | (with_reducible exact ih0 _ _)
   | (with_reducible exact ih1 _ _ _)
   | (with_reducible exact ih2 _ _ _)
   | (with_reducible exact spec_NumText.mono _ _)
   | (with_reducible exact spec_l03Hex.mono _ _)
   | (with_reducible exact LeO.refl _)
   | (with_reducible exact LeO.none _)
   | (with_reducible refine LeO.ite ?_ ?_)
   | (with_reducible refine LeO.bind ?_ (fun _ => ?_))
   | exact ih0 _ _
   | exact ih1 _ _ _
   | exact ih2 _ _ _
   | exact spec_NumText.mono _ _
   | exact spec_l03Hex.mono _ _
   | exact LeO.none _
   | refine LeO.ite ?_ ?_
   | refine LeO.bind ?_ (fun _ => ?_)
  ·intro y0 y1 y2
   unfold spec_AddrText.l1
   repeat' first
   | (with_reducible exact ih0 _ _)
   | (with_reducible exact ih1 _ _ _)
   | (with_reducible exact ih2 _ _ _)
   | (with_reducible exact spec_NumText.mono _ _)
   | (with_reducible exact spec_l03Hex.mono _ _)
   | (with_reducible exact LeO.refl _)
   | (with_reducible exact LeO.none _)
   | (with_reducible refine LeO.ite ?_ ?_)
   | (with_reducible refine LeO.bind ?_ (fun _ => ?_))
   | exact ih0 _ _
   | exact ih1 _ _ _
   | exact ih2 _ _ _
   | exact spec_NumText.mono _ _
   | exact spec_l03Hex.mono _ _
   | exact LeO.none _
   | refine LeO.ite ?_ ?_
   | refine LeO.bind ?_ (fun _ => ?_)
  ·intro y0 y1 y2
   unfold spec_AddrText.l0
   repeat' first
   | (with_reducible exact ih0 _ _)
   | (with_reducible exact ih1 _ _ _)
   | (with_reducible exact ih2 _ _ _)
   | (with_reducible exact spec_NumText.mono _ _)
   | (with_reducible exact spec_l03Hex.mono _ _)
   | (with_reducible exact LeO.refl _)
   | (with_reducible exact LeO.none _)
   | (with_reducible refine LeO.ite ?_ ?_)
   | (with_reducible refine LeO.bind ?_ (fun _ => ?_))
   | exact ih0 _ _
   | exact ih1 _ _ _
   | exact ih2 _ _ _
   | exact spec_NumText.mono _ _
   | exact spec_l03Hex.mono _ _
   | exact LeO.none _
   | refine LeO.ite ?_ ?_
   | refine LeO.bind ?_ (fun _ => ?_)
theorem spec_AddrText.mono : ∀ a0 a1 a2 a3 a4 k, LeO (spec_AddrText.f k a0 a1 a2 a3 a4) (spec_AddrText.f (k + 1) a0 a1 a2 a3 a4) := by
 intro a0 a1 a2 a3 a4 k
 obtain ⟨ih0, ih1, ih2⟩ := spec_AddrText.mono_l k
 unfold spec_AddrText.f
 repeat' first
   | (with_reducible exact ih0 _ _)
   | (with_reducible exact ih1 _ _ _)
   | (with_reducible exact ih2 _ _ _)
   | (with_reducible exact spec_NumText.mono _ _)
   | (with_reducible exact spec_l03Hex.mono _ _)
   | (with_reducible exact LeO.refl _)
   | (with_reducible exact LeO.none _)
   | (with_reducible refine LeO.ite ?_ ?_)
   | (with_reducible refine LeO.bind ?_ (fun _ => ?_))
   | exact ih0 _ _
   | exact ih1 _ _ _
   | exact ih2 _ _ _
   | exact spec_NumText.mono _ _
   | exact spec_l03Hex.mono _ _
   | exact LeO.none _
   | refine LeO.ite ?_ ?_
   | refine LeO.bind ?_ (fun _ => ?_)
def spec_AddrText.T16 : Bool × List (List Nat × List Nat) := (true, [([], []), ([], []), ([], []), ([2], [2]), ([1, 3], [1, 3]), ([4], [4]), ([5], [5]), ([6], [6]), ([], []), ([], []), ([9], [9]), ([10], [10]), ([8, 11], [8, 11]), ([12], [12]), ([13], [13]), ([7, 14], [7, 14]), ([15], [15]), ([0, 16], [0, 16]), ([17, 16, 0, 1, 2, 3, 4, 5, 6, 7, 8, 9, 10, 11, 12, 13, 14, 15, 16, 17], [0, 17])])
def spec_AddrText.B16 : List Nat := [0, 0, 0, 4, 14, 30, 62, 126, 0, 0, 512, 1536, 3840, 7936, 16128, 32766, 65534, 131071, 262143]
theorem spec_AddrText.tab16 : rtab .any (opsOf Tryd.f19 16) = spec_AddrText.T16 := by kernel_rfl
theorem spec_AddrText.bits16 : waitsOk spec_AddrText.T16.2 spec_AddrText.B16 = true := by kernel_rfl
set_option maxHeartbeats 8000000 in
set_option maxRecDepth 100000 in
theorem spec_AddrText.calls (k : Nat) (a0_0 : Int) (a0_1 : Int) (a0_2 : Int) (a0_3 : Int) (a0_4 : Int) (r : ByteArray) (w : World) (h : spec_AddrText.f k a0_0 a0_1 a0_2 a0_3 a0_4 = some r) :
  Calls Tryd.prog 19 #[.agg #[.int .i64 a0_0, .int .i64 a0_1, .int .i64 a0_2, .int .i64 a0_3, .int .i64 a0_4]] w fun e w' => e = .returned (.string r) ∧ Below w.heap.size w w' := by
 have hu29 := Tryd.underlying29
 have HB := Gv.a0 (Below.refl w.heap.size w)
 have H : ((spec_AddrBytes.f a0_0 a0_1 a0_2 a0_3 a0_4).bind fun t224 => (if (t224.length : Int) = 4 then (spec_AddrText.l0 k t224 (⟨#[]⟩ : ByteArray) 0) else (spec_AddrText.j1 k t224 (⟨#[]⟩ : ByteArray)))) = some r := h
 clear h
 replace H := Option.bind_eq_some_iff.mp H
 obtain ⟨t224, A20, H⟩ := H
 replace H : (if (t224.length : Int) = 4 then (spec_AddrText.l0 k t224 (⟨#[]⟩ : ByteArray) 0) else (spec_AddrText.j1 k t224 (⟨#[]⟩ : ByteArray))) = some r := H
 have A2 := Gv.a0 A20
 clear A20
 have HC3 := Gv.a0 H
 clear H
 go_enter Tryd.func19, Tryd.ntmps19
 go_upto_if 11 with (first | ((with_reducible refine gate_dst (N := 1) rfl ?_); refine box_event ?hg (N := 1) ?hd (cs := #[.int .i64 a0_0, .int .i64 a0_1, .int .i64 a0_2, .int .i64 a0_3, .int .i64 a0_4]) (t := 29) ?hr ?_; (case hd => rfl); (case hg => rfl); (case hr => first | (go_simp; done) | (go_simp; rfl)); intro gb223 hg w4 hbox hb; have n0_ := Gv.a0 (below_step Gv.bw hb); have n1_ := Gv.a0 (hbox); have n2_ := Gv.a0 ((Gv.ble hg Gv.bw : w.heap.size ≤ gb223)); have n3_ := Gv.a0 ((Gv.ble hg Gv.bw : w.heap.size ≤ gb223)); clear HB; have HB := n0_; have BK223 := n1_; have GW223 := n2_; have GE223 := n3_; clear n0_ n1_ n2_ n3_; clear hb hbox hg; obtain ⟨hcz5_0, hcz5_1, hcz5_2, hcz5_3, hcz5_4⟩ := Gv.c5 BK223.out; obtain ⟨hfz5_0, hfz5_1, hfz5_2, hfz5_3, hfz5_4⟩ := Gv.f5 BK223.out) | ((with_reducible refine gate_callee (f := 33) rfl ?_); refine goesL_ (some 8) rfl rfl Tryd.func33 (by kernel_rfl) rfl #[.agg #[.int .i64 a0_0, .int .i64 a0_1, .int .i64 a0_2, .int .i64 a0_3, .int .i64 a0_4]] rfl Gv.lm ?_; (with_reducible refine (spec_AddrBytes.calls a0_0 a0_1 a0_2 a0_3 a0_4 t224 _ A2.out).mono ?_); rintro e w6 ⟨v225, rfl, ho0, hb⟩; refine ⟨_, rfl, ?_⟩; have n0_ := Gv.a0 (Kd.R_lower ho0 (below_size Gv.bw)); have n1_ := Gv.a0 (Gv.bb BK223.out hb); have n2_ := Gv.a0 (below_step Gv.bw hb); clear BK223; clear HB; have HO226 := n0_; have BK223 := n1_; have HB := n2_; clear n0_ n1_ n2_; (try clear hb); (try clear hb2); (try clear hk); (try clear hi); (try clear ho0); obtain ⟨Ao7, co7, eo7⟩ := Kd.R_slice HO226.out; subst eo7))
 (try simp only [Act.put, List.setIfInBounds_toArray, List.set_cons_zero, List.set_cons_succ])
 go_cut [4] (fun v4 wc => ∃ (kq : Nat) (x4_2 : ByteArray), v4 = .string x4_2 ∧ Aside0 (spec_AddrText.j1 kq t224 x4_2 = some r) ∧ Aside0 (kq ≤ k) ∧ Aside0 (Kd.R (Kd.int .u8) 5 wc w.heap.size (fun _ => True) (.slice Ao7 t224.length co7) t224) ∧ Aside0 (wc.heap[gb223]? = some (.cells #[.int .i64 a0_0, .int .i64 a0_1, .int .i64 a0_2, .int .i64 a0_3, .int .i64 a0_4] 29 (0, 0))) ∧ Aside0 (Below w.heap.size w wc))
 case first =>
  have H := HC3.out
  clear HC3
  by_cases c8 : (t224.length : Int) = 4
  ·rw [if_pos c8] at H
   have c8b0 : ((t224.length : Int) == 4) = true := beq_iff_eq.mpr c8
   have c8b1 : ((t224.length : Int) != 4) = false := bne_eq_false_iff_eq.mpr c8
   clear c8
   (first | rw [c8b0] | (simp only [i64_w, i32_w]; rw [c8b0]) | skip)
   have H' := Gv.a0 H
   clear H
   go_wp2
   go_loopg [4, 5] k (fun kq v4 v5 w' => ∃ (x4_1 : ByteArray) (x5_1 : Int), v4 = .string x4_1 ∧ v5 = .int .i64 x5_1 ∧ Aside0 (spec_AddrText.l0 kq t224 x4_1 x5_1 = some r) ∧ Aside0 (kq ≤ k) ∧ Aside0 (Kd.R (Kd.int .u8) 5 w' w.heap.size (fun _ => True) (.slice Ao7 t224.length co7) t224) ∧ Aside0 (w'.heap[gb223]? = some (.cells #[.int .i64 a0_0, .int .i64 a0_1, .int .i64 a0_2, .int .i64 a0_3, .int .i64 a0_4] 29 (0, 0))) ∧ Aside0 (Below w.heap.size w w'))
   case atStart => exact ⟨((⟨#[]⟩ : ByteArray)), (0), Gv.rq, Gv.rq, H', ⟨Nat.le_refl _⟩, ⟨Gv.kr HO226.out⟩, ⟨by (with_reducible repeat (first | refine blk_drewN ?_ _ | refine blk_drew ?_ | refine blk_alloc ?_ _)); exact BK223.out⟩, ⟨Gv.bw⟩⟩
   case round =>
    clear H'
    try clear c1
    try clear p2
    try clear c3
    try clear c8
    try clear c8b0
    try clear c8b1
    try clear hcz5_0 hcz5_1 hcz5_2 hcz5_3 hcz5_4
    try clear hfz5_0 hfz5_1 hfz5_2 hfz5_3 hfz5_4
    obtain ⟨x4_1, x5_1, rfl, rfl, HA, HK1, HO_3, BK223, HB⟩ := hrel
    cases gk with
    | zero => exact absurd HA.out (by simp [spec_AddrText.l0])
    | succ k1 =>
     have H := HA.out
     clear HA
     simp only [spec_AddrText.l0] at H
     by_cases c9 : x5_1 < 4
     ·rw [if_pos c9] at H
      have c9b0 : decide (x5_1 < 4) = true := decide_eq_true c9
      clear c9
      by_cases c10 : x5_1 > 0
      ·rw [if_pos c10] at H
       have c10b0 : decide (0 < x5_1) = true := decide_eq_true c10
       clear c10
       by_cases c11 : x4_1.size + 1 ≤ 9223372036854775807
       ·rw [if_pos c11] at H
        have c11b0 := eq_true c11
        have c11b1 : decide (x4_1.size + 1 ≤ 9223372036854775807) = true := decide_eq_true c11
        try have c11b2 : (9223372036854775807 < x4_1.size + 1) = False := eq_false (Nat.not_lt.2 c11)
        by_cases c12 : 0 ≤ x5_1
        ·rw [if_pos c12] at H
         have c12b0 : decide (0 ≤ x5_1) = true := decide_eq_true c12
         clear c12
         by_cases c13 : x5_1 < (t224.length : Int)
         ·rw [if_pos c13] at H
          have c13b0 : decide (x5_1 < (t224.length : Int)) = true := decide_eq_true c13
          clear c13
          replace H := Option.bind_eq_some_iff.mp H
          obtain ⟨t228, A140, H⟩ := H
          replace H : (if (x4_1 ++ (⟨#[46]⟩ : ByteArray)).size + t228.size ≤ 9223372036854775807 then (spec_AddrText.l0 k1 t224 ((x4_1 ++ (⟨#[46]⟩ : ByteArray)) ++ t228) (wrap64 (x5_1 + 1))) else (none)) = some r := H
          have A14 := Gv.a0 A140
          clear A140
          by_cases c15 : (x4_1 ++ (⟨#[46]⟩ : ByteArray)).size + t228.size ≤ 9223372036854775807
          ·rw [if_pos c15] at H
           have c15b0 := eq_true c15
           have c15b1 : decide ((x4_1 ++ (⟨#[46]⟩ : ByteArray)).size + t228.size ≤ 9223372036854775807) = true := decide_eq_true c15
           have c15s : x4_1.size + 1 + t228.size ≤ 9223372036854775807 := (by have h_ := c15; simp only [ByteArray.size_append] at h_; exact h_)
           have c15b3 := eq_true c15s
           have c15b4 : decide (x4_1.size + 1 + t228.size ≤ 9223372036854775807) = true := decide_eq_true c15s
           have c15b5 : (9223372036854775807 < x4_1.size + 1 + t228.size) = False := eq_false (Nat.not_lt.2 c15s)
           clear c15s
           try have c15b2 : (9223372036854775807 < (x4_1 ++ (⟨#[46]⟩ : ByteArray)).size + t228.size) = False := eq_false (Nat.not_lt.2 c15)
           have H' := Gv.a0 H
           clear H
           have p227 : 0 ≤ (x5_1 : Int) := of_decide_eq_true (by first | (with_reducible assumption) | assumption)
           have q227 : x5_1 < (t224.length : Int) := of_decide_eq_true (by first | (with_reducible assumption) | assumption)
           obtain ⟨ad227, e227, hx227_0⟩ := Kd.at_int (Kd.R_reads' HO_3.out).2.2 x5_1 p227 q227
           cases e227
           replace p227 := eq_true p227
           replace q227 := eq_true q227
           go_wp2_with (first | ((with_reducible refine gate_callee (f := 8) rfl ?_); refine goesL_ (some 26) rfl rfl Tryd.func8 (by kernel_rfl) rfl #[.int .i64 (wrap64 (rd t224 x5_1))] rfl Gv.lm ?_; (with_reducible refine (spec_NumText.calls k1 (wrap64 (rd t224 x5_1)) t228 _ A14.out).mono ?_); rintro e w16 ⟨rfl, hb⟩; refine ⟨_, rfl, ?_⟩; have n0_ := Gv.a0 (Kd.R_below (Gv.kr HO_3.out) hb); have n1_ := Gv.a0 (Gv.bb BK223.out hb); have n2_ := Gv.a0 (below_step Gv.bw hb); clear HO_3; clear BK223; clear HB; have HO_3 := n0_; have BK223 := n1_; have HB := n2_; clear n0_ n1_ n2_; (try clear hb); (try clear hb2); (try clear hk); (try clear hi)))
           go_roundg k1
           case measure => have := HK1.out; omega
           case rel => exact ⟨((x4_1 ++ (⟨#[46]⟩ : ByteArray)) ++ t228), (wrap64 (x5_1 + 1)), Gv.rq, Gv.rq, H', ⟨by have := HK1.out; omega⟩, ⟨Gv.kr HO_3.out⟩, ⟨by (with_reducible repeat (first | refine blk_drewN ?_ _ | refine blk_drew ?_ | refine blk_alloc ?_ _)); exact BK223.out⟩, ⟨Gv.bw⟩⟩
          ·rw [if_neg c15] at H
           exact absurd H (by simp)
         ·rw [if_neg c13] at H
          exact absurd H (by simp)
        ·rw [if_neg c12] at H
         exact absurd H (by simp)
       ·rw [if_neg c11] at H
        exact absurd H (by simp)
      ·rw [if_neg c10] at H
       have c10b0 : decide (0 < x5_1) = false := decide_eq_false c10
       clear c10
       by_cases c17 : 0 ≤ x5_1
       ·rw [if_pos c17] at H
        have c17b0 : decide (0 ≤ x5_1) = true := decide_eq_true c17
        clear c17
        by_cases c18 : x5_1 < (t224.length : Int)
        ·rw [if_pos c18] at H
         have c18b0 : decide (x5_1 < (t224.length : Int)) = true := decide_eq_true c18
         clear c18
         replace H := Option.bind_eq_some_iff.mp H
         obtain ⟨t230, A190, H⟩ := H
         replace H : (if x4_1.size + t230.size ≤ 9223372036854775807 then (spec_AddrText.l0 k1 t224 (x4_1 ++ t230) (wrap64 (x5_1 + 1))) else (none)) = some r := H
         have A19 := Gv.a0 A190
         clear A190
         by_cases c20 : x4_1.size + t230.size ≤ 9223372036854775807
         ·rw [if_pos c20] at H
          have c20b0 := eq_true c20
          have c20b1 : decide (x4_1.size + t230.size ≤ 9223372036854775807) = true := decide_eq_true c20
          try have c20b2 : (9223372036854775807 < x4_1.size + t230.size) = False := eq_false (Nat.not_lt.2 c20)
          have H' := Gv.a0 H
          clear H
          have p229 : 0 ≤ (x5_1 : Int) := of_decide_eq_true (by first | (with_reducible assumption) | assumption)
          have q229 : x5_1 < (t224.length : Int) := of_decide_eq_true (by first | (with_reducible assumption) | assumption)
          obtain ⟨ad229, e229, hx229_0⟩ := Kd.at_int (Kd.R_reads' HO_3.out).2.2 x5_1 p229 q229
          cases e229
          replace p229 := eq_true p229
          replace q229 := eq_true q229
          go_wp2_with (first | ((with_reducible refine gate_callee (f := 8) rfl ?_); refine goesL_ (some 26) rfl rfl Tryd.func8 (by kernel_rfl) rfl #[.int .i64 (wrap64 (rd t224 x5_1))] rfl Gv.lm ?_; (with_reducible refine (spec_NumText.calls k1 (wrap64 (rd t224 x5_1)) t230 _ A19.out).mono ?_); rintro e w21 ⟨rfl, hb⟩; refine ⟨_, rfl, ?_⟩; have n0_ := Gv.a0 (Kd.R_below (Gv.kr HO_3.out) hb); have n1_ := Gv.a0 (Gv.bb BK223.out hb); have n2_ := Gv.a0 (below_step Gv.bw hb); clear HO_3; clear BK223; clear HB; have HO_3 := n0_; have BK223 := n1_; have HB := n2_; clear n0_ n1_ n2_; (try clear hb); (try clear hb2); (try clear hk); (try clear hi)))
          go_roundg k1
          case measure => have := HK1.out; omega
          case rel => exact ⟨(x4_1 ++ t230), (wrap64 (x5_1 + 1)), Gv.rq, Gv.rq, H', ⟨by have := HK1.out; omega⟩, ⟨Gv.kr HO_3.out⟩, ⟨by (with_reducible repeat (first | refine blk_drewN ?_ _ | refine blk_drew ?_ | refine blk_alloc ?_ _)); exact BK223.out⟩, ⟨Gv.bw⟩⟩
         ·rw [if_neg c20] at H
          exact absurd H (by simp)
        ·rw [if_neg c18] at H
         exact absurd H (by simp)
       ·rw [if_neg c17] at H
        exact absurd H (by simp)
     ·rw [if_neg c9] at H
      have c9b0 : decide (x5_1 < 4) = false := decide_eq_false c9
      clear c9
      have H' := Gv.a0 H
      clear H
      go_wp2
      go_meet
      case rel => exact ⟨_, (x4_1), Gv.rq, H', ⟨by have := HK1.out; first | omega | exact Nat.le_refl _⟩, ⟨Gv.kr HO_3.out⟩, ⟨by (with_reducible repeat (first | refine blk_drewN ?_ _ | refine blk_drew ?_ | refine blk_alloc ?_ _)); exact BK223.out⟩, ⟨Gv.bw⟩⟩
  ·rw [if_neg c8] at H
   have c8b0 : ((t224.length : Int) == 4) = false := beq_eq_false_iff_ne.mpr c8
   have c8b1 : ((t224.length : Int) != 4) = true := bne_iff_ne.mpr c8
   (first | rw [c8b0] | (simp only [i64_w, i32_w]; rw [c8b0]) | skip)
   have H' := Gv.a0 H
   clear H
   go_wp2
   go_meet
   case rel => exact ⟨_, ((⟨#[]⟩ : ByteArray)), Gv.rq, H', ⟨by first | omega | exact Nat.le_refl _⟩, ⟨Gv.kr HO226.out⟩, ⟨by (with_reducible repeat (first | refine blk_drewN ?_ _ | refine blk_drew ?_ | refine blk_alloc ?_ _)); exact BK223.out⟩, ⟨Gv.bw⟩⟩
 case rest =>
  clear HC3
  try clear c1
  try clear c2
  try clear p2
  try clear q2
  try clear hx2
  try clear c3
  try clear p6
  try clear c8
  try clear c8b0
  try clear c8b1
  try clear c9
  try clear c9b0
  try clear c10
  try clear c10b0
  try clear c11
  try clear c11b0
  try clear c11b1
  try clear c11b2
  try clear c12
  try clear c12b0
  try clear c13
  try clear c13b0
  try clear c15
  try clear c15b0
  try clear c15b1
  try clear c15b2
  try clear c17
  try clear c17b0
  try clear c18
  try clear c18b0
  try clear c19
  try clear c20
  try clear c20b0
  try clear c20b1
  try clear c20b2
  try clear hcz5_0 hcz5_1 hcz5_2 hcz5_3 hcz5_4
  try clear hfz5_0 hfz5_1 hfz5_2 hfz5_3 hfz5_4
  try clear hx227_0
  try clear hx229_0
  try clear p2
  try clear p227
  try clear p229
  try clear q227
  try clear q229
  obtain ⟨kq, x4_2, rfl, HA, HJ2, HO_3, BK223, HB⟩ := hcut
  cases kq with
  | zero => exact absurd HA.out (by simp [spec_AddrText.j1])
  | succ kj2 =>
   have H := HA.out
   clear HA
   simp only [spec_AddrText.j1] at H
   by_cases c22 : (t224.length : Int) = 16
   ·rw [if_pos c22] at H
    have c22b0 : ((t224.length : Int) == 16) = true := beq_iff_eq.mpr c22
    have c22b1 : ((t224.length : Int) != 16) = false := bne_eq_false_iff_eq.mpr c22
    clear c22
    have H' := Gv.a0 H
    clear H
    go_wp2
    go_loopg [4, 6] kj2 (fun kq v4 v6 w' => ∃ (x4_2 : ByteArray) (x6_2 : Int), v4 = .string x4_2 ∧ v6 = .int .i64 x6_2 ∧ Aside0 (spec_AddrText.l1 kq t224 x4_2 x6_2 = some r) ∧ Aside0 (kq ≤ kj2) ∧ Aside0 (Kd.R (Kd.int .u8) 5 w' w.heap.size (fun _ => True) (.slice Ao7 t224.length co7) t224) ∧ Aside0 (w'.heap[gb223]? = some (.cells #[.int .i64 a0_0, .int .i64 a0_1, .int .i64 a0_2, .int .i64 a0_3, .int .i64 a0_4] 29 (0, 0))) ∧ Aside0 (Below w.heap.size w w'))
    case atStart => exact ⟨(x4_2), (0), Gv.rq, Gv.rq, H', ⟨Nat.le_refl _⟩, ⟨Gv.kr HO_3.out⟩, ⟨by (with_reducible repeat (first | refine blk_drewN ?_ _ | refine blk_drew ?_ | refine blk_alloc ?_ _)); exact BK223.out⟩, ⟨Gv.bw⟩⟩
    case round =>
     clear H'
     try clear c1
     try clear c2
     try clear p2
     try clear q2
     try clear hx2
     try clear c3
     try clear p6
     try clear c8
     try clear c8b0
     try clear c8b1
     try clear c9
     try clear c9b0
     try clear c10
     try clear c10b0
     try clear c11
     try clear c11b0
     try clear c11b1
     try clear c11b2
     try clear c12
     try clear c12b0
     try clear c13
     try clear c13b0
     try clear c15
     try clear c15b0
     try clear c15b1
     try clear c15b2
     try clear c17
     try clear c17b0
     try clear c18
     try clear c18b0
     try clear c19
     try clear c20
     try clear c20b0
     try clear c20b1
     try clear c20b2
     try clear c22
     try clear c22b0
     try clear c22b1
     try clear p22
     try clear q22
     try clear hx22
     try clear hcz5_0 hcz5_1 hcz5_2 hcz5_3 hcz5_4
     try clear hfz5_0 hfz5_1 hfz5_2 hfz5_3 hfz5_4
     try clear hx227_0
     try clear hx229_0
     try clear p2
     try clear p227
     try clear p229
     try clear p6
     try clear q2
     try clear q227
     try clear q229
     obtain ⟨x4_2, x6_2, rfl, rfl, HA, HK2, HO_3, BK223, HB⟩ := hrel
     cases gk with
     | zero => exact absurd HA.out (by simp [spec_AddrText.l1])
     | succ k2 =>
      have H := HA.out
      clear HA
      simp only [spec_AddrText.l1] at H
      by_cases c23 : x6_2 < 8
      ·rw [if_pos c23] at H
       have c23b0 : decide (x6_2 < 8) = true := decide_eq_true c23
       clear c23
       by_cases c24 : x6_2 > 0
       ·rw [if_pos c24] at H
        have c24b0 : decide (0 < x6_2) = true := decide_eq_true c24
        clear c24
        by_cases c25 : x4_2.size + 1 ≤ 9223372036854775807
        ·rw [if_pos c25] at H
         have c25b0 := eq_true c25
         have c25b1 : decide (x4_2.size + 1 ≤ 9223372036854775807) = true := decide_eq_true c25
         try have c25b2 : (9223372036854775807 < x4_2.size + 1) = False := eq_false (Nat.not_lt.2 c25)
         obtain ⟨ji26, hji26⟩ : ∃ j_ : Int, (wrap64 (2 * x6_2)) = j_ := ⟨_, rfl⟩
         replace H : (if 0 ≤ (ji26) then (if (ji26) < (t224.length : Int) then (if 0 ≤ (wrap64 ((ji26) + 1)) then (if (wrap64 ((ji26) + 1)) < (t224.length : Int) then ((spec_l03Hex.f k2 (wrap64 ((wrap64 (256 * (wrap64 (rd t224 (ji26))))) + (wrap64 (rd t224 (wrap64 ((ji26) + 1))))))).bind fun t233 => (if (x4_2 ++ (⟨#[58]⟩ : ByteArray)).size + t233.size ≤ 9223372036854775807 then (spec_AddrText.l1 k2 t224 ((x4_2 ++ (⟨#[58]⟩ : ByteArray)) ++ t233) (wrap64 (x6_2 + 1))) else (none))) else (none)) else (none)) else (none)) else (none)) = some r := by first | (rw [hji26] at H; exact H) | (simp only [hji26] at H ⊢; exact H)
         have hji26w : (IntKind.i64.wrap (2 * x6_2)) = ji26 := (i64_w _).trans hji26
         by_cases c27 : 0 ≤ (ji26)
         ·rw [if_pos c27] at H
          have c27b0 : decide (0 ≤ (ji26)) = true := decide_eq_true c27
          clear c27
          by_cases c28 : (ji26) < (t224.length : Int)
          ·rw [if_pos c28] at H
           have c28b0 : decide ((ji26) < (t224.length : Int)) = true := decide_eq_true c28
           clear c28
           obtain ⟨ji29, hji29⟩ : ∃ j_ : Int, (wrap64 ((ji26) + 1)) = j_ := ⟨_, rfl⟩
           replace H : (if 0 ≤ (ji29) then (if (ji29) < (t224.length : Int) then ((spec_l03Hex.f k2 (wrap64 ((wrap64 (256 * (wrap64 (rd t224 (ji26))))) + (wrap64 (rd t224 (ji29)))))).bind fun t233 => (if (x4_2 ++ (⟨#[58]⟩ : ByteArray)).size + t233.size ≤ 9223372036854775807 then (spec_AddrText.l1 k2 t224 ((x4_2 ++ (⟨#[58]⟩ : ByteArray)) ++ t233) (wrap64 (x6_2 + 1))) else (none))) else (none)) else (none)) = some r := by first | (rw [hji29] at H; exact H) | (simp only [hji29] at H ⊢; exact H)
           have hji29w : (IntKind.i64.wrap ((ji26) + 1)) = ji29 := (i64_w _).trans hji29
           by_cases c30 : 0 ≤ (ji29)
           ·rw [if_pos c30] at H
            have c30b0 : decide (0 ≤ (ji29)) = true := decide_eq_true c30
            clear c30
            by_cases c31 : (ji29) < (t224.length : Int)
            ·rw [if_pos c31] at H
             have c31b0 : decide ((ji29) < (t224.length : Int)) = true := decide_eq_true c31
             clear c31
             replace H := Option.bind_eq_some_iff.mp H
             obtain ⟨t233, A320, H⟩ := H
             replace H : (if (x4_2 ++ (⟨#[58]⟩ : ByteArray)).size + t233.size ≤ 9223372036854775807 then (spec_AddrText.l1 k2 t224 ((x4_2 ++ (⟨#[58]⟩ : ByteArray)) ++ t233) (wrap64 (x6_2 + 1))) else (none)) = some r := H
             have A32 := Gv.a0 A320
             clear A320
             by_cases c33 : (x4_2 ++ (⟨#[58]⟩ : ByteArray)).size + t233.size ≤ 9223372036854775807
             ·rw [if_pos c33] at H
              have c33b0 := eq_true c33
              have c33b1 : decide ((x4_2 ++ (⟨#[58]⟩ : ByteArray)).size + t233.size ≤ 9223372036854775807) = true := decide_eq_true c33
              have c33s : x4_2.size + 1 + t233.size ≤ 9223372036854775807 := (by have h_ := c33; simp only [ByteArray.size_append] at h_; exact h_)
              have c33b3 := eq_true c33s
              have c33b4 : decide (x4_2.size + 1 + t233.size ≤ 9223372036854775807) = true := decide_eq_true c33s
              have c33b5 : (9223372036854775807 < x4_2.size + 1 + t233.size) = False := eq_false (Nat.not_lt.2 c33s)
              clear c33s
              try have c33b2 : (9223372036854775807 < (x4_2 ++ (⟨#[58]⟩ : ByteArray)).size + t233.size) = False := eq_false (Nat.not_lt.2 c33)
              have H' := Gv.a0 H
              clear H
              try go_wp2
              have n0_ := Gv.a0 (Kd.R_drew HO_3.out)
              have n1_ := Gv.a0 (blk_drew BK223.out)
              have n2_ := Gv.a0 (below_drew1 HB.out)
              clear HO_3
              clear BK223
              clear HB
              have HO_3 := n0_
              have BK223 := n1_
              have HB := n2_
              clear n0_ n1_ n2_
              have p231 : 0 ≤ ((ji26) : Int) := of_decide_eq_true (by first | (with_reducible assumption) | assumption)
              have q231 : (ji26) < (t224.length : Int) := of_decide_eq_true (by first | (with_reducible assumption) | assumption)
              obtain ⟨ad231, e231, hx231_0⟩ := Kd.at_int (Kd.R_reads' HO_3.out).2.2 (ji26) p231 q231
              cases e231
              replace p231 := eq_true p231
              replace q231 := eq_true q231
              have p232 : 0 ≤ ((ji29) : Int) := of_decide_eq_true (by first | (with_reducible assumption) | assumption)
              have q232 : (ji29) < (t224.length : Int) := of_decide_eq_true (by first | (with_reducible assumption) | assumption)
              obtain ⟨ad232, e232, hx232_0⟩ := Kd.at_int (Kd.R_reads' HO_3.out).2.2 (ji29) p232 q232
              obtain rfl : ad231 = ad232 := (by injection e232)
              replace p232 := eq_true p232
              replace q232 := eq_true q232
              refine start_ (n := 19) (S := fun w' => w'.cell? (ad231.add ((ji26)).toNat) = some (.int .u8 (rd t224 (ji26))) ∧ w'.cell? (ad231.add ((ji29)).toNat) = some (.int .u8 (rd t224 (ji29)))) (ds := []) #[false, false, false, false, false, false, false, false, false, false, false, false, false, false, false, false, false, false, false] (by kernel_rfl) rfl rfl ⟨hx231_0, hx232_0⟩ (fun hHeld => ?_); refine with_tabW spec_AddrText.tab16 spec_AddrText.bits16 (fun HT_ HW_ => ?_)
              generalize wr.drew = w34 at HO_3 BK223 HB hx231_0 hx232_0 hHeld ⊢
              refine Gv.pu 0 (some 39) HT_ ?_
              refine Gv.pu 1 (some 40) HT_ ?_
              refine Gv.pu 2 (some 41) HT_ ?_
              refine Gv.pu 3 (some 42) HT_ ?_
              refine Gv.pu 4 (some 43) HT_ ?_
              refine Gv.pu 8 (some 47) HT_ ?_
              refine Gv.pu 9 (some 48) HT_ ?_
              refine Gv.pu 10 (some 49) HT_ ?_
              refine Gv.pu 11 (some 50) HT_ ?_
              refine Gv.pu 12 (some 51) HT_ ?_
              refine take_ (i := 5) (N := some 44) (v := ?_) (a' := ?_) #[true, true, true, true, true, true, false, false, true, true, true, true, true, false, false, false, false, false, false] rfl rfl (take_ofW HT_.out HW_.out (by kernel_rfl)) (fun _ _ _ h => h) (Or.inl ⟨by rfl, ?_⟩) hHeld ?_ ?_
              rotate_left
              ·rintro w' ⟨s0, s1⟩
               go_simp
               with_reducible rfl
              rotate_left
              ·simp only [Act.put, List.setIfInBounds_toArray, List.set_cons_zero, List.set_cons_succ, i64_w, i32_w]
               rfl
              refine Gv.pu 6 (some 45) HT_ ?_
              refine Gv.pu 7 (some 46) HT_ ?_
              refine take_ (i := 13) (N := some 52) (v := ?_) (a' := ?_) #[true, true, true, true, true, true, true, true, true, true, true, true, true, true, false, false, false, false, false] rfl rfl (take_ofW HT_.out HW_.out (by kernel_rfl)) (fun _ _ _ h => h) (Or.inl ⟨by rfl, ?_⟩) hHeld ?_ ?_
              rotate_left
              ·rintro w' ⟨s0, s1⟩
               go_simp
               with_reducible rfl
              rotate_left
              ·simp only [Act.put, List.setIfInBounds_toArray, List.set_cons_zero, List.set_cons_succ, i64_w, i32_w]
               rfl
              refine Gv.pu 14 (some 53) HT_ ?_
              refine Gv.pu 15 (some 54) HT_ ?_
              refine one_ (i := 16) (N := some 55) #[true, true, true, true, true, true, true, true, true, true, true, true, true, true, true, true, true, false, false] rfl rfl (one_of HT_.out (by kernel_rfl)) (by decide) (fun K hK => ?_)
              refine goes_ Tryd.func34 (by kernel_rfl) rfl #[.int .i64 (wrap64 ((wrap64 (256 * (wrap64 (rd t224 (ji26))))) + (wrap64 (rd t224 (ji29)))))] (by rfl) rfl rfl (by (try simp only [List.map_toArray, List.map_cons, List.map_nil]); first | done | (simp only [hji26, hji29]; rfl) | rfl | (simp only [List.length_drop, List.length_take]; rfl)) ?_
              with_reducible refine (spec_l03Hex.calls k2 (wrap64 ((wrap64 (256 * (wrap64 (rd t224 (ji26))))) + (wrap64 (rd t224 (ji29))))) t233 _ A32.out).mono ?_
              rintro e w35 ⟨rfl, hb⟩
              have HS0_ := (hb.cell (World.block_lt_of_cell? _ _ (hHeld.1))).trans (hHeld.1)
              have HS1_ := (hb.cell (World.block_lt_of_cell? _ _ (hHeld.2))).trans (hHeld.2)
              refine ⟨_, rfl, ?_⟩
              have n0_ := Gv.a0 (Kd.R_below (Gv.kr HO_3.out) hb)
              have n1_ := Gv.a0 (Gv.bb BK223.out hb)
              have n2_ := Gv.a0 (below_step Gv.bw hb)
              clear HO_3
              clear BK223
              clear HB
              have HO_3 := n0_
              have BK223 := n1_
              have HB := n2_
              clear n0_ n1_ n2_
              (try clear hb)
              (try clear hb2)
              (try clear hk)
              (try clear hi)
              refine hK.out _ _ ⟨HS0_, HS1_⟩ (fun hHeld => ?_)
              clear hK K
              refine norm_ (a' := ?_) ?_ ?_
              rotate_left
              ·show Act.put _ (some 55) _ = _
               simp only [Act.put, List.setIfInBounds_toArray, List.set_cons_zero, List.set_cons_succ, i64_w, i32_w]
               rfl
              refine Gv.pu 17 (some 56) HT_ ?_
              refine Gv.pu 18 (some 4) HT_ ?_
              refine done_ (done_of HT_.out (by kernel_rfl)) ?_
              try go_wp2
              go_roundg k2
              case measure => have := HJ2.out; have := HK2.out; omega
              case rel => exact ⟨((x4_2 ++ (⟨#[58]⟩ : ByteArray)) ++ t233), (wrap64 (x6_2 + 1)), Gv.rq, Gv.rq, H', ⟨by have := HJ2.out; have := HK2.out; omega⟩, ⟨Gv.kr HO_3.out⟩, ⟨by (with_reducible repeat (first | refine blk_drewN ?_ _ | refine blk_drew ?_ | refine blk_alloc ?_ _)); exact BK223.out⟩, ⟨Gv.bw⟩⟩
             ·rw [if_neg c33] at H
              exact absurd H (by simp)
            ·rw [if_neg c31] at H
             exact absurd H (by simp)
           ·rw [if_neg c30] at H
            exact absurd H (by simp)
          ·rw [if_neg c28] at H
           exact absurd H (by simp)
         ·rw [if_neg c27] at H
          exact absurd H (by simp)
        ·rw [if_neg c25] at H
         exact absurd H (by simp)
       ·rw [if_neg c24] at H
        have c24b0 : decide (0 < x6_2) = false := decide_eq_false c24
        clear c24
        obtain ⟨ji36, hji36⟩ : ∃ j_ : Int, (wrap64 (2 * x6_2)) = j_ := ⟨_, rfl⟩
        replace H : (if 0 ≤ (ji36) then (if (ji36) < (t224.length : Int) then (if 0 ≤ (wrap64 ((ji36) + 1)) then (if (wrap64 ((ji36) + 1)) < (t224.length : Int) then ((spec_l03Hex.f k2 (wrap64 ((wrap64 (256 * (wrap64 (rd t224 (ji36))))) + (wrap64 (rd t224 (wrap64 ((ji36) + 1))))))).bind fun t236 => (if x4_2.size + t236.size ≤ 9223372036854775807 then (spec_AddrText.l1 k2 t224 (x4_2 ++ t236) (wrap64 (x6_2 + 1))) else (none))) else (none)) else (none)) else (none)) else (none)) = some r := by first | (rw [hji36] at H; exact H) | (simp only [hji36] at H ⊢; exact H)
        have hji36w : (IntKind.i64.wrap (2 * x6_2)) = ji36 := (i64_w _).trans hji36
        by_cases c37 : 0 ≤ (ji36)
        ·rw [if_pos c37] at H
         have c37b0 : decide (0 ≤ (ji36)) = true := decide_eq_true c37
         clear c37
         by_cases c38 : (ji36) < (t224.length : Int)
         ·rw [if_pos c38] at H
          have c38b0 : decide ((ji36) < (t224.length : Int)) = true := decide_eq_true c38
          clear c38
          obtain ⟨ji39, hji39⟩ : ∃ j_ : Int, (wrap64 ((ji36) + 1)) = j_ := ⟨_, rfl⟩
          replace H : (if 0 ≤ (ji39) then (if (ji39) < (t224.length : Int) then ((spec_l03Hex.f k2 (wrap64 ((wrap64 (256 * (wrap64 (rd t224 (ji36))))) + (wrap64 (rd t224 (ji39)))))).bind fun t236 => (if x4_2.size + t236.size ≤ 9223372036854775807 then (spec_AddrText.l1 k2 t224 (x4_2 ++ t236) (wrap64 (x6_2 + 1))) else (none))) else (none)) else (none)) = some r := by first | (rw [hji39] at H; exact H) | (simp only [hji39] at H ⊢; exact H)
          have hji39w : (IntKind.i64.wrap ((ji36) + 1)) = ji39 := (i64_w _).trans hji39
          by_cases c40 : 0 ≤ (ji39)
          ·rw [if_pos c40] at H
           have c40b0 : decide (0 ≤ (ji39)) = true := decide_eq_true c40
           clear c40
           by_cases c41 : (ji39) < (t224.length : Int)
           ·rw [if_pos c41] at H
            have c41b0 : decide ((ji39) < (t224.length : Int)) = true := decide_eq_true c41
            clear c41
            replace H := Option.bind_eq_some_iff.mp H
            obtain ⟨t236, A420, H⟩ := H
            replace H : (if x4_2.size + t236.size ≤ 9223372036854775807 then (spec_AddrText.l1 k2 t224 (x4_2 ++ t236) (wrap64 (x6_2 + 1))) else (none)) = some r := H
            have A42 := Gv.a0 A420
            clear A420
            by_cases c43 : x4_2.size + t236.size ≤ 9223372036854775807
            ·rw [if_pos c43] at H
             have c43b0 := eq_true c43
             have c43b1 : decide (x4_2.size + t236.size ≤ 9223372036854775807) = true := decide_eq_true c43
             try have c43b2 : (9223372036854775807 < x4_2.size + t236.size) = False := eq_false (Nat.not_lt.2 c43)
             have H' := Gv.a0 H
             clear H
             try go_wp2
             have n0_ := Gv.a0 (Kd.R_drew HO_3.out)
             have n1_ := Gv.a0 (blk_drew BK223.out)
             have n2_ := Gv.a0 (below_drew1 HB.out)
             clear HO_3
             clear BK223
             clear HB
             have HO_3 := n0_
             have BK223 := n1_
             have HB := n2_
             clear n0_ n1_ n2_
             have p234 : 0 ≤ ((ji36) : Int) := of_decide_eq_true (by first | (with_reducible assumption) | assumption)
             have q234 : (ji36) < (t224.length : Int) := of_decide_eq_true (by first | (with_reducible assumption) | assumption)
             obtain ⟨ad234, e234, hx234_0⟩ := Kd.at_int (Kd.R_reads' HO_3.out).2.2 (ji36) p234 q234
             cases e234
             replace p234 := eq_true p234
             replace q234 := eq_true q234
             have p235 : 0 ≤ ((ji39) : Int) := of_decide_eq_true (by first | (with_reducible assumption) | assumption)
             have q235 : (ji39) < (t224.length : Int) := of_decide_eq_true (by first | (with_reducible assumption) | assumption)
             obtain ⟨ad235, e235, hx235_0⟩ := Kd.at_int (Kd.R_reads' HO_3.out).2.2 (ji39) p235 q235
             obtain rfl : ad234 = ad235 := (by injection e235)
             replace p235 := eq_true p235
             replace q235 := eq_true q235
             refine start_ (n := 19) (S := fun w' => w'.cell? (ad234.add ((ji36)).toNat) = some (.int .u8 (rd t224 (ji36))) ∧ w'.cell? (ad234.add ((ji39)).toNat) = some (.int .u8 (rd t224 (ji39)))) (ds := []) #[false, false, false, false, false, false, false, false, false, false, false, false, false, false, false, false, false, false, false] (by kernel_rfl) rfl rfl ⟨hx234_0, hx235_0⟩ (fun hHeld => ?_); refine with_tabW spec_AddrText.tab16 spec_AddrText.bits16 (fun HT_ HW_ => ?_)
             generalize wr.drew = w44 at HO_3 BK223 HB hx234_0 hx235_0 hHeld ⊢
             refine Gv.pu 0 (some 39) HT_ ?_
             refine Gv.pu 1 (some 40) HT_ ?_
             refine Gv.pu 2 (some 41) HT_ ?_
             refine Gv.pu 3 (some 42) HT_ ?_
             refine Gv.pu 4 (some 43) HT_ ?_
             refine Gv.pu 8 (some 47) HT_ ?_
             refine Gv.pu 9 (some 48) HT_ ?_
             refine Gv.pu 10 (some 49) HT_ ?_
             refine Gv.pu 11 (some 50) HT_ ?_
             refine Gv.pu 12 (some 51) HT_ ?_
             refine take_ (i := 5) (N := some 44) (v := ?_) (a' := ?_) #[true, true, true, true, true, true, false, false, true, true, true, true, true, false, false, false, false, false, false] rfl rfl (take_ofW HT_.out HW_.out (by kernel_rfl)) (fun _ _ _ h => h) (Or.inl ⟨by rfl, ?_⟩) hHeld ?_ ?_
             rotate_left
             ·rintro w' ⟨s0, s1⟩
              go_simp
              with_reducible rfl
             rotate_left
             ·simp only [Act.put, List.setIfInBounds_toArray, List.set_cons_zero, List.set_cons_succ, i64_w, i32_w]
              rfl
             refine Gv.pu 6 (some 45) HT_ ?_
             refine Gv.pu 7 (some 46) HT_ ?_
             refine take_ (i := 13) (N := some 52) (v := ?_) (a' := ?_) #[true, true, true, true, true, true, true, true, true, true, true, true, true, true, false, false, false, false, false] rfl rfl (take_ofW HT_.out HW_.out (by kernel_rfl)) (fun _ _ _ h => h) (Or.inl ⟨by rfl, ?_⟩) hHeld ?_ ?_
             rotate_left
             ·rintro w' ⟨s0, s1⟩
              go_simp
              with_reducible rfl
             rotate_left
             ·simp only [Act.put, List.setIfInBounds_toArray, List.set_cons_zero, List.set_cons_succ, i64_w, i32_w]
              rfl
             refine Gv.pu 14 (some 53) HT_ ?_
             refine Gv.pu 15 (some 54) HT_ ?_
             refine one_ (i := 16) (N := some 55) #[true, true, true, true, true, true, true, true, true, true, true, true, true, true, true, true, true, false, false] rfl rfl (one_of HT_.out (by kernel_rfl)) (by decide) (fun K hK => ?_)
             refine goes_ Tryd.func34 (by kernel_rfl) rfl #[.int .i64 (wrap64 ((wrap64 (256 * (wrap64 (rd t224 (ji36))))) + (wrap64 (rd t224 (ji39)))))] (by rfl) rfl rfl (by (try simp only [List.map_toArray, List.map_cons, List.map_nil]); first | done | (simp only [hji36, hji39]; rfl) | rfl | (simp only [List.length_drop, List.length_take]; rfl)) ?_
             with_reducible refine (spec_l03Hex.calls k2 (wrap64 ((wrap64 (256 * (wrap64 (rd t224 (ji36))))) + (wrap64 (rd t224 (ji39))))) t236 _ A42.out).mono ?_
             rintro e w45 ⟨rfl, hb⟩
             have HS0_ := (hb.cell (World.block_lt_of_cell? _ _ (hHeld.1))).trans (hHeld.1)
             have HS1_ := (hb.cell (World.block_lt_of_cell? _ _ (hHeld.2))).trans (hHeld.2)
             refine ⟨_, rfl, ?_⟩
             have n0_ := Gv.a0 (Kd.R_below (Gv.kr HO_3.out) hb)
             have n1_ := Gv.a0 (Gv.bb BK223.out hb)
             have n2_ := Gv.a0 (below_step Gv.bw hb)
             clear HO_3
             clear BK223
             clear HB
             have HO_3 := n0_
             have BK223 := n1_
             have HB := n2_
             clear n0_ n1_ n2_
             (try clear hb)
             (try clear hb2)
             (try clear hk)
             (try clear hi)
             refine hK.out _ _ ⟨HS0_, HS1_⟩ (fun hHeld => ?_)
             clear hK K
             refine norm_ (a' := ?_) ?_ ?_
             rotate_left
             ·show Act.put _ (some 55) _ = _
              simp only [Act.put, List.setIfInBounds_toArray, List.set_cons_zero, List.set_cons_succ, i64_w, i32_w]
              rfl
             refine Gv.pu 17 (some 56) HT_ ?_
             refine Gv.pu 18 (some 4) HT_ ?_
             refine done_ (done_of HT_.out (by kernel_rfl)) ?_
             try go_wp2
             go_roundg k2
             case measure => have := HJ2.out; have := HK2.out; omega
             case rel => exact ⟨(x4_2 ++ t236), (wrap64 (x6_2 + 1)), Gv.rq, Gv.rq, H', ⟨by have := HJ2.out; have := HK2.out; omega⟩, ⟨Gv.kr HO_3.out⟩, ⟨by (with_reducible repeat (first | refine blk_drewN ?_ _ | refine blk_drew ?_ | refine blk_alloc ?_ _)); exact BK223.out⟩, ⟨Gv.bw⟩⟩
            ·rw [if_neg c43] at H
             exact absurd H (by simp)
           ·rw [if_neg c41] at H
            exact absurd H (by simp)
          ·rw [if_neg c40] at H
           exact absurd H (by simp)
         ·rw [if_neg c38] at H
          exact absurd H (by simp)
        ·rw [if_neg c37] at H
         exact absurd H (by simp)
      ·rw [if_neg c23] at H
       have c23b0 : decide (x6_2 < 8) = false := decide_eq_false c23
       clear c23
       obtain rfl := Option.some.inj H
       go_wp2
       go_ret
       exact ⟨Gv.rt, Gv.bw⟩
   ·rw [if_neg c22] at H
    have c22b0 : ((t224.length : Int) == 16) = false := beq_eq_false_iff_ne.mpr c22
    have c22b1 : ((t224.length : Int) != 16) = true := bne_iff_ne.mpr c22
    obtain rfl := Option.some.inj H
    go_wp2
    go_ret
    exact ⟨Gv.rt, Gv.bw⟩

/-! ### spec_PrefixText: function 9 -/
def spec_PrefixText.f (k : Nat) (a0_0 : Int) (a0_1 : Int) (a0_2 : Int) (a0_3 : Int) (a0_4 : Int) (a0_5 : Int) : Option (ByteArray) := (spec_PrefixOk.f k a0_0 a0_1 a0_2 a0_3 a0_4 a0_5).bind fun t238 => (if t238 = true then ((spec_l03Any.f a0_0 a0_1 a0_2 a0_3 a0_4 a0_5).bind fun t239 => (if t239 = true then (some (⟨#[97, 110, 121]⟩ : ByteArray)) else ((spec_AddrText.f k a0_0 a0_1 a0_2 a0_3 a0_4).bind fun t240 => (if t240.size + 1 ≤ 9223372036854775807 then ((spec_NumText.f k a0_5).bind fun t241 => (if (t240 ++ (⟨#[47]⟩ : ByteArray)).size + t241.size ≤ 9223372036854775807 then (some ((t240 ++ (⟨#[47]⟩ : ByteArray)) ++ t241)) else (none))) else (none))))) else (some (⟨#[]⟩ : ByteArray)))
theorem spec_PrefixText.mono : ∀ a0 a1 a2 a3 a4 a5 k, LeO (spec_PrefixText.f k a0 a1 a2 a3 a4 a5) (spec_PrefixText.f (k + 1) a0 a1 a2 a3 a4 a5) := by
 intro a0 a1 a2 a3 a4 a5 k
 unfold spec_PrefixText.f
 repeat' first
   | (with_reducible exact spec_AddrText.mono _ _ _ _ _ _)
   | (with_reducible exact spec_NumText.mono _ _)
   | (with_reducible exact spec_PrefixOk.mono _ _ _ _ _ _ _)
   | (with_reducible exact LeO.refl _)
   | (with_reducible exact LeO.none _)
   | (with_reducible refine LeO.ite ?_ ?_)
   | (with_reducible refine LeO.bind ?_ (fun _ => ?_))
   | exact spec_AddrText.mono _ _ _ _ _ _
   | exact spec_NumText.mono _ _
   | exact spec_PrefixOk.mono _ _ _ _ _ _ _
   | exact LeO.none _
   | refine LeO.ite ?_ ?_
   | refine LeO.bind ?_ (fun _ => ?_)
def spec_PrefixText.T5 : Bool × List (List Nat × List Nat) := (true, [([], []), ([0], [0]), ([1], [1]), ([2], [2]), ([], []), ([4], [4]), ([5, 2], [5]), ([3, 6], [3, 6]), ([7, 6, 0, 1, 2, 3, 4, 5, 6, 7], [7])])
def spec_PrefixText.B5 : List Nat := [0, 1, 3, 7, 0, 16, 55, 127, 255]
theorem spec_PrefixText.tab5 : rtab .any (opsOf Tryd.f9 5) = spec_PrefixText.T5 := by kernel_rfl
theorem spec_PrefixText.bits5 : waitsOk spec_PrefixText.T5.2 spec_PrefixText.B5 = true := by kernel_rfl
set_option maxHeartbeats 8000000 in
set_option maxRecDepth 100000 in
theorem spec_PrefixText.calls (k : Nat) (a0_0 : Int) (a0_1 : Int) (a0_2 : Int) (a0_3 : Int) (a0_4 : Int) (a0_5 : Int) (r : ByteArray) (w : World) (h : spec_PrefixText.f k a0_0 a0_1 a0_2 a0_3 a0_4 a0_5 = some r) :
  Calls Tryd.prog 9 #[.agg #[.int .i64 a0_0, .int .i64 a0_1, .int .i64 a0_2, .int .i64 a0_3, .int .i64 a0_4, .int .i64 a0_5]] w fun e w' => e = .returned (.string r) ∧ Below w.heap.size w w' := by
 have hu31 := Tryd.underlying31
 have hu29 := Tryd.underlying29
 have HB := Gv.a0 (Below.refl w.heap.size w)
 have H : ((spec_PrefixOk.f k a0_0 a0_1 a0_2 a0_3 a0_4 a0_5).bind fun t238 => (if t238 = true then ((spec_l03Any.f a0_0 a0_1 a0_2 a0_3 a0_4 a0_5).bind fun t239 => (if t239 = true then (some (⟨#[97, 110, 121]⟩ : ByteArray)) else ((spec_AddrText.f k a0_0 a0_1 a0_2 a0_3 a0_4).bind fun t240 => (if t240.size + 1 ≤ 9223372036854775807 then ((spec_NumText.f k a0_5).bind fun t241 => (if (t240 ++ (⟨#[47]⟩ : ByteArray)).size + t241.size ≤ 9223372036854775807 then (some ((t240 ++ (⟨#[47]⟩ : ByteArray)) ++ t241)) else (none))) else (none))))) else (some (⟨#[]⟩ : ByteArray)))) = some r := h
 clear h
 replace H := Option.bind_eq_some_iff.mp H
 obtain ⟨t238, A20, H⟩ := H
 replace H : (if t238 = true then ((spec_l03Any.f a0_0 a0_1 a0_2 a0_3 a0_4 a0_5).bind fun t239 => (if t239 = true then (some (⟨#[97, 110, 121]⟩ : ByteArray)) else ((spec_AddrText.f k a0_0 a0_1 a0_2 a0_3 a0_4).bind fun t240 => (if t240.size + 1 ≤ 9223372036854775807 then ((spec_NumText.f k a0_5).bind fun t241 => (if (t240 ++ (⟨#[47]⟩ : ByteArray)).size + t241.size ≤ 9223372036854775807 then (some ((t240 ++ (⟨#[47]⟩ : ByteArray)) ++ t241)) else (none))) else (none))))) else (some (⟨#[]⟩ : ByteArray))) = some r := H
 have A2 := Gv.a0 A20
 clear A20
 by_cases c3 : t238 = true
 ·subst c3
  have H1 : ((spec_l03Any.f a0_0 a0_1 a0_2 a0_3 a0_4 a0_5).bind fun t239 => (if t239 = true then (some (⟨#[97, 110, 121]⟩ : ByteArray)) else ((spec_AddrText.f k a0_0 a0_1 a0_2 a0_3 a0_4).bind fun t240 => (if t240.size + 1 ≤ 9223372036854775807 then ((spec_NumText.f k a0_5).bind fun t241 => (if (t240 ++ (⟨#[47]⟩ : ByteArray)).size + t241.size ≤ 9223372036854775807 then (some ((t240 ++ (⟨#[47]⟩ : ByteArray)) ++ t241)) else (none))) else (none))))) = some r := by rw [if_pos rfl] at H; exact H
  clear H
  have H := H1
  clear H1
  replace H := Option.bind_eq_some_iff.mp H
  obtain ⟨t239, A40, H⟩ := H
  replace H : (if t239 = true then (some (⟨#[97, 110, 121]⟩ : ByteArray)) else ((spec_AddrText.f k a0_0 a0_1 a0_2 a0_3 a0_4).bind fun t240 => (if t240.size + 1 ≤ 9223372036854775807 then ((spec_NumText.f k a0_5).bind fun t241 => (if (t240 ++ (⟨#[47]⟩ : ByteArray)).size + t241.size ≤ 9223372036854775807 then (some ((t240 ++ (⟨#[47]⟩ : ByteArray)) ++ t241)) else (none))) else (none)))) = some r := H
  have A4 := Gv.a0 A40
  clear A40
  by_cases c5 : t239 = true
  ·subst c5
   have H1 : (some (⟨#[97, 110, 121]⟩ : ByteArray)) = some r := by rw [if_pos rfl] at H; exact H
   clear H
   have H := H1
   clear H1
   obtain rfl := Option.some.inj H
   go_enter Tryd.func9, Tryd.ntmps9
   go_wp2_with (first | ((with_reducible refine gate_dst (N := 1) rfl ?_); refine box_event ?hg (N := 1) ?hd (cs := #[.int .i64 a0_0, .int .i64 a0_1, .int .i64 a0_2, .int .i64 a0_3, .int .i64 a0_4, .int .i64 a0_5]) (t := 31) ?hr ?_; (case hd => rfl); (case hg => rfl); (case hr => first | (go_simp; done) | (go_simp; rfl)); intro gb237 hg w6 hbox hb; have n0_ := Gv.a0 (below_step Gv.bw hb); have n1_ := Gv.a0 (hbox); have n2_ := Gv.a0 ((Gv.ble hg Gv.bw : w.heap.size ≤ gb237)); have n3_ := Gv.a0 ((Gv.ble hg Gv.bw : w.heap.size ≤ gb237)); clear HB; have HB := n0_; have BK237 := n1_; have GW237 := n2_; have GE237 := n3_; clear n0_ n1_ n2_ n3_; clear hb hbox hg; obtain ⟨hcz7_0, hcz7_1, hcz7_2, hcz7_3, hcz7_4, hcz7_5⟩ := Gv.c6 BK237.out; obtain ⟨hfz7_0, hfz7_1, hfz7_2, hfz7_3, hfz7_4, hfz7_5⟩ := Gv.f6 BK237.out) | ((with_reducible refine gate_callee (f := 16) rfl ?_); refine goesL_ (some 4) rfl rfl Tryd.func16 (by kernel_rfl) rfl #[.agg #[.int .i64 a0_0, .int .i64 a0_1, .int .i64 a0_2, .int .i64 a0_3, .int .i64 a0_4, .int .i64 a0_5]] rfl Gv.lm ?_; (with_reducible refine (spec_PrefixOk.calls k a0_0 a0_1 a0_2 a0_3 a0_4 a0_5 true _ A2.out).mono ?_); rintro e w8 ⟨rfl, hb⟩; refine ⟨_, rfl, ?_⟩; have n0_ := Gv.a0 (Gv.bb BK237.out hb); have n1_ := Gv.a0 (below_step Gv.bw hb); clear BK237; clear HB; have BK237 := n0_; have HB := n1_; clear n0_ n1_; (try clear hb); (try clear hb2); (try clear hk); (try clear hi); obtain ⟨hcz9_0, hcz9_1, hcz9_2, hcz9_3, hcz9_4, hcz9_5⟩ := Gv.c6 BK237.out; obtain ⟨hfz9_0, hfz9_1, hfz9_2, hfz9_3, hfz9_4, hfz9_5⟩ := Gv.f6 BK237.out) | ((with_reducible refine gate_callee (f := 18) rfl ?_); refine goesL_ (some 7) rfl rfl Tryd.func18 (by kernel_rfl) rfl #[.agg #[.int .i64 a0_0, .int .i64 a0_1, .int .i64 a0_2, .int .i64 a0_3, .int .i64 a0_4, .int .i64 a0_5]] rfl Gv.lm ?_; (with_reducible refine (spec_l03Any.calls a0_0 a0_1 a0_2 a0_3 a0_4 a0_5 true _ A4.out).mono ?_); rintro e w10 ⟨rfl, hb⟩; refine ⟨_, rfl, ?_⟩; have n0_ := Gv.a0 (Gv.bb BK237.out hb); have n1_ := Gv.a0 (below_step Gv.bw hb); clear BK237; clear HB; have BK237 := n0_; have HB := n1_; clear n0_ n1_; (try clear hb); (try clear hb2); (try clear hk); (try clear hi)))
   go_ret
   exact ⟨Gv.rt, Gv.bw⟩
  ·replace c5 := Bool.eq_false_iff.mpr c5
   subst c5
   have H1 : ((spec_AddrText.f k a0_0 a0_1 a0_2 a0_3 a0_4).bind fun t240 => (if t240.size + 1 ≤ 9223372036854775807 then ((spec_NumText.f k a0_5).bind fun t241 => (if (t240 ++ (⟨#[47]⟩ : ByteArray)).size + t241.size ≤ 9223372036854775807 then (some ((t240 ++ (⟨#[47]⟩ : ByteArray)) ++ t241)) else (none))) else (none))) = some r := by rw [if_neg (show ¬ (false = true) by decide)] at H; exact H
   clear H
   have H := H1
   clear H1
   replace H := Option.bind_eq_some_iff.mp H
   obtain ⟨t240, A110, H⟩ := H
   replace H : (if t240.size + 1 ≤ 9223372036854775807 then ((spec_NumText.f k a0_5).bind fun t241 => (if (t240 ++ (⟨#[47]⟩ : ByteArray)).size + t241.size ≤ 9223372036854775807 then (some ((t240 ++ (⟨#[47]⟩ : ByteArray)) ++ t241)) else (none))) else (none)) = some r := H
   have A11 := Gv.a0 A110
   clear A110
   by_cases c12 : t240.size + 1 ≤ 9223372036854775807
   ·rw [if_pos c12] at H
    have c12b0 := eq_true c12
    have c12b1 : decide (t240.size + 1 ≤ 9223372036854775807) = true := decide_eq_true c12
    try have c12b2 : (9223372036854775807 < t240.size + 1) = False := eq_false (Nat.not_lt.2 c12)
    replace H := Option.bind_eq_some_iff.mp H
    obtain ⟨t241, A130, H⟩ := H
    replace H : (if (t240 ++ (⟨#[47]⟩ : ByteArray)).size + t241.size ≤ 9223372036854775807 then (some ((t240 ++ (⟨#[47]⟩ : ByteArray)) ++ t241)) else (none)) = some r := H
    have A13 := Gv.a0 A130
    clear A130
    by_cases c14 : (t240 ++ (⟨#[47]⟩ : ByteArray)).size + t241.size ≤ 9223372036854775807
    ·rw [if_pos c14] at H
     have c14b0 := eq_true c14
     have c14b1 : decide ((t240 ++ (⟨#[47]⟩ : ByteArray)).size + t241.size ≤ 9223372036854775807) = true := decide_eq_true c14
     have c14s : t240.size + 1 + t241.size ≤ 9223372036854775807 := (by have h_ := c14; simp only [ByteArray.size_append] at h_; exact h_)
     have c14b3 := eq_true c14s
     have c14b4 : decide (t240.size + 1 + t241.size ≤ 9223372036854775807) = true := decide_eq_true c14s
     have c14b5 : (9223372036854775807 < t240.size + 1 + t241.size) = False := eq_false (Nat.not_lt.2 c14s)
     clear c14s
     try have c14b2 : (9223372036854775807 < (t240 ++ (⟨#[47]⟩ : ByteArray)).size + t241.size) = False := eq_false (Nat.not_lt.2 c14)
     obtain rfl := Option.some.inj H
     go_enter Tryd.func9, Tryd.ntmps9
     try go_wp2_with (first | ((with_reducible refine gate_dst (N := 1) rfl ?_); refine box_event ?hg (N := 1) ?hd (cs := #[.int .i64 a0_0, .int .i64 a0_1, .int .i64 a0_2, .int .i64 a0_3, .int .i64 a0_4, .int .i64 a0_5]) (t := 31) ?hr ?_; (case hd => rfl); (case hg => rfl); (case hr => first | (go_simp; done) | (go_simp; rfl)); intro gb237 hg w15 hbox hb; have n0_ := Gv.a0 (below_step Gv.bw hb); have n1_ := Gv.a0 (hbox); have n2_ := Gv.a0 ((Gv.ble hg Gv.bw : w.heap.size ≤ gb237)); have n3_ := Gv.a0 ((Gv.ble hg Gv.bw : w.heap.size ≤ gb237)); clear HB; have HB := n0_; have BK237 := n1_; have GW237 := n2_; have GE237 := n3_; clear n0_ n1_ n2_ n3_; clear hb hbox hg; obtain ⟨hcz16_0, hcz16_1, hcz16_2, hcz16_3, hcz16_4, hcz16_5⟩ := Gv.c6 BK237.out; obtain ⟨hfz16_0, hfz16_1, hfz16_2, hfz16_3, hfz16_4, hfz16_5⟩ := Gv.f6 BK237.out) | ((with_reducible refine gate_callee (f := 16) rfl ?_); refine goesL_ (some 4) rfl rfl Tryd.func16 (by kernel_rfl) rfl #[.agg #[.int .i64 a0_0, .int .i64 a0_1, .int .i64 a0_2, .int .i64 a0_3, .int .i64 a0_4, .int .i64 a0_5]] rfl Gv.lm ?_; (with_reducible refine (spec_PrefixOk.calls k a0_0 a0_1 a0_2 a0_3 a0_4 a0_5 true _ A2.out).mono ?_); rintro e w17 ⟨rfl, hb⟩; refine ⟨_, rfl, ?_⟩; have n0_ := Gv.a0 (Gv.bb BK237.out hb); have n1_ := Gv.a0 (below_step Gv.bw hb); clear BK237; clear HB; have BK237 := n0_; have HB := n1_; clear n0_ n1_; (try clear hb); (try clear hb2); (try clear hk); (try clear hi); obtain ⟨hcz18_0, hcz18_1, hcz18_2, hcz18_3, hcz18_4, hcz18_5⟩ := Gv.c6 BK237.out; obtain ⟨hfz18_0, hfz18_1, hfz18_2, hfz18_3, hfz18_4, hfz18_5⟩ := Gv.f6 BK237.out) | ((with_reducible refine gate_callee (f := 18) rfl ?_); refine goesL_ (some 7) rfl rfl Tryd.func18 (by kernel_rfl) rfl #[.agg #[.int .i64 a0_0, .int .i64 a0_1, .int .i64 a0_2, .int .i64 a0_3, .int .i64 a0_4, .int .i64 a0_5]] rfl Gv.lm ?_; (with_reducible refine (spec_l03Any.calls a0_0 a0_1 a0_2 a0_3 a0_4 a0_5 false _ A4.out).mono ?_); rintro e w19 ⟨rfl, hb⟩; refine ⟨_, rfl, ?_⟩; have n0_ := Gv.a0 (Gv.bb BK237.out hb); have n1_ := Gv.a0 (below_step Gv.bw hb); clear BK237; clear HB; have BK237 := n0_; have HB := n1_; clear n0_ n1_; (try clear hb); (try clear hb2); (try clear hk); (try clear hi)))
     have n0_ := Gv.a0 (blk_drew BK237.out)
     have n1_ := Gv.a0 (below_drew1 HB.out)
     clear BK237
     clear HB
     have BK237 := n0_
     have HB := n1_
     clear n0_ n1_
     refine start_ (n := 9) (S := fun w' => w'.cell? ⟨gb237, 0, none⟩ = some (.int .i64 a0_0) ∧ w'.cell? ⟨gb237, 1, none⟩ = some (.int .i64 a0_1) ∧ w'.cell? ⟨gb237, 2, none⟩ = some (.int .i64 a0_2) ∧ w'.cell? ⟨gb237, 3, none⟩ = some (.int .i64 a0_3) ∧ w'.cell? ⟨gb237, 4, none⟩ = some (.int .i64 a0_4) ∧ w'.cell? ⟨gb237, 5, none⟩ = some (.int .i64 a0_5)) (ds := []) #[false, false, false, false, false, false, false, false, false] (by kernel_rfl) rfl rfl ⟨(blk_cell BK237.out 0).trans rfl, (blk_cell BK237.out 1).trans rfl, (blk_cell BK237.out 2).trans rfl, (blk_cell BK237.out 3).trans rfl, (blk_cell BK237.out 4).trans rfl, (blk_cell BK237.out 5).trans rfl⟩ (fun hHeld => ?_); refine with_tabW spec_PrefixText.tab5 spec_PrefixText.bits5 (fun HT_ HW_ => ?_)
     generalize w19.drew = w20 at BK237 HB hHeld ⊢
     refine Gv.pu 0 (some 8) HT_ ?_
     refine Gv.pu 4 (some 12) HT_ ?_
     refine take_ (i := 1) (N := some 9) (v := ?_) (a' := ?_) #[true, true, false, false, true, false, false, false, false] rfl rfl (take_ofW HT_.out HW_.out (by kernel_rfl)) (fun _ _ _ h => h) (Or.inl ⟨by rfl, ?_⟩) hHeld ?_ ?_
     rotate_left
     ·rintro w' ⟨s0, s1, s2, s3, s4, s5⟩
      go_simp
      with_reducible rfl
     rotate_left
     ·simp only [Act.put, List.setIfInBounds_toArray, List.set_cons_zero, List.set_cons_succ, i64_w, i32_w]
      rfl
     refine take_ (i := 5) (N := some 13) (v := ?_) (a' := ?_) #[true, true, false, false, true, true, false, false, false] rfl rfl (take_ofW HT_.out HW_.out (by kernel_rfl)) (fun _ _ _ h => h) (Or.inl ⟨by rfl, ?_⟩) hHeld ?_ ?_
     rotate_left
     ·rintro w' ⟨s0, s1, s2, s3, s4, s5⟩
      go_simp
      with_reducible rfl
     rotate_left
     ·simp only [Act.put, List.setIfInBounds_toArray, List.set_cons_zero, List.set_cons_succ, i64_w, i32_w]
      rfl
     refine one_ (i := 2) (N := some 10) #[true, true, true, false, true, true, false, false, false] rfl rfl (one_of HT_.out (by kernel_rfl)) (by decide) (fun K hK => ?_)
     refine goes_ Tryd.func19 (by kernel_rfl) rfl #[.agg #[.int .i64 a0_0, .int .i64 a0_1, .int .i64 a0_2, .int .i64 a0_3, .int .i64 a0_4]] (by rfl) rfl rfl Gv.lm ?_
     with_reducible refine (spec_AddrText.calls k a0_0 a0_1 a0_2 a0_3 a0_4 t240 _ A11.out).mono ?_
     rintro e w21 ⟨rfl, hb⟩
     refine ⟨_, rfl, ?_⟩
     have n0_ := Gv.a0 (Gv.bb BK237.out hb)
     have n1_ := Gv.a0 (below_step Gv.bw hb)
     clear BK237
     clear HB
     have BK237 := n0_
     have HB := n1_
     clear n0_ n1_
     (try clear hb)
     (try clear hb2)
     (try clear hk)
     (try clear hi)
     refine hK.out _ _ ⟨(blk_cell BK237.out 0).trans rfl, (blk_cell BK237.out 1).trans rfl, (blk_cell BK237.out 2).trans rfl, (blk_cell BK237.out 3).trans rfl, (blk_cell BK237.out 4).trans rfl, (blk_cell BK237.out 5).trans rfl⟩ (fun hHeld => ?_)
     clear hK K
     refine norm_ (a' := ?_) ?_ ?_
     rotate_left
     ·show Act.put _ (some 10) _ = _
      simp only [Act.put, List.setIfInBounds_toArray, List.set_cons_zero, List.set_cons_succ, i64_w, i32_w]
      rfl
     refine Gv.pu 3 (some 11) HT_ ?_
     refine one_ (i := 6) (N := some 14) #[true, true, true, true, true, true, true, false, false] rfl rfl (one_of HT_.out (by kernel_rfl)) (by decide) (fun K hK => ?_)
     refine goes_ Tryd.func8 (by kernel_rfl) rfl #[.int .i64 a0_5] (by rfl) rfl rfl Gv.lm ?_
     with_reducible refine (spec_NumText.calls k a0_5 t241 _ A13.out).mono ?_
     rintro e w22 ⟨rfl, hb⟩
     refine ⟨_, rfl, ?_⟩
     have n0_ := Gv.a0 (Gv.bb BK237.out hb)
     have n1_ := Gv.a0 (below_step Gv.bw hb)
     clear BK237
     clear HB
     have BK237 := n0_
     have HB := n1_
     clear n0_ n1_
     (try clear hb)
     (try clear hb2)
     (try clear hk)
     (try clear hi)
     refine hK.out _ _ ⟨(blk_cell BK237.out 0).trans rfl, (blk_cell BK237.out 1).trans rfl, (blk_cell BK237.out 2).trans rfl, (blk_cell BK237.out 3).trans rfl, (blk_cell BK237.out 4).trans rfl, (blk_cell BK237.out 5).trans rfl⟩ (fun hHeld => ?_)
     clear hK K
     refine norm_ (a' := ?_) ?_ ?_
     rotate_left
     ·show Act.put _ (some 14) _ = _
      simp only [Act.put, List.setIfInBounds_toArray, List.set_cons_zero, List.set_cons_succ, i64_w, i32_w]
      rfl
     refine Gv.pu 7 (some 15) HT_ ?_
     refine Gv.pu 8 (some 2) HT_ ?_
     refine done_ (done_of HT_.out (by kernel_rfl)) ?_
     try go_wp2
     go_ret
     exact ⟨Gv.rt, Gv.bw⟩
    ·rw [if_neg c14] at H
     exact absurd H (by simp)
   ·rw [if_neg c12] at H
    exact absurd H (by simp)
 ·replace c3 := Bool.eq_false_iff.mpr c3
  subst c3
  have H1 : (some (⟨#[]⟩ : ByteArray)) = some r := by rw [if_neg (show ¬ (false = true) by decide)] at H; exact H
  clear H
  have H := H1
  clear H1
  obtain rfl := Option.some.inj H
  go_enter Tryd.func9, Tryd.ntmps9
  go_wp2_with (first | ((with_reducible refine gate_dst (N := 1) rfl ?_); refine box_event ?hg (N := 1) ?hd (cs := #[.int .i64 a0_0, .int .i64 a0_1, .int .i64 a0_2, .int .i64 a0_3, .int .i64 a0_4, .int .i64 a0_5]) (t := 31) ?hr ?_; (case hd => rfl); (case hg => rfl); (case hr => first | (go_simp; done) | (go_simp; rfl)); intro gb237 hg w23 hbox hb; have n0_ := Gv.a0 (below_step Gv.bw hb); have n1_ := Gv.a0 (hbox); have n2_ := Gv.a0 ((Gv.ble hg Gv.bw : w.heap.size ≤ gb237)); have n3_ := Gv.a0 ((Gv.ble hg Gv.bw : w.heap.size ≤ gb237)); clear HB; have HB := n0_; have BK237 := n1_; have GW237 := n2_; have GE237 := n3_; clear n0_ n1_ n2_ n3_; clear hb hbox hg; obtain ⟨hcz24_0, hcz24_1, hcz24_2, hcz24_3, hcz24_4, hcz24_5⟩ := Gv.c6 BK237.out; obtain ⟨hfz24_0, hfz24_1, hfz24_2, hfz24_3, hfz24_4, hfz24_5⟩ := Gv.f6 BK237.out) | ((with_reducible refine gate_callee (f := 16) rfl ?_); refine goesL_ (some 4) rfl rfl Tryd.func16 (by kernel_rfl) rfl #[.agg #[.int .i64 a0_0, .int .i64 a0_1, .int .i64 a0_2, .int .i64 a0_3, .int .i64 a0_4, .int .i64 a0_5]] rfl Gv.lm ?_; (with_reducible refine (spec_PrefixOk.calls k a0_0 a0_1 a0_2 a0_3 a0_4 a0_5 false _ A2.out).mono ?_); rintro e w25 ⟨rfl, hb⟩; refine ⟨_, rfl, ?_⟩; have n0_ := Gv.a0 (Gv.bb BK237.out hb); have n1_ := Gv.a0 (below_step Gv.bw hb); clear BK237; clear HB; have BK237 := n0_; have HB := n1_; clear n0_ n1_; (try clear hb); (try clear hb2); (try clear hk); (try clear hi)))
  go_ret
  exact ⟨Gv.rt, Gv.bw⟩

/-! ### spec_RuleText: function 4 -/
def spec_RuleText.j0 : Nat → ByteArray → Int → Int → Int → Int → Int → Int → Int → Int → Int → Int → Int → Int → Int → Int → Int → Int → Int → Int → Int → Int → Int → Option (ByteArray)
 | 0, _, _, _, _, _, _, _, _, _, _, _, _, _, _, _, _, _, _, _, _, _, _ => none
 | k + 1, x3, x243000, x243001, x243002, x243003, x243004, x243005, x243006, x243007, x243008, x243009, x243010, x243011, x243012, x243013, x243014, x243015, x243016, x243017, x243018, x243019, x243020 => (spec_NumText.f k x243000).bind fun t245 => (if t245.size + 6 ≤ 9223372036854775807 then ((spec_PrefixText.f k x243001 x243002 x243003 x243004 x243005 x243006).bind fun t246 => (if (t245 ++ (⟨#[32, 102, 114, 111, 109, 32]⟩ : ByteArray)).size + t246.size ≤ 9223372036854775807 then (if ((t245 ++ (⟨#[32, 102, 114, 111, 109, 32]⟩ : ByteArray)) ++ t246).size + 4 ≤ 9223372036854775807 then ((spec_PrefixText.f k x243007 x243008 x243009 x243010 x243011 x243012).bind fun t247 => (if (((t245 ++ (⟨#[32, 102, 114, 111, 109, 32]⟩ : ByteArray)) ++ t246) ++ (⟨#[32, 116, 111, 32]⟩ : ByteArray)).size + t247.size ≤ 9223372036854775807 then (if ((((t245 ++ (⟨#[32, 102, 114, 111, 109, 32]⟩ : ByteArray)) ++ t246) ++ (⟨#[32, 116, 111, 32]⟩ : ByteArray)) ++ t247).size + 7 ≤ 9223372036854775807 then (if (((((t245 ++ (⟨#[32, 102, 114, 111, 109, 32]⟩ : ByteArray)) ++ t246) ++ (⟨#[32, 116, 111, 32]⟩ : ByteArray)) ++ t247) ++ (⟨#[32, 112, 114, 111, 116, 111, 32]⟩ : ByteArray)).size + x3.size ≤ 9223372036854775807 then (if ((((((t245 ++ (⟨#[32, 102, 114, 111, 109, 32]⟩ : ByteArray)) ++ t246) ++ (⟨#[32, 116, 111, 32]⟩ : ByteArray)) ++ t247) ++ (⟨#[32, 112, 114, 111, 116, 111, 32]⟩ : ByteArray)) ++ x3).size + 7 ≤ 9223372036854775807 then ((spec_NumText.f k x243014).bind fun t248 => (if (((((((t245 ++ (⟨#[32, 102, 114, 111, 109, 32]⟩ : ByteArray)) ++ t246) ++ (⟨#[32, 116, 111, 32]⟩ : ByteArray)) ++ t247) ++ (⟨#[32, 112, 114, 111, 116, 111, 32]⟩ : ByteArray)) ++ x3) ++ (⟨#[32, 115, 112, 111, 114, 116, 32]⟩ : ByteArray)).size + t248.size ≤ 9223372036854775807 then (if ((((((((t245 ++ (⟨#[32, 102, 114, 111, 109, 32]⟩ : ByteArray)) ++ t246) ++ (⟨#[32, 116, 111, 32]⟩ : ByteArray)) ++ t247) ++ (⟨#[32, 112, 114, 111, 116, 111, 32]⟩ : ByteArray)) ++ x3) ++ (⟨#[32, 115, 112, 111, 114, 116, 32]⟩ : ByteArray)) ++ t248).size + 1 ≤ 9223372036854775807 then ((spec_NumText.f k x243015).bind fun t249 => (if (((((((((t245 ++ (⟨#[32, 102, 114, 111, 109, 32]⟩ : ByteArray)) ++ t246) ++ (⟨#[32, 116, 111, 32]⟩ : ByteArray)) ++ t247) ++ (⟨#[32, 112, 114, 111, 116, 111, 32]⟩ : ByteArray)) ++ x3) ++ (⟨#[32, 115, 112, 111, 114, 116, 32]⟩ : ByteArray)) ++ t248) ++ (⟨#[45]⟩ : ByteArray)).size + t249.size ≤ 9223372036854775807 then (if ((((((((((t245 ++ (⟨#[32, 102, 114, 111, 109, 32]⟩ : ByteArray)) ++ t246) ++ (⟨#[32, 116, 111, 32]⟩ : ByteArray)) ++ t247) ++ (⟨#[32, 112, 114, 111, 116, 111, 32]⟩ : ByteArray)) ++ x3) ++ (⟨#[32, 115, 112, 111, 114, 116, 32]⟩ : ByteArray)) ++ t248) ++ (⟨#[45]⟩ : ByteArray)) ++ t249).size + 7 ≤ 9223372036854775807 then ((spec_NumText.f k x243016).bind fun t250 => (if (((((((((((t245 ++ (⟨#[32, 102, 114, 111, 109, 32]⟩ : ByteArray)) ++ t246) ++ (⟨#[32, 116, 111, 32]⟩ : ByteArray)) ++ t247) ++ (⟨#[32, 112, 114, 111, 116, 111, 32]⟩ : ByteArray)) ++ x3) ++ (⟨#[32, 115, 112, 111, 114, 116, 32]⟩ : ByteArray)) ++ t248) ++ (⟨#[45]⟩ : ByteArray)) ++ t249) ++ (⟨#[32, 100, 112, 111, 114, 116, 32]⟩ : ByteArray)).size + t250.size ≤ 9223372036854775807 then (if ((((((((((((t245 ++ (⟨#[32, 102, 114, 111, 109, 32]⟩ : ByteArray)) ++ t246) ++ (⟨#[32, 116, 111, 32]⟩ : ByteArray)) ++ t247) ++ (⟨#[32, 112, 114, 111, 116, 111, 32]⟩ : ByteArray)) ++ x3) ++ (⟨#[32, 115, 112, 111, 114, 116, 32]⟩ : ByteArray)) ++ t248) ++ (⟨#[45]⟩ : ByteArray)) ++ t249) ++ (⟨#[32, 100, 112, 111, 114, 116, 32]⟩ : ByteArray)) ++ t250).size + 1 ≤ 9223372036854775807 then ((spec_NumText.f k x243017).bind fun t251 => (if (((((((((((((t245 ++ (⟨#[32, 102, 114, 111, 109, 32]⟩ : ByteArray)) ++ t246) ++ (⟨#[32, 116, 111, 32]⟩ : ByteArray)) ++ t247) ++ (⟨#[32, 112, 114, 111, 116, 111, 32]⟩ : ByteArray)) ++ x3) ++ (⟨#[32, 115, 112, 111, 114, 116, 32]⟩ : ByteArray)) ++ t248) ++ (⟨#[45]⟩ : ByteArray)) ++ t249) ++ (⟨#[32, 100, 112, 111, 114, 116, 32]⟩ : ByteArray)) ++ t250) ++ (⟨#[45]⟩ : ByteArray)).size + t251.size ≤ 9223372036854775807 then (if ((((((((((((((t245 ++ (⟨#[32, 102, 114, 111, 109, 32]⟩ : ByteArray)) ++ t246) ++ (⟨#[32, 116, 111, 32]⟩ : ByteArray)) ++ t247) ++ (⟨#[32, 112, 114, 111, 116, 111, 32]⟩ : ByteArray)) ++ x3) ++ (⟨#[32, 115, 112, 111, 114, 116, 32]⟩ : ByteArray)) ++ t248) ++ (⟨#[45]⟩ : ByteArray)) ++ t249) ++ (⟨#[32, 100, 112, 111, 114, 116, 32]⟩ : ByteArray)) ++ t250) ++ (⟨#[45]⟩ : ByteArray)) ++ t251).size + 8 ≤ 9223372036854775807 then ((spec_NumText.f k x243018).bind fun t252 => (if (((((((((((((((t245 ++ (⟨#[32, 102, 114, 111, 109, 32]⟩ : ByteArray)) ++ t246) ++ (⟨#[32, 116, 111, 32]⟩ : ByteArray)) ++ t247) ++ (⟨#[32, 112, 114, 111, 116, 111, 32]⟩ : ByteArray)) ++ x3) ++ (⟨#[32, 115, 112, 111, 114, 116, 32]⟩ : ByteArray)) ++ t248) ++ (⟨#[45]⟩ : ByteArray)) ++ t249) ++ (⟨#[32, 100, 112, 111, 114, 116, 32]⟩ : ByteArray)) ++ t250) ++ (⟨#[45]⟩ : ByteArray)) ++ t251) ++ (⟨#[32, 116, 101, 110, 97, 110, 116, 32]⟩ : ByteArray)).size + t252.size ≤ 9223372036854775807 then (if ((((((((((((((((t245 ++ (⟨#[32, 102, 114, 111, 109, 32]⟩ : ByteArray)) ++ t246) ++ (⟨#[32, 116, 111, 32]⟩ : ByteArray)) ++ t247) ++ (⟨#[32, 112, 114, 111, 116, 111, 32]⟩ : ByteArray)) ++ x3) ++ (⟨#[32, 115, 112, 111, 114, 116, 32]⟩ : ByteArray)) ++ t248) ++ (⟨#[45]⟩ : ByteArray)) ++ t249) ++ (⟨#[32, 100, 112, 111, 114, 116, 32]⟩ : ByteArray)) ++ t250) ++ (⟨#[45]⟩ : ByteArray)) ++ t251) ++ (⟨#[32, 116, 101, 110, 97, 110, 116, 32]⟩ : ByteArray)) ++ t252).size + 8 ≤ 9223372036854775807 then ((spec_NumText.f k x243019).bind fun t253 => (if (((((((((((((((((t245 ++ (⟨#[32, 102, 114, 111, 109, 32]⟩ : ByteArray)) ++ t246) ++ (⟨#[32, 116, 111, 32]⟩ : ByteArray)) ++ t247) ++ (⟨#[32, 112, 114, 111, 116, 111, 32]⟩ : ByteArray)) ++ x3) ++ (⟨#[32, 115, 112, 111, 114, 116, 32]⟩ : ByteArray)) ++ t248) ++ (⟨#[45]⟩ : ByteArray)) ++ t249) ++ (⟨#[32, 100, 112, 111, 114, 116, 32]⟩ : ByteArray)) ++ t250) ++ (⟨#[45]⟩ : ByteArray)) ++ t251) ++ (⟨#[32, 116, 101, 110, 97, 110, 116, 32]⟩ : ByteArray)) ++ t252) ++ (⟨#[32, 119, 101, 105, 103, 104, 116, 32]⟩ : ByteArray)).size + t253.size ≤ 9223372036854775807 then (if ((((((((((((((((((t245 ++ (⟨#[32, 102, 114, 111, 109, 32]⟩ : ByteArray)) ++ t246) ++ (⟨#[32, 116, 111, 32]⟩ : ByteArray)) ++ t247) ++ (⟨#[32, 112, 114, 111, 116, 111, 32]⟩ : ByteArray)) ++ x3) ++ (⟨#[32, 115, 112, 111, 114, 116, 32]⟩ : ByteArray)) ++ t248) ++ (⟨#[45]⟩ : ByteArray)) ++ t249) ++ (⟨#[32, 100, 112, 111, 114, 116, 32]⟩ : ByteArray)) ++ t250) ++ (⟨#[45]⟩ : ByteArray)) ++ t251) ++ (⟨#[32, 116, 101, 110, 97, 110, 116, 32]⟩ : ByteArray)) ++ t252) ++ (⟨#[32, 119, 101, 105, 103, 104, 116, 32]⟩ : ByteArray)) ++ t253).size + 7 ≤ 9223372036854775807 then ((spec_NumText.f k x243020).bind fun t254 => (if (((((((((((((((((((t245 ++ (⟨#[32, 102, 114, 111, 109, 32]⟩ : ByteArray)) ++ t246) ++ (⟨#[32, 116, 111, 32]⟩ : ByteArray)) ++ t247) ++ (⟨#[32, 112, 114, 111, 116, 111, 32]⟩ : ByteArray)) ++ x3) ++ (⟨#[32, 115, 112, 111, 114, 116, 32]⟩ : ByteArray)) ++ t248) ++ (⟨#[45]⟩ : ByteArray)) ++ t249) ++ (⟨#[32, 100, 112, 111, 114, 116, 32]⟩ : ByteArray)) ++ t250) ++ (⟨#[45]⟩ : ByteArray)) ++ t251) ++ (⟨#[32, 116, 101, 110, 97, 110, 116, 32]⟩ : ByteArray)) ++ t252) ++ (⟨#[32, 119, 101, 105, 103, 104, 116, 32]⟩ : ByteArray)) ++ t253) ++ (⟨#[32, 99, 104, 97, 105, 110, 32]⟩ : ByteArray)).size + t254.size ≤ 9223372036854775807 then (some ((((((((((((((((((((t245 ++ (⟨#[32, 102, 114, 111, 109, 32]⟩ : ByteArray)) ++ t246) ++ (⟨#[32, 116, 111, 32]⟩ : ByteArray)) ++ t247) ++ (⟨#[32, 112, 114, 111, 116, 111, 32]⟩ : ByteArray)) ++ x3) ++ (⟨#[32, 115, 112, 111, 114, 116, 32]⟩ : ByteArray)) ++ t248) ++ (⟨#[45]⟩ : ByteArray)) ++ t249) ++ (⟨#[32, 100, 112, 111, 114, 116, 32]⟩ : ByteArray)) ++ t250) ++ (⟨#[45]⟩ : ByteArray)) ++ t251) ++ (⟨#[32, 116, 101, 110, 97, 110, 116, 32]⟩ : ByteArray)) ++ t252) ++ (⟨#[32, 119, 101, 105, 103, 104, 116, 32]⟩ : ByteArray)) ++ t253) ++ (⟨#[32, 99, 104, 97, 105, 110, 32]⟩ : ByteArray)) ++ t254)) else (none))) else (none)) else (none))) else (none)) else (none))) else (none)) else (none))) else (none)) else (none))) else (none)) else (none))) else (none)) else (none))) else (none)) else (none)) else (none)) else (none))) else (none)) else (none))) else (none))
def spec_RuleText.f (k : Nat) (a0_0 : Int) (a0_1 : Int) (a0_2 : Int) (a0_3 : Int) (a0_4 : Int) (a0_5 : Int) (a0_6 : Int) (a0_7 : Int) (a0_8 : Int) (a0_9 : Int) (a0_10 : Int) (a0_11 : Int) (a0_12 : Int) (a0_13 : Int) (a0_14 : Int) (a0_15 : Int) (a0_16 : Int) (a0_17 : Int) (a0_18 : Int) (a0_19 : Int) (a0_20 : Int) : Option (ByteArray) := (spec_RuleOk.f k a0_0 a0_1 a0_2 a0_3 a0_4 a0_5 a0_6 a0_7 a0_8 a0_9 a0_10 a0_11 a0_12 a0_13 a0_14 a0_15 a0_16 a0_17 a0_18 a0_19 a0_20).bind fun t243 => (if t243 = true then (if a0_13 ≥ 0 then ((spec_NumText.f k a0_13).bind fun t244 => (spec_RuleText.j0 k t244 a0_0 a0_1 a0_2 a0_3 a0_4 a0_5 a0_6 a0_7 a0_8 a0_9 a0_10 a0_11 a0_12 a0_13 a0_14 a0_15 a0_16 a0_17 a0_18 a0_19 a0_20)) else (spec_RuleText.j0 k (⟨#[97, 110, 121]⟩ : ByteArray) a0_0 a0_1 a0_2 a0_3 a0_4 a0_5 a0_6 a0_7 a0_8 a0_9 a0_10 a0_11 a0_12 a0_13 a0_14 a0_15 a0_16 a0_17 a0_18 a0_19 a0_20)) else (some (⟨#[]⟩ : ByteArray)))
theorem spec_RuleText.mono_l : ∀ k, (∀ y0 y1 y2 y3 y4 y5 y6 y7 y8 y9 y10 y11 y12 y13 y14 y15 y16 y17 y18 y19 y20 y21, LeO (spec_RuleText.j0 k y0 y1 y2 y3 y4 y5 y6 y7 y8 y9 y10 y11 y12 y13 y14 y15 y16 y17 y18 y19 y20 y21) (spec_RuleText.j0 (k + 1) y0 y1 y2 y3 y4 y5 y6 y7 y8 y9 y10 y11 y12 y13 y14 y15 y16 y17 y18 y19 y20 y21))
 | 0 => fun _ _ _ _ _ _ _ _ _ _ _ _ _ _ _ _ _ _ _ _ _ _ r h => by simp [spec_RuleText.j0] at h
 | k + 1 => by
  have ih0 := spec_RuleText.mono_l k
  ·intro y0 y1 y2 y3 y4 y5 y6 y7 y8 y9 y10 y11 y12 y13 y14 y15 y16 y17 y18 y19 y20 y21
   unfold spec_RuleText.j0
   repeat' first
   | (with_reducible exact ih0 _ _ _ _ _ _ _ _ _ _ _ _ _ _ _ _ _ _ _ _ _ _)
   | (with_reducible exact spec_NumText.mono _ _)
   | (with_reducible exact spec_PrefixText.mono _ _ _ _ _ _ _)
   | (with_reducible exact spec_RuleOk.mono _ _ _ _ _ _ _ _ _ _ _ _ _ _ _ _ _ _ _ _ _ _)
   | (with_reducible exact LeO.refl _)
   | (with_reducible exact LeO.none _)
   | (with_reducible refine LeO.ite ?_ ?_)
   | (with_reducible refine LeO.bind ?_ (fun _ => ?_))
   | exact ih0 _ _ _ _ _ _ _ _ _ _ _ _ _ _ _ _ _ _ _ _ _ _
   | exact spec_NumText.mono _ _
   | exact spec_PrefixText.mono _ _ _ _ _ _ _
   | exact spec_RuleOk.mono _ _ _ _ _ _ _ _ _ _ _ _ _ _ _ _ _ _ _ _ _ _
   | exact LeO.none _
   | refine LeO.ite ?_ ?_
   | refine LeO.bind ?_ (fun _ => ?_)
theorem spec_RuleText.mono : ∀ a0 a1 a2 a3 a4 a5 a6 a7 a8 a9 a10 a11 a12 a13 a14 a15 a16 a17 a18 a19 a20 k, LeO (spec_RuleText.f k a0 a1 a2 a3 a4 a5 a6 a7 a8 a9 a10 a11 a12 a13 a14 a15 a16 a17 a18 a19 a20) (spec_RuleText.f (k + 1) a0 a1 a2 a3 a4 a5 a6 a7 a8 a9 a10 a11 a12 a13 a14 a15 a16 a17 a18 a19 a20) := by
 intro a0 a1 a2 a3 a4 a5 a6 a7 a8 a9 a10 a11 a12 a13 a14 a15 a16 a17 a18 a19 a20 k
 have ih0 := spec_RuleText.mono_l k
 unfold spec_RuleText.f
 repeat' first
   | (with_reducible exact ih0 _ _ _ _ _ _ _ _ _ _ _ _ _ _ _ _ _ _ _ _ _ _)
   | (with_reducible exact spec_NumText.mono _ _)
   | (with_reducible exact spec_PrefixText.mono _ _ _ _ _ _ _)
   | (with_reducible exact spec_RuleOk.mono _ _ _ _ _ _ _ _ _ _ _ _ _ _ _ _ _ _ _ _ _ _)
   | (with_reducible exact LeO.refl _)
   | (with_reducible exact LeO.none _)
   | (with_reducible refine LeO.ite ?_ ?_)
   | (with_reducible refine LeO.bind ?_ (fun _ => ?_))
   | exact ih0 _ _ _ _ _ _ _ _ _ _ _ _ _ _ _ _ _ _ _ _ _ _
   | exact spec_NumText.mono _ _
   | exact spec_PrefixText.mono _ _ _ _ _ _ _
   | exact spec_RuleOk.mono _ _ _ _ _ _ _ _ _ _ _ _ _ _ _ _ _ _ _ _ _ _
   | exact LeO.none _
   | refine LeO.ite ?_ ?_
   | refine LeO.bind ?_ (fun _ => ?_)
def spec_RuleText.T6 : Bool × List (List Nat × List Nat) := (true, [([], []), ([0], [0]), ([1], [1]), ([2], [2]), ([], []), ([4], [4]), ([5, 2], [5]), ([3, 6], [3, 6]), ([7], [7]), ([], []), ([9], [9]), ([10, 6], [10]), ([8, 11], [8, 11]), ([12], [12]), ([], []), ([13, 14], [13, 14]), ([15, 11, 0, 1, 2, 3, 4, 5, 6, 7, 8, 9, 10, 11, 12, 13, 14, 15], [15])])
def spec_RuleText.B6 : List Nat := [0, 1, 3, 7, 0, 16, 55, 127, 255, 0, 512, 1655, 4095, 8191, 0, 32767, 65535]
theorem spec_RuleText.tab6 : rtab .any (opsOf Tryd.f4 6) = spec_RuleText.T6 := by kernel_rfl
theorem spec_RuleText.bits6 : waitsOk spec_RuleText.T6.2 spec_RuleText.B6 = true := by kernel_rfl
def spec_RuleText.T7 : Bool × List (List Nat × List Nat) := (true, [([], []), ([0], [0]), ([], []), ([2], [2]), ([3], [3]), ([1, 4], [1, 4]), ([5], [5]), ([], []), ([7], [7]), ([8, 4], [8]), ([6, 9], [6, 9]), ([10], [10]), ([], []), ([12], [12]), ([13, 9], [13]), ([11, 14], [11, 14]), ([15], [15]), ([], []), ([17], [17]), ([18, 14], [18]), ([16, 19], [16, 19]), ([20, 19, 0, 1, 2, 3, 4, 5, 6, 7, 8, 9, 10, 11, 12, 13, 14, 15, 16, 17, 18, 19, 20], [0, 20])])
def spec_RuleText.B7 : List Nat := [0, 1, 0, 4, 12, 31, 63, 0, 128, 412, 1023, 2047, 0, 4096, 13212, 32767, 65535, 0, 131072, 422812, 1048575, 2097151]
theorem spec_RuleText.tab7 : rtab .any (opsOf Tryd.f4 7) = spec_RuleText.T7 := by kernel_rfl
theorem spec_RuleText.bits7 : waitsOk spec_RuleText.T7.2 spec_RuleText.B7 = true := by kernel_rfl
def spec_RuleText.T8 : Bool × List (List Nat × List Nat) := (true, [([], []), ([0], [0]), ([], []), ([2], [2]), ([3], [3]), ([1, 4], [1, 4]), ([5], [5]), ([], []), ([7], [7]), ([8, 4], [8]), ([6, 9], [6, 9]), ([10], [10]), ([], []), ([12], [12]), ([13, 9], [13]), ([11, 14], [11, 14]), ([15, 14, 0, 1, 2, 3, 4, 5, 6, 7, 8, 9, 10, 11, 12, 13, 14, 15], [15])])
def spec_RuleText.B8 : List Nat := [0, 1, 0, 4, 12, 31, 63, 0, 128, 412, 1023, 2047, 0, 4096, 13212, 32767, 65535]
theorem spec_RuleText.tab8 : rtab .any (opsOf Tryd.f4 8) = spec_RuleText.T8 := by kernel_rfl
theorem spec_RuleText.bits8 : waitsOk spec_RuleText.T8.2 spec_RuleText.B8 = true := by kernel_rfl
set_option maxHeartbeats 8000000 in
set_option maxRecDepth 100000 in
theorem spec_RuleText.calls (k : Nat) (a0_0 : Int) (a0_1 : Int) (a0_2 : Int) (a0_3 : Int) (a0_4 : Int) (a0_5 : Int) (a0_6 : Int) (a0_7 : Int) (a0_8 : Int) (a0_9 : Int) (a0_10 : Int) (a0_11 : Int) (a0_12 : Int) (a0_13 : Int) (a0_14 : Int) (a0_15 : Int) (a0_16 : Int) (a0_17 : Int) (a0_18 : Int) (a0_19 : Int) (a0_20 : Int) (r : ByteArray) (w : World) (h : spec_RuleText.f k a0_0 a0_1 a0_2 a0_3 a0_4 a0_5 a0_6 a0_7 a0_8 a0_9 a0_10 a0_11 a0_12 a0_13 a0_14 a0_15 a0_16 a0_17 a0_18 a0_19 a0_20 = some r) :
  Calls Tryd.prog 4 #[.agg #[.int .i64 a0_0, .int .i64 a0_1, .int .i64 a0_2, .int .i64 a0_3, .int .i64 a0_4, .int .i64 a0_5, .int .i64 a0_6, .int .i64 a0_7, .int .i64 a0_8, .int .i64 a0_9, .int .i64 a0_10, .int .i64 a0_11, .int .i64 a0_12, .int .i64 a0_13, .int .i64 a0_14, .int .i64 a0_15, .int .i64 a0_16, .int .i64 a0_17, .int .i64 a0_18, .int .i64 a0_19, .int .i64 a0_20]] w fun e w' => e = .returned (.string r) ∧ Below w.heap.size w w' := by
 have hu33 := Tryd.underlying33
 have hu31 := Tryd.underlying31
 have HB := Gv.a0 (Below.refl w.heap.size w)
 have H : ((spec_RuleOk.f k a0_0 a0_1 a0_2 a0_3 a0_4 a0_5 a0_6 a0_7 a0_8 a0_9 a0_10 a0_11 a0_12 a0_13 a0_14 a0_15 a0_16 a0_17 a0_18 a0_19 a0_20).bind fun t243 => (if t243 = true then (if a0_13 ≥ 0 then ((spec_NumText.f k a0_13).bind fun t244 => (spec_RuleText.j0 k t244 a0_0 a0_1 a0_2 a0_3 a0_4 a0_5 a0_6 a0_7 a0_8 a0_9 a0_10 a0_11 a0_12 a0_13 a0_14 a0_15 a0_16 a0_17 a0_18 a0_19 a0_20)) else (spec_RuleText.j0 k (⟨#[97, 110, 121]⟩ : ByteArray) a0_0 a0_1 a0_2 a0_3 a0_4 a0_5 a0_6 a0_7 a0_8 a0_9 a0_10 a0_11 a0_12 a0_13 a0_14 a0_15 a0_16 a0_17 a0_18 a0_19 a0_20)) else (some (⟨#[]⟩ : ByteArray)))) = some r := h
 clear h
 replace H := Option.bind_eq_some_iff.mp H
 obtain ⟨t243, A20, H⟩ := H
 replace H : (if t243 = true then (if a0_13 ≥ 0 then ((spec_NumText.f k a0_13).bind fun t244 => (spec_RuleText.j0 k t244 a0_0 a0_1 a0_2 a0_3 a0_4 a0_5 a0_6 a0_7 a0_8 a0_9 a0_10 a0_11 a0_12 a0_13 a0_14 a0_15 a0_16 a0_17 a0_18 a0_19 a0_20)) else (spec_RuleText.j0 k (⟨#[97, 110, 121]⟩ : ByteArray) a0_0 a0_1 a0_2 a0_3 a0_4 a0_5 a0_6 a0_7 a0_8 a0_9 a0_10 a0_11 a0_12 a0_13 a0_14 a0_15 a0_16 a0_17 a0_18 a0_19 a0_20)) else (some (⟨#[]⟩ : ByteArray))) = some r := H
 have A2 := Gv.a0 A20
 clear A20
 by_cases c3 : t243 = true
 ·subst c3
  have H1 : (if a0_13 ≥ 0 then ((spec_NumText.f k a0_13).bind fun t244 => (spec_RuleText.j0 k t244 a0_0 a0_1 a0_2 a0_3 a0_4 a0_5 a0_6 a0_7 a0_8 a0_9 a0_10 a0_11 a0_12 a0_13 a0_14 a0_15 a0_16 a0_17 a0_18 a0_19 a0_20)) else (spec_RuleText.j0 k (⟨#[97, 110, 121]⟩ : ByteArray) a0_0 a0_1 a0_2 a0_3 a0_4 a0_5 a0_6 a0_7 a0_8 a0_9 a0_10 a0_11 a0_12 a0_13 a0_14 a0_15 a0_16 a0_17 a0_18 a0_19 a0_20)) = some r := by rw [if_pos rfl] at H; exact H
  clear H
  have H := H1
  clear H1
  have HC4 := Gv.a0 H
  clear H
  go_enter Tryd.func4, Tryd.ntmps4
  go_upto_if 10 with (first | ((with_reducible refine gate_dst (N := 1) rfl ?_); refine box_event ?hg (N := 1) ?hd (cs := #[.int .i64 a0_0, .int .i64 a0_1, .int .i64 a0_2, .int .i64 a0_3, .int .i64 a0_4, .int .i64 a0_5, .int .i64 a0_6, .int .i64 a0_7, .int .i64 a0_8, .int .i64 a0_9, .int .i64 a0_10, .int .i64 a0_11, .int .i64 a0_12, .int .i64 a0_13, .int .i64 a0_14, .int .i64 a0_15, .int .i64 a0_16, .int .i64 a0_17, .int .i64 a0_18, .int .i64 a0_19, .int .i64 a0_20]) (t := 33) ?hr ?_; (case hd => rfl); (case hg => rfl); (case hr => first | (go_simp; done) | (go_simp; rfl)); intro gb242 hg w5 hbox hb; have n0_ := Gv.a0 (below_step Gv.bw hb); have n1_ := Gv.a0 (hbox); have n2_ := Gv.a0 ((Gv.ble hg Gv.bw : w.heap.size ≤ gb242)); have n3_ := Gv.a0 ((Gv.ble hg Gv.bw : w.heap.size ≤ gb242)); clear HB; have HB := n0_; have BK242 := n1_; have GW242 := n2_; have GE242 := n3_; clear n0_ n1_ n2_ n3_; clear hb hbox hg; obtain ⟨hcz6_0, hcz6_1, hcz6_2, hcz6_3, hcz6_4, hcz6_5, hcz6_6, hcz6_7, hcz6_8, hcz6_9, hcz6_10, hcz6_11, hcz6_12, hcz6_13, hcz6_14, hcz6_15, hcz6_16, hcz6_17, hcz6_18, hcz6_19, hcz6_20⟩ := Gv.c21 BK242.out) | ((with_reducible refine gate_store (t := 33) (p := 1) rfl ?_); refine Gv.store_event rfl rfl rfl rfl rfl (Gv.kb BK242.out) (by kernel_rfl) rfl (by simp; and_intros <;> rfl) ?_; intro w5s hbox hoth hbel; have n0_ := Gv.a0 (hbox); have n1_ := Gv.a0 (hbel w Gv.bw GE242.out); clear BK242 HB; have BK242 := n0_; have HB := n1_; clear n0_ n1_ hbox hoth hbel; (try clear hcz6_0 hcz6_1 hcz6_2 hcz6_3 hcz6_4 hcz6_5 hcz6_6 hcz6_7 hcz6_8 hcz6_9 hcz6_10 hcz6_11 hcz6_12 hcz6_13 hcz6_14 hcz6_15 hcz6_16 hcz6_17 hcz6_18 hcz6_19 hcz6_20); obtain ⟨hcz6_0, hcz6_1, hcz6_2, hcz6_3, hcz6_4, hcz6_5, hcz6_6, hcz6_7, hcz6_8, hcz6_9, hcz6_10, hcz6_11, hcz6_12, hcz6_13, hcz6_14, hcz6_15, hcz6_16, hcz6_17, hcz6_18, hcz6_19, hcz6_20⟩ := Gv.c21 BK242.out) | ((with_reducible refine gate_callee (f := 7) rfl ?_); refine goesL_ (some 6) rfl rfl Tryd.func7 (by kernel_rfl) rfl #[.agg #[.int .i64 a0_0, .int .i64 a0_1, .int .i64 a0_2, .int .i64 a0_3, .int .i64 a0_4, .int .i64 a0_5, .int .i64 a0_6, .int .i64 a0_7, .int .i64 a0_8, .int .i64 a0_9, .int .i64 a0_10, .int .i64 a0_11, .int .i64 a0_12, .int .i64 a0_13, .int .i64 a0_14, .int .i64 a0_15, .int .i64 a0_16, .int .i64 a0_17, .int .i64 a0_18, .int .i64 a0_19, .int .i64 a0_20]] rfl Gv.lm ?_; (with_reducible refine (spec_RuleOk.calls k a0_0 a0_1 a0_2 a0_3 a0_4 a0_5 a0_6 a0_7 a0_8 a0_9 a0_10 a0_11 a0_12 a0_13 a0_14 a0_15 a0_16 a0_17 a0_18 a0_19 a0_20 true _ A2.out).mono ?_); rintro e w7 ⟨rfl, hb⟩; refine ⟨_, rfl, ?_⟩; have n0_ := Gv.a0 (Gv.bb BK242.out hb); have n1_ := Gv.a0 (below_step Gv.bw hb); clear BK242; clear HB; have BK242 := n0_; have HB := n1_; clear n0_ n1_; (try clear hb); (try clear hb2); (try clear hk); (try clear hi); obtain ⟨hcz8_0, hcz8_1, hcz8_2, hcz8_3, hcz8_4, hcz8_5, hcz8_6, hcz8_7, hcz8_8, hcz8_9, hcz8_10, hcz8_11, hcz8_12, hcz8_13, hcz8_14, hcz8_15, hcz8_16, hcz8_17, hcz8_18, hcz8_19, hcz8_20⟩ := Gv.c21 BK242.out) | ((with_reducible refine Gv.gate_load (t := 33) rfl ?_); (try (refine gate_guard (by rfl) ?_; dsimp only)); refine wpList_load_row rfl 33 _ rfl gb242 rfl 33 _ _ _ (by first | exact Gv.kb0 BK242.out | exact Gv.kb1 (Gv.kb0 BK242.out)) Tryd.underlying33 rfl (by kernel_rfl) ?_))
  (try simp only [Act.put, List.setIfInBounds_toArray, List.set_cons_zero, List.set_cons_succ])
  go_cut [3] (fun v3 wc => ∃ (kq : Nat) (x3_3 : ByteArray), v3 = .string x3_3 ∧ Aside0 (spec_RuleText.j0 kq x3_3 a0_0 a0_1 a0_2 a0_3 a0_4 a0_5 a0_6 a0_7 a0_8 a0_9 a0_10 a0_11 a0_12 a0_13 a0_14 a0_15 a0_16 a0_17 a0_18 a0_19 a0_20 = some r) ∧ Aside0 (kq ≤ k) ∧ Aside0 (wc.heap[gb242]? = some (.cells #[.int .i64 a0_0, .int .i64 a0_1, .int .i64 a0_2, .int .i64 a0_3, .int .i64 a0_4, .int .i64 a0_5, .int .i64 a0_6, .int .i64 a0_7, .int .i64 a0_8, .int .i64 a0_9, .int .i64 a0_10, .int .i64 a0_11, .int .i64 a0_12, .int .i64 a0_13, .int .i64 a0_14, .int .i64 a0_15, .int .i64 a0_16, .int .i64 a0_17, .int .i64 a0_18, .int .i64 a0_19, .int .i64 a0_20] 33 (0, 0))) ∧ Aside0 (Below w.heap.size w wc))
  case first =>
   have H := HC4.out
   clear HC4
   by_cases c9 : a0_13 ≥ 0
   ·rw [if_pos c9] at H
    have c9b0 : decide (0 ≤ a0_13) = true := decide_eq_true c9
    clear c9
    (first | rw [c9b0] | (simp only [i64_w, i32_w]; rw [c9b0]) | skip)
    replace H := Option.bind_eq_some_iff.mp H
    obtain ⟨t244, A100, H⟩ := H
    replace H : (spec_RuleText.j0 k t244 a0_0 a0_1 a0_2 a0_3 a0_4 a0_5 a0_6 a0_7 a0_8 a0_9 a0_10 a0_11 a0_12 a0_13 a0_14 a0_15 a0_16 a0_17 a0_18 a0_19 a0_20) = some r := H
    have A10 := Gv.a0 A100
    clear A100
    have H' := Gv.a0 H
    clear H
    obtain ⟨hcz11_0, hcz11_1, hcz11_2, hcz11_3, hcz11_4, hcz11_5, hcz11_6, hcz11_7, hcz11_8, hcz11_9, hcz11_10, hcz11_11, hcz11_12, hcz11_13, hcz11_14, hcz11_15, hcz11_16, hcz11_17, hcz11_18, hcz11_19, hcz11_20⟩ := Gv.c21 BK242.out
    go_wp2_with (first | ((with_reducible refine gate_callee (f := 8) rfl ?_); refine goesL_ (some 13) rfl rfl Tryd.func8 (by kernel_rfl) rfl #[.int .i64 a0_13] rfl Gv.lm ?_; (with_reducible refine (spec_NumText.calls k a0_13 t244 _ A10.out).mono ?_); rintro e w12 ⟨rfl, hb⟩; refine ⟨_, rfl, ?_⟩; have n0_ := Gv.a0 (Gv.bb BK242.out hb); have n1_ := Gv.a0 (below_step Gv.bw hb); clear BK242; clear HB; have BK242 := n0_; have HB := n1_; clear n0_ n1_; (try clear hb); (try clear hb2); (try clear hk); (try clear hi)) | ((with_reducible refine Gv.gate_load (t := 33) rfl ?_); (try (refine gate_guard (by rfl) ?_; dsimp only)); refine wpList_load_row rfl 33 _ rfl gb242 rfl 33 _ _ _ (by first | exact Gv.kb0 BK242.out | exact Gv.kb1 (Gv.kb0 BK242.out)) Tryd.underlying33 rfl (by kernel_rfl) ?_))
    go_meet
    case rel => exact ⟨_, (t244), Gv.rq, H', ⟨by first | omega | exact Nat.le_refl _⟩, ⟨by (with_reducible repeat (first | refine blk_drewN ?_ _ | refine blk_drew ?_ | refine blk_alloc ?_ _)); exact BK242.out⟩, ⟨Gv.bw⟩⟩
   ·rw [if_neg c9] at H
    have c9b0 : decide (0 ≤ a0_13) = false := decide_eq_false c9
    clear c9
    (first | rw [c9b0] | (simp only [i64_w, i32_w]; rw [c9b0]) | skip)
    have H' := Gv.a0 H
    clear H
    go_wp2_with (first | ((with_reducible refine Gv.gate_load (t := 33) rfl ?_); (try (refine gate_guard (by rfl) ?_; dsimp only)); refine wpList_load_row rfl 33 _ rfl gb242 rfl 33 _ _ _ (by first | exact Gv.kb0 BK242.out | exact Gv.kb1 (Gv.kb0 BK242.out)) Tryd.underlying33 rfl (by kernel_rfl) ?_))
    go_meet
    case rel => exact ⟨_, ((⟨#[97, 110, 121]⟩ : ByteArray)), Gv.rq, H', ⟨by first | omega | exact Nat.le_refl _⟩, ⟨by (with_reducible repeat (first | refine blk_drewN ?_ _ | refine blk_drew ?_ | refine blk_alloc ?_ _)); exact BK242.out⟩, ⟨Gv.bw⟩⟩
  case rest =>
   clear HC4
   try clear p2
   try clear c3
   try clear c4
   try clear c7
   try clear c8
   try clear c9
   try clear c9b0
   try clear hcz11_0 hcz11_1
   try clear hcz11_10 hcz11_11 hcz11_12 hcz11_13 hcz11_14 hcz11_15 hcz11_16 hcz11_17 hcz11_18 hcz11_19
   try clear hcz11_2
   try clear hcz11_20
   try clear hcz11_3 hcz11_4 hcz11_5 hcz11_6 hcz11_7 hcz11_8 hcz11_9
   try clear hcz6_0 hcz6_1
   try clear hcz6_10 hcz6_11 hcz6_12 hcz6_13 hcz6_14 hcz6_15 hcz6_16 hcz6_17 hcz6_18 hcz6_19
   try clear hcz6_2
   try clear hcz6_20
   try clear hcz6_3 hcz6_4 hcz6_5 hcz6_6 hcz6_7 hcz6_8 hcz6_9
   try clear hcz8_0 hcz8_1
   try clear hcz8_10 hcz8_11 hcz8_12 hcz8_13 hcz8_14 hcz8_15 hcz8_16 hcz8_17 hcz8_18 hcz8_19
   try clear hcz8_2
   try clear hcz8_20
   try clear hcz8_3 hcz8_4 hcz8_5 hcz8_6 hcz8_7 hcz8_8 hcz8_9
   obtain ⟨kq, x3_3, rfl, HA, HJ3, BK242, HB⟩ := hcut
   cases kq with
   | zero => exact absurd HA.out (by simp [spec_RuleText.j0])
   | succ kj3 =>
    have H := HA.out
    clear HA
    simp only [spec_RuleText.j0] at H
    replace H := Option.bind_eq_some_iff.mp H
    obtain ⟨t245, A130, H⟩ := H
    replace H : (if t245.size + 6 ≤ 9223372036854775807 then ((spec_PrefixText.f kj3 a0_1 a0_2 a0_3 a0_4 a0_5 a0_6).bind fun t246 => (if (t245 ++ (⟨#[32, 102, 114, 111, 109, 32]⟩ : ByteArray)).size + t246.size ≤ 9223372036854775807 then (if ((t245 ++ (⟨#[32, 102, 114, 111, 109, 32]⟩ : ByteArray)) ++ t246).size + 4 ≤ 9223372036854775807 then ((spec_PrefixText.f kj3 a0_7 a0_8 a0_9 a0_10 a0_11 a0_12).bind fun t247 => (if (((t245 ++ (⟨#[32, 102, 114, 111, 109, 32]⟩ : ByteArray)) ++ t246) ++ (⟨#[32, 116, 111, 32]⟩ : ByteArray)).size + t247.size ≤ 9223372036854775807 then (if ((((t245 ++ (⟨#[32, 102, 114, 111, 109, 32]⟩ : ByteArray)) ++ t246) ++ (⟨#[32, 116, 111, 32]⟩ : ByteArray)) ++ t247).size + 7 ≤ 9223372036854775807 then (if (((((t245 ++ (⟨#[32, 102, 114, 111, 109, 32]⟩ : ByteArray)) ++ t246) ++ (⟨#[32, 116, 111, 32]⟩ : ByteArray)) ++ t247) ++ (⟨#[32, 112, 114, 111, 116, 111, 32]⟩ : ByteArray)).size + x3_3.size ≤ 9223372036854775807 then (if ((((((t245 ++ (⟨#[32, 102, 114, 111, 109, 32]⟩ : ByteArray)) ++ t246) ++ (⟨#[32, 116, 111, 32]⟩ : ByteArray)) ++ t247) ++ (⟨#[32, 112, 114, 111, 116, 111, 32]⟩ : ByteArray)) ++ x3_3).size + 7 ≤ 9223372036854775807 then ((spec_NumText.f kj3 a0_14).bind fun t248 => (if (((((((t245 ++ (⟨#[32, 102, 114, 111, 109, 32]⟩ : ByteArray)) ++ t246) ++ (⟨#[32, 116, 111, 32]⟩ : ByteArray)) ++ t247) ++ (⟨#[32, 112, 114, 111, 116, 111, 32]⟩ : ByteArray)) ++ x3_3) ++ (⟨#[32, 115, 112, 111, 114, 116, 32]⟩ : ByteArray)).size + t248.size ≤ 9223372036854775807 then (if ((((((((t245 ++ (⟨#[32, 102, 114, 111, 109, 32]⟩ : ByteArray)) ++ t246) ++ (⟨#[32, 116, 111, 32]⟩ : ByteArray)) ++ t247) ++ (⟨#[32, 112, 114, 111, 116, 111, 32]⟩ : ByteArray)) ++ x3_3) ++ (⟨#[32, 115, 112, 111, 114, 116, 32]⟩ : ByteArray)) ++ t248).size + 1 ≤ 9223372036854775807 then ((spec_NumText.f kj3 a0_15).bind fun t249 => (if (((((((((t245 ++ (⟨#[32, 102, 114, 111, 109, 32]⟩ : ByteArray)) ++ t246) ++ (⟨#[32, 116, 111, 32]⟩ : ByteArray)) ++ t247) ++ (⟨#[32, 112, 114, 111, 116, 111, 32]⟩ : ByteArray)) ++ x3_3) ++ (⟨#[32, 115, 112, 111, 114, 116, 32]⟩ : ByteArray)) ++ t248) ++ (⟨#[45]⟩ : ByteArray)).size + t249.size ≤ 9223372036854775807 then (if ((((((((((t245 ++ (⟨#[32, 102, 114, 111, 109, 32]⟩ : ByteArray)) ++ t246) ++ (⟨#[32, 116, 111, 32]⟩ : ByteArray)) ++ t247) ++ (⟨#[32, 112, 114, 111, 116, 111, 32]⟩ : ByteArray)) ++ x3_3) ++ (⟨#[32, 115, 112, 111, 114, 116, 32]⟩ : ByteArray)) ++ t248) ++ (⟨#[45]⟩ : ByteArray)) ++ t249).size + 7 ≤ 9223372036854775807 then ((spec_NumText.f kj3 a0_16).bind fun t250 => (if (((((((((((t245 ++ (⟨#[32, 102, 114, 111, 109, 32]⟩ : ByteArray)) ++ t246) ++ (⟨#[32, 116, 111, 32]⟩ : ByteArray)) ++ t247) ++ (⟨#[32, 112, 114, 111, 116, 111, 32]⟩ : ByteArray)) ++ x3_3) ++ (⟨#[32, 115, 112, 111, 114, 116, 32]⟩ : ByteArray)) ++ t248) ++ (⟨#[45]⟩ : ByteArray)) ++ t249) ++ (⟨#[32, 100, 112, 111, 114, 116, 32]⟩ : ByteArray)).size + t250.size ≤ 9223372036854775807 then (if ((((((((((((t245 ++ (⟨#[32, 102, 114, 111, 109, 32]⟩ : ByteArray)) ++ t246) ++ (⟨#[32, 116, 111, 32]⟩ : ByteArray)) ++ t247) ++ (⟨#[32, 112, 114, 111, 116, 111, 32]⟩ : ByteArray)) ++ x3_3) ++ (⟨#[32, 115, 112, 111, 114, 116, 32]⟩ : ByteArray)) ++ t248) ++ (⟨#[45]⟩ : ByteArray)) ++ t249) ++ (⟨#[32, 100, 112, 111, 114, 116, 32]⟩ : ByteArray)) ++ t250).size + 1 ≤ 9223372036854775807 then ((spec_NumText.f kj3 a0_17).bind fun t251 => (if (((((((((((((t245 ++ (⟨#[32, 102, 114, 111, 109, 32]⟩ : ByteArray)) ++ t246) ++ (⟨#[32, 116, 111, 32]⟩ : ByteArray)) ++ t247) ++ (⟨#[32, 112, 114, 111, 116, 111, 32]⟩ : ByteArray)) ++ x3_3) ++ (⟨#[32, 115, 112, 111, 114, 116, 32]⟩ : ByteArray)) ++ t248) ++ (⟨#[45]⟩ : ByteArray)) ++ t249) ++ (⟨#[32, 100, 112, 111, 114, 116, 32]⟩ : ByteArray)) ++ t250) ++ (⟨#[45]⟩ : ByteArray)).size + t251.size ≤ 9223372036854775807 then (if ((((((((((((((t245 ++ (⟨#[32, 102, 114, 111, 109, 32]⟩ : ByteArray)) ++ t246) ++ (⟨#[32, 116, 111, 32]⟩ : ByteArray)) ++ t247) ++ (⟨#[32, 112, 114, 111, 116, 111, 32]⟩ : ByteArray)) ++ x3_3) ++ (⟨#[32, 115, 112, 111, 114, 116, 32]⟩ : ByteArray)) ++ t248) ++ (⟨#[45]⟩ : ByteArray)) ++ t249) ++ (⟨#[32, 100, 112, 111, 114, 116, 32]⟩ : ByteArray)) ++ t250) ++ (⟨#[45]⟩ : ByteArray)) ++ t251).size + 8 ≤ 9223372036854775807 then ((spec_NumText.f kj3 a0_18).bind fun t252 => (if (((((((((((((((t245 ++ (⟨#[32, 102, 114, 111, 109, 32]⟩ : ByteArray)) ++ t246) ++ (⟨#[32, 116, 111, 32]⟩ : ByteArray)) ++ t247) ++ (⟨#[32, 112, 114, 111, 116, 111, 32]⟩ : ByteArray)) ++ x3_3) ++ (⟨#[32, 115, 112, 111, 114, 116, 32]⟩ : ByteArray)) ++ t248) ++ (⟨#[45]⟩ : ByteArray)) ++ t249) ++ (⟨#[32, 100, 112, 111, 114, 116, 32]⟩ : ByteArray)) ++ t250) ++ (⟨#[45]⟩ : ByteArray)) ++ t251) ++ (⟨#[32, 116, 101, 110, 97, 110, 116, 32]⟩ : ByteArray)).size + t252.size ≤ 9223372036854775807 then (if ((((((((((((((((t245 ++ (⟨#[32, 102, 114, 111, 109, 32]⟩ : ByteArray)) ++ t246) ++ (⟨#[32, 116, 111, 32]⟩ : ByteArray)) ++ t247) ++ (⟨#[32, 112, 114, 111, 116, 111, 32]⟩ : ByteArray)) ++ x3_3) ++ (⟨#[32, 115, 112, 111, 114, 116, 32]⟩ : ByteArray)) ++ t248) ++ (⟨#[45]⟩ : ByteArray)) ++ t249) ++ (⟨#[32, 100, 112, 111, 114, 116, 32]⟩ : ByteArray)) ++ t250) ++ (⟨#[45]⟩ : ByteArray)) ++ t251) ++ (⟨#[32, 116, 101, 110, 97, 110, 116, 32]⟩ : ByteArray)) ++ t252).size + 8 ≤ 9223372036854775807 then ((spec_NumText.f kj3 a0_19).bind fun t253 => (if (((((((((((((((((t245 ++ (⟨#[32, 102, 114, 111, 109, 32]⟩ : ByteArray)) ++ t246) ++ (⟨#[32, 116, 111, 32]⟩ : ByteArray)) ++ t247) ++ (⟨#[32, 112, 114, 111, 116, 111, 32]⟩ : ByteArray)) ++ x3_3) ++ (⟨#[32, 115, 112, 111, 114, 116, 32]⟩ : ByteArray)) ++ t248) ++ (⟨#[45]⟩ : ByteArray)) ++ t249) ++ (⟨#[32, 100, 112, 111, 114, 116, 32]⟩ : ByteArray)) ++ t250) ++ (⟨#[45]⟩ : ByteArray)) ++ t251) ++ (⟨#[32, 116, 101, 110, 97, 110, 116, 32]⟩ : ByteArray)) ++ t252) ++ (⟨#[32, 119, 101, 105, 103, 104, 116, 32]⟩ : ByteArray)).size + t253.size ≤ 9223372036854775807 then (if ((((((((((((((((((t245 ++ (⟨#[32, 102, 114, 111, 109, 32]⟩ : ByteArray)) ++ t246) ++ (⟨#[32, 116, 111, 32]⟩ : ByteArray)) ++ t247) ++ (⟨#[32, 112, 114, 111, 116, 111, 32]⟩ : ByteArray)) ++ x3_3) ++ (⟨#[32, 115, 112, 111, 114, 116, 32]⟩ : ByteArray)) ++ t248) ++ (⟨#[45]⟩ : ByteArray)) ++ t249) ++ (⟨#[32, 100, 112, 111, 114, 116, 32]⟩ : ByteArray)) ++ t250) ++ (⟨#[45]⟩ : ByteArray)) ++ t251) ++ (⟨#[32, 116, 101, 110, 97, 110, 116, 32]⟩ : ByteArray)) ++ t252) ++ (⟨#[32, 119, 101, 105, 103, 104, 116, 32]⟩ : ByteArray)) ++ t253).size + 7 ≤ 9223372036854775807 then ((spec_NumText.f kj3 a0_20).bind fun t254 => (if (((((((((((((((((((t245 ++ (⟨#[32, 102, 114, 111, 109, 32]⟩ : ByteArray)) ++ t246) ++ (⟨#[32, 116, 111, 32]⟩ : ByteArray)) ++ t247) ++ (⟨#[32, 112, 114, 111, 116, 111, 32]⟩ : ByteArray)) ++ x3_3) ++ (⟨#[32, 115, 112, 111, 114, 116, 32]⟩ : ByteArray)) ++ t248) ++ (⟨#[45]⟩ : ByteArray)) ++ t249) ++ (⟨#[32, 100, 112, 111, 114, 116, 32]⟩ : ByteArray)) ++ t250) ++ (⟨#[45]⟩ : ByteArray)) ++ t251) ++ (⟨#[32, 116, 101, 110, 97, 110, 116, 32]⟩ : ByteArray)) ++ t252) ++ (⟨#[32, 119, 101, 105, 103, 104, 116, 32]⟩ : ByteArray)) ++ t253) ++ (⟨#[32, 99, 104, 97, 105, 110, 32]⟩ : ByteArray)).size + t254.size ≤ 9223372036854775807 then (some ((((((((((((((((((((t245 ++ (⟨#[32, 102, 114, 111, 109, 32]⟩ : ByteArray)) ++ t246) ++ (⟨#[32, 116, 111, 32]⟩ : ByteArray)) ++ t247) ++ (⟨#[32, 112, 114, 111, 116, 111, 32]⟩ : ByteArray)) ++ x3_3) ++ (⟨#[32, 115, 112, 111, 114, 116, 32]⟩ : ByteArray)) ++ t248) ++ (⟨#[45]⟩ : ByteArray)) ++ t249) ++ (⟨#[32, 100, 112, 111, 114, 116, 32]⟩ : ByteArray)) ++ t250) ++ (⟨#[45]⟩ : ByteArray)) ++ t251) ++ (⟨#[32, 116, 101, 110, 97, 110, 116, 32]⟩ : ByteArray)) ++ t252) ++ (⟨#[32, 119, 101, 105, 103, 104, 116, 32]⟩ : ByteArray)) ++ t253) ++ (⟨#[32, 99, 104, 97, 105, 110, 32]⟩ : ByteArray)) ++ t254)) else (none))) else (none)) else (none))) else (none)) else (none))) else (none)) else (none))) else (none)) else (none))) else (none)) else (none))) else (none)) else (none))) else (none)) else (none)) else (none)) else (none))) else (none)) else (none))) else (none)) = some r := H
    have A13 := Gv.a0 A130
    clear A130
    by_cases c14 : t245.size + 6 ≤ 9223372036854775807
    ·rw [if_pos c14] at H
     have c14b0 := eq_true c14
     have c14b1 : decide (t245.size + 6 ≤ 9223372036854775807) = true := decide_eq_true c14
     try have c14b2 : (9223372036854775807 < t245.size + 6) = False := eq_false (Nat.not_lt.2 c14)
     replace H := Option.bind_eq_some_iff.mp H
     obtain ⟨t246, A150, H⟩ := H
     replace H : (if (t245 ++ (⟨#[32, 102, 114, 111, 109, 32]⟩ : ByteArray)).size + t246.size ≤ 9223372036854775807 then (if ((t245 ++ (⟨#[32, 102, 114, 111, 109, 32]⟩ : ByteArray)) ++ t246).size + 4 ≤ 9223372036854775807 then ((spec_PrefixText.f kj3 a0_7 a0_8 a0_9 a0_10 a0_11 a0_12).bind fun t247 => (if (((t245 ++ (⟨#[32, 102, 114, 111, 109, 32]⟩ : ByteArray)) ++ t246) ++ (⟨#[32, 116, 111, 32]⟩ : ByteArray)).size + t247.size ≤ 9223372036854775807 then (if ((((t245 ++ (⟨#[32, 102, 114, 111, 109, 32]⟩ : ByteArray)) ++ t246) ++ (⟨#[32, 116, 111, 32]⟩ : ByteArray)) ++ t247).size + 7 ≤ 9223372036854775807 then (if (((((t245 ++ (⟨#[32, 102, 114, 111, 109, 32]⟩ : ByteArray)) ++ t246) ++ (⟨#[32, 116, 111, 32]⟩ : ByteArray)) ++ t247) ++ (⟨#[32, 112, 114, 111, 116, 111, 32]⟩ : ByteArray)).size + x3_3.size ≤ 9223372036854775807 then (if ((((((t245 ++ (⟨#[32, 102, 114, 111, 109, 32]⟩ : ByteArray)) ++ t246) ++ (⟨#[32, 116, 111, 32]⟩ : ByteArray)) ++ t247) ++ (⟨#[32, 112, 114, 111, 116, 111, 32]⟩ : ByteArray)) ++ x3_3).size + 7 ≤ 9223372036854775807 then ((spec_NumText.f kj3 a0_14).bind fun t248 => (if (((((((t245 ++ (⟨#[32, 102, 114, 111, 109, 32]⟩ : ByteArray)) ++ t246) ++ (⟨#[32, 116, 111, 32]⟩ : ByteArray)) ++ t247) ++ (⟨#[32, 112, 114, 111, 116, 111, 32]⟩ : ByteArray)) ++ x3_3) ++ (⟨#[32, 115, 112, 111, 114, 116, 32]⟩ : ByteArray)).size + t248.size ≤ 9223372036854775807 then (if ((((((((t245 ++ (⟨#[32, 102, 114, 111, 109, 32]⟩ : ByteArray)) ++ t246) ++ (⟨#[32, 116, 111, 32]⟩ : ByteArray)) ++ t247) ++ (⟨#[32, 112, 114, 111, 116, 111, 32]⟩ : ByteArray)) ++ x3_3) ++ (⟨#[32, 115, 112, 111, 114, 116, 32]⟩ : ByteArray)) ++ t248).size + 1 ≤ 9223372036854775807 then ((spec_NumText.f kj3 a0_15).bind fun t249 => (if (((((((((t245 ++ (⟨#[32, 102, 114, 111, 109, 32]⟩ : ByteArray)) ++ t246) ++ (⟨#[32, 116, 111, 32]⟩ : ByteArray)) ++ t247) ++ (⟨#[32, 112, 114, 111, 116, 111, 32]⟩ : ByteArray)) ++ x3_3) ++ (⟨#[32, 115, 112, 111, 114, 116, 32]⟩ : ByteArray)) ++ t248) ++ (⟨#[45]⟩ : ByteArray)).size + t249.size ≤ 9223372036854775807 then (if ((((((((((t245 ++ (⟨#[32, 102, 114, 111, 109, 32]⟩ : ByteArray)) ++ t246) ++ (⟨#[32, 116, 111, 32]⟩ : ByteArray)) ++ t247) ++ (⟨#[32, 112, 114, 111, 116, 111, 32]⟩ : ByteArray)) ++ x3_3) ++ (⟨#[32, 115, 112, 111, 114, 116, 32]⟩ : ByteArray)) ++ t248) ++ (⟨#[45]⟩ : ByteArray)) ++ t249).size + 7 ≤ 9223372036854775807 then ((spec_NumText.f kj3 a0_16).bind fun t250 => (if (((((((((((t245 ++ (⟨#[32, 102, 114, 111, 109, 32]⟩ : ByteArray)) ++ t246) ++ (⟨#[32, 116, 111, 32]⟩ : ByteArray)) ++ t247) ++ (⟨#[32, 112, 114, 111, 116, 111, 32]⟩ : ByteArray)) ++ x3_3) ++ (⟨#[32, 115, 112, 111, 114, 116, 32]⟩ : ByteArray)) ++ t248) ++ (⟨#[45]⟩ : ByteArray)) ++ t249) ++ (⟨#[32, 100, 112, 111, 114, 116, 32]⟩ : ByteArray)).size + t250.size ≤ 9223372036854775807 then (if ((((((((((((t245 ++ (⟨#[32, 102, 114, 111, 109, 32]⟩ : ByteArray)) ++ t246) ++ (⟨#[32, 116, 111, 32]⟩ : ByteArray)) ++ t247) ++ (⟨#[32, 112, 114, 111, 116, 111, 32]⟩ : ByteArray)) ++ x3_3) ++ (⟨#[32, 115, 112, 111, 114, 116, 32]⟩ : ByteArray)) ++ t248) ++ (⟨#[45]⟩ : ByteArray)) ++ t249) ++ (⟨#[32, 100, 112, 111, 114, 116, 32]⟩ : ByteArray)) ++ t250).size + 1 ≤ 9223372036854775807 then ((spec_NumText.f kj3 a0_17).bind fun t251 => (if (((((((((((((t245 ++ (⟨#[32, 102, 114, 111, 109, 32]⟩ : ByteArray)) ++ t246) ++ (⟨#[32, 116, 111, 32]⟩ : ByteArray)) ++ t247) ++ (⟨#[32, 112, 114, 111, 116, 111, 32]⟩ : ByteArray)) ++ x3_3) ++ (⟨#[32, 115, 112, 111, 114, 116, 32]⟩ : ByteArray)) ++ t248) ++ (⟨#[45]⟩ : ByteArray)) ++ t249) ++ (⟨#[32, 100, 112, 111, 114, 116, 32]⟩ : ByteArray)) ++ t250) ++ (⟨#[45]⟩ : ByteArray)).size + t251.size ≤ 9223372036854775807 then (if ((((((((((((((t245 ++ (⟨#[32, 102, 114, 111, 109, 32]⟩ : ByteArray)) ++ t246) ++ (⟨#[32, 116, 111, 32]⟩ : ByteArray)) ++ t247) ++ (⟨#[32, 112, 114, 111, 116, 111, 32]⟩ : ByteArray)) ++ x3_3) ++ (⟨#[32, 115, 112, 111, 114, 116, 32]⟩ : ByteArray)) ++ t248) ++ (⟨#[45]⟩ : ByteArray)) ++ t249) ++ (⟨#[32, 100, 112, 111, 114, 116, 32]⟩ : ByteArray)) ++ t250) ++ (⟨#[45]⟩ : ByteArray)) ++ t251).size + 8 ≤ 9223372036854775807 then ((spec_NumText.f kj3 a0_18).bind fun t252 => (if (((((((((((((((t245 ++ (⟨#[32, 102, 114, 111, 109, 32]⟩ : ByteArray)) ++ t246) ++ (⟨#[32, 116, 111, 32]⟩ : ByteArray)) ++ t247) ++ (⟨#[32, 112, 114, 111, 116, 111, 32]⟩ : ByteArray)) ++ x3_3) ++ (⟨#[32, 115, 112, 111, 114, 116, 32]⟩ : ByteArray)) ++ t248) ++ (⟨#[45]⟩ : ByteArray)) ++ t249) ++ (⟨#[32, 100, 112, 111, 114, 116, 32]⟩ : ByteArray)) ++ t250) ++ (⟨#[45]⟩ : ByteArray)) ++ t251) ++ (⟨#[32, 116, 101, 110, 97, 110, 116, 32]⟩ : ByteArray)).size + t252.size ≤ 9223372036854775807 then (if ((((((((((((((((t245 ++ (⟨#[32, 102, 114, 111, 109, 32]⟩ : ByteArray)) ++ t246) ++ (⟨#[32, 116, 111, 32]⟩ : ByteArray)) ++ t247) ++ (⟨#[32, 112, 114, 111, 116, 111, 32]⟩ : ByteArray)) ++ x3_3) ++ (⟨#[32, 115, 112, 111, 114, 116, 32]⟩ : ByteArray)) ++ t248) ++ (⟨#[45]⟩ : ByteArray)) ++ t249) ++ (⟨#[32, 100, 112, 111, 114, 116, 32]⟩ : ByteArray)) ++ t250) ++ (⟨#[45]⟩ : ByteArray)) ++ t251) ++ (⟨#[32, 116, 101, 110, 97, 110, 116, 32]⟩ : ByteArray)) ++ t252).size + 8 ≤ 9223372036854775807 then ((spec_NumText.f kj3 a0_19).bind fun t253 => (if (((((((((((((((((t245 ++ (⟨#[32, 102, 114, 111, 109, 32]⟩ : ByteArray)) ++ t246) ++ (⟨#[32, 116, 111, 32]⟩ : ByteArray)) ++ t247) ++ (⟨#[32, 112, 114, 111, 116, 111, 32]⟩ : ByteArray)) ++ x3_3) ++ (⟨#[32, 115, 112, 111, 114, 116, 32]⟩ : ByteArray)) ++ t248) ++ (⟨#[45]⟩ : ByteArray)) ++ t249) ++ (⟨#[32, 100, 112, 111, 114, 116, 32]⟩ : ByteArray)) ++ t250) ++ (⟨#[45]⟩ : ByteArray)) ++ t251) ++ (⟨#[32, 116, 101, 110, 97, 110, 116, 32]⟩ : ByteArray)) ++ t252) ++ (⟨#[32, 119, 101, 105, 103, 104, 116, 32]⟩ : ByteArray)).size + t253.size ≤ 9223372036854775807 then (if ((((((((((((((((((t245 ++ (⟨#[32, 102, 114, 111, 109, 32]⟩ : ByteArray)) ++ t246) ++ (⟨#[32, 116, 111, 32]⟩ : ByteArray)) ++ t247) ++ (⟨#[32, 112, 114, 111, 116, 111, 32]⟩ : ByteArray)) ++ x3_3) ++ (⟨#[32, 115, 112, 111, 114, 116, 32]⟩ : ByteArray)) ++ t248) ++ (⟨#[45]⟩ : ByteArray)) ++ t249) ++ (⟨#[32, 100, 112, 111, 114, 116, 32]⟩ : ByteArray)) ++ t250) ++ (⟨#[45]⟩ : ByteArray)) ++ t251) ++ (⟨#[32, 116, 101, 110, 97, 110, 116, 32]⟩ : ByteArray)) ++ t252) ++ (⟨#[32, 119, 101, 105, 103, 104, 116, 32]⟩ : ByteArray)) ++ t253).size + 7 ≤ 9223372036854775807 then ((spec_NumText.f kj3 a0_20).bind fun t254 => (if (((((((((((((((((((t245 ++ (⟨#[32, 102, 114, 111, 109, 32]⟩ : ByteArray)) ++ t246) ++ (⟨#[32, 116, 111, 32]⟩ : ByteArray)) ++ t247) ++ (⟨#[32, 112, 114, 111, 116, 111, 32]⟩ : ByteArray)) ++ x3_3) ++ (⟨#[32, 115, 112, 111, 114, 116, 32]⟩ : ByteArray)) ++ t248) ++ (⟨#[45]⟩ : ByteArray)) ++ t249) ++ (⟨#[32, 100, 112, 111, 114, 116, 32]⟩ : ByteArray)) ++ t250) ++ (⟨#[45]⟩ : ByteArray)) ++ t251) ++ (⟨#[32, 116, 101, 110, 97, 110, 116, 32]⟩ : ByteArray)) ++ t252) ++ (⟨#[32, 119, 101, 105, 103, 104, 116, 32]⟩ : ByteArray)) ++ t253) ++ (⟨#[32, 99, 104, 97, 105, 110, 32]⟩ : ByteArray)).size + t254.size ≤ 9223372036854775807 then (some ((((((((((((((((((((t245 ++ (⟨#[32, 102, 114, 111, 109, 32]⟩ : ByteArray)) ++ t246) ++ (⟨#[32, 116, 111, 32]⟩ : ByteArray)) ++ t247) ++ (⟨#[32, 112, 114, 111, 116, 111, 32]⟩ : ByteArray)) ++ x3_3) ++ (⟨#[32, 115, 112, 111, 114, 116, 32]⟩ : ByteArray)) ++ t248) ++ (⟨#[45]⟩ : ByteArray)) ++ t249) ++ (⟨#[32, 100, 112, 111, 114, 116, 32]⟩ : ByteArray)) ++ t250) ++ (⟨#[45]⟩ : ByteArray)) ++ t251) ++ (⟨#[32, 116, 101, 110, 97, 110, 116, 32]⟩ : ByteArray)) ++ t252) ++ (⟨#[32, 119, 101, 105, 103, 104, 116, 32]⟩ : ByteArray)) ++ t253) ++ (⟨#[32, 99, 104, 97, 105, 110, 32]⟩ : ByteArray)) ++ t254)) else (none))) else (none)) else (none))) else (none)) else (none))) else (none)) else (none))) else (none)) else (none))) else (none)) else (none))) else (none)) else (none))) else (none)) else (none)) else (none)) else (none))) else (none)) else (none)) = some r := H
     have A15 := Gv.a0 A150
     clear A150
     by_cases c16 : (t245 ++ (⟨#[32, 102, 114, 111, 109, 32]⟩ : ByteArray)).size + t246.size ≤ 9223372036854775807
     ·rw [if_pos c16] at H
      have c16b0 := eq_true c16
      have c16b1 : decide ((t245 ++ (⟨#[32, 102, 114, 111, 109, 32]⟩ : ByteArray)).size + t246.size ≤ 9223372036854775807) = true := decide_eq_true c16
      have c16s : t245.size + 6 + t246.size ≤ 9223372036854775807 := (by have h_ := c16; simp only [ByteArray.size_append] at h_; exact h_)
      have c16b3 := eq_true c16s
      have c16b4 : decide (t245.size + 6 + t246.size ≤ 9223372036854775807) = true := decide_eq_true c16s
      have c16b5 : (9223372036854775807 < t245.size + 6 + t246.size) = False := eq_false (Nat.not_lt.2 c16s)
      clear c16s
      try have c16b2 : (9223372036854775807 < (t245 ++ (⟨#[32, 102, 114, 111, 109, 32]⟩ : ByteArray)).size + t246.size) = False := eq_false (Nat.not_lt.2 c16)
      by_cases c17 : ((t245 ++ (⟨#[32, 102, 114, 111, 109, 32]⟩ : ByteArray)) ++ t246).size + 4 ≤ 9223372036854775807
      ·rw [if_pos c17] at H
       have c17b0 := eq_true c17
       have c17b1 : decide (((t245 ++ (⟨#[32, 102, 114, 111, 109, 32]⟩ : ByteArray)) ++ t246).size + 4 ≤ 9223372036854775807) = true := decide_eq_true c17
       have c17s : t245.size + 6 + t246.size + 4 ≤ 9223372036854775807 := (by have h_ := c17; simp only [ByteArray.size_append] at h_; exact h_)
       have c17b3 := eq_true c17s
       have c17b4 : decide (t245.size + 6 + t246.size + 4 ≤ 9223372036854775807) = true := decide_eq_true c17s
       have c17b5 : (9223372036854775807 < t245.size + 6 + t246.size + 4) = False := eq_false (Nat.not_lt.2 c17s)
       clear c17s
       try have c17b2 : (9223372036854775807 < ((t245 ++ (⟨#[32, 102, 114, 111, 109, 32]⟩ : ByteArray)) ++ t246).size + 4) = False := eq_false (Nat.not_lt.2 c17)
       replace H := Option.bind_eq_some_iff.mp H
       obtain ⟨t247, A180, H⟩ := H
       replace H : (if (((t245 ++ (⟨#[32, 102, 114, 111, 109, 32]⟩ : ByteArray)) ++ t246) ++ (⟨#[32, 116, 111, 32]⟩ : ByteArray)).size + t247.size ≤ 9223372036854775807 then (if ((((t245 ++ (⟨#[32, 102, 114, 111, 109, 32]⟩ : ByteArray)) ++ t246) ++ (⟨#[32, 116, 111, 32]⟩ : ByteArray)) ++ t247).size + 7 ≤ 9223372036854775807 then (if (((((t245 ++ (⟨#[32, 102, 114, 111, 109, 32]⟩ : ByteArray)) ++ t246) ++ (⟨#[32, 116, 111, 32]⟩ : ByteArray)) ++ t247) ++ (⟨#[32, 112, 114, 111, 116, 111, 32]⟩ : ByteArray)).size + x3_3.size ≤ 9223372036854775807 then (if ((((((t245 ++ (⟨#[32, 102, 114, 111, 109, 32]⟩ : ByteArray)) ++ t246) ++ (⟨#[32, 116, 111, 32]⟩ : ByteArray)) ++ t247) ++ (⟨#[32, 112, 114, 111, 116, 111, 32]⟩ : ByteArray)) ++ x3_3).size + 7 ≤ 9223372036854775807 then ((spec_NumText.f kj3 a0_14).bind fun t248 => (if (((((((t245 ++ (⟨#[32, 102, 114, 111, 109, 32]⟩ : ByteArray)) ++ t246) ++ (⟨#[32, 116, 111, 32]⟩ : ByteArray)) ++ t247) ++ (⟨#[32, 112, 114, 111, 116, 111, 32]⟩ : ByteArray)) ++ x3_3) ++ (⟨#[32, 115, 112, 111, 114, 116, 32]⟩ : ByteArray)).size + t248.size ≤ 9223372036854775807 then (if ((((((((t245 ++ (⟨#[32, 102, 114, 111, 109, 32]⟩ : ByteArray)) ++ t246) ++ (⟨#[32, 116, 111, 32]⟩ : ByteArray)) ++ t247) ++ (⟨#[32, 112, 114, 111, 116, 111, 32]⟩ : ByteArray)) ++ x3_3) ++ (⟨#[32, 115, 112, 111, 114, 116, 32]⟩ : ByteArray)) ++ t248).size + 1 ≤ 9223372036854775807 then ((spec_NumText.f kj3 a0_15).bind fun t249 => (if (((((((((t245 ++ (⟨#[32, 102, 114, 111, 109, 32]⟩ : ByteArray)) ++ t246) ++ (⟨#[32, 116, 111, 32]⟩ : ByteArray)) ++ t247) ++ (⟨#[32, 112, 114, 111, 116, 111, 32]⟩ : ByteArray)) ++ x3_3) ++ (⟨#[32, 115, 112, 111, 114, 116, 32]⟩ : ByteArray)) ++ t248) ++ (⟨#[45]⟩ : ByteArray)).size + t249.size ≤ 9223372036854775807 then (if ((((((((((t245 ++ (⟨#[32, 102, 114, 111, 109, 32]⟩ : ByteArray)) ++ t246) ++ (⟨#[32, 116, 111, 32]⟩ : ByteArray)) ++ t247) ++ (⟨#[32, 112, 114, 111, 116, 111, 32]⟩ : ByteArray)) ++ x3_3) ++ (⟨#[32, 115, 112, 111, 114, 116, 32]⟩ : ByteArray)) ++ t248) ++ (⟨#[45]⟩ : ByteArray)) ++ t249).size + 7 ≤ 9223372036854775807 then ((spec_NumText.f kj3 a0_16).bind fun t250 => (if (((((((((((t245 ++ (⟨#[32, 102, 114, 111, 109, 32]⟩ : ByteArray)) ++ t246) ++ (⟨#[32, 116, 111, 32]⟩ : ByteArray)) ++ t247) ++ (⟨#[32, 112, 114, 111, 116, 111, 32]⟩ : ByteArray)) ++ x3_3) ++ (⟨#[32, 115, 112, 111, 114, 116, 32]⟩ : ByteArray)) ++ t248) ++ (⟨#[45]⟩ : ByteArray)) ++ t249) ++ (⟨#[32, 100, 112, 111, 114, 116, 32]⟩ : ByteArray)).size + t250.size ≤ 9223372036854775807 then (if ((((((((((((t245 ++ (⟨#[32, 102, 114, 111, 109, 32]⟩ : ByteArray)) ++ t246) ++ (⟨#[32, 116, 111, 32]⟩ : ByteArray)) ++ t247) ++ (⟨#[32, 112, 114, 111, 116, 111, 32]⟩ : ByteArray)) ++ x3_3) ++ (⟨#[32, 115, 112, 111, 114, 116, 32]⟩ : ByteArray)) ++ t248) ++ (⟨#[45]⟩ : ByteArray)) ++ t249) ++ (⟨#[32, 100, 112, 111, 114, 116, 32]⟩ : ByteArray)) ++ t250).size + 1 ≤ 9223372036854775807 then ((spec_NumText.f kj3 a0_17).bind fun t251 => (if (((((((((((((t245 ++ (⟨#[32, 102, 114, 111, 109, 32]⟩ : ByteArray)) ++ t246) ++ (⟨#[32, 116, 111, 32]⟩ : ByteArray)) ++ t247) ++ (⟨#[32, 112, 114, 111, 116, 111, 32]⟩ : ByteArray)) ++ x3_3) ++ (⟨#[32, 115, 112, 111, 114, 116, 32]⟩ : ByteArray)) ++ t248) ++ (⟨#[45]⟩ : ByteArray)) ++ t249) ++ (⟨#[32, 100, 112, 111, 114, 116, 32]⟩ : ByteArray)) ++ t250) ++ (⟨#[45]⟩ : ByteArray)).size + t251.size ≤ 9223372036854775807 then (if ((((((((((((((t245 ++ (⟨#[32, 102, 114, 111, 109, 32]⟩ : ByteArray)) ++ t246) ++ (⟨#[32, 116, 111, 32]⟩ : ByteArray)) ++ t247) ++ (⟨#[32, 112, 114, 111, 116, 111, 32]⟩ : ByteArray)) ++ x3_3) ++ (⟨#[32, 115, 112, 111, 114, 116, 32]⟩ : ByteArray)) ++ t248) ++ (⟨#[45]⟩ : ByteArray)) ++ t249) ++ (⟨#[32, 100, 112, 111, 114, 116, 32]⟩ : ByteArray)) ++ t250) ++ (⟨#[45]⟩ : ByteArray)) ++ t251).size + 8 ≤ 9223372036854775807 then ((spec_NumText.f kj3 a0_18).bind fun t252 => (if (((((((((((((((t245 ++ (⟨#[32, 102, 114, 111, 109, 32]⟩ : ByteArray)) ++ t246) ++ (⟨#[32, 116, 111, 32]⟩ : ByteArray)) ++ t247) ++ (⟨#[32, 112, 114, 111, 116, 111, 32]⟩ : ByteArray)) ++ x3_3) ++ (⟨#[32, 115, 112, 111, 114, 116, 32]⟩ : ByteArray)) ++ t248) ++ (⟨#[45]⟩ : ByteArray)) ++ t249) ++ (⟨#[32, 100, 112, 111, 114, 116, 32]⟩ : ByteArray)) ++ t250) ++ (⟨#[45]⟩ : ByteArray)) ++ t251) ++ (⟨#[32, 116, 101, 110, 97, 110, 116, 32]⟩ : ByteArray)).size + t252.size ≤ 9223372036854775807 then (if ((((((((((((((((t245 ++ (⟨#[32, 102, 114, 111, 109, 32]⟩ : ByteArray)) ++ t246) ++ (⟨#[32, 116, 111, 32]⟩ : ByteArray)) ++ t247) ++ (⟨#[32, 112, 114, 111, 116, 111, 32]⟩ : ByteArray)) ++ x3_3) ++ (⟨#[32, 115, 112, 111, 114, 116, 32]⟩ : ByteArray)) ++ t248) ++ (⟨#[45]⟩ : ByteArray)) ++ t249) ++ (⟨#[32, 100, 112, 111, 114, 116, 32]⟩ : ByteArray)) ++ t250) ++ (⟨#[45]⟩ : ByteArray)) ++ t251) ++ (⟨#[32, 116, 101, 110, 97, 110, 116, 32]⟩ : ByteArray)) ++ t252).size + 8 ≤ 9223372036854775807 then ((spec_NumText.f kj3 a0_19).bind fun t253 => (if (((((((((((((((((t245 ++ (⟨#[32, 102, 114, 111, 109, 32]⟩ : ByteArray)) ++ t246) ++ (⟨#[32, 116, 111, 32]⟩ : ByteArray)) ++ t247) ++ (⟨#[32, 112, 114, 111, 116, 111, 32]⟩ : ByteArray)) ++ x3_3) ++ (⟨#[32, 115, 112, 111, 114, 116, 32]⟩ : ByteArray)) ++ t248) ++ (⟨#[45]⟩ : ByteArray)) ++ t249) ++ (⟨#[32, 100, 112, 111, 114, 116, 32]⟩ : ByteArray)) ++ t250) ++ (⟨#[45]⟩ : ByteArray)) ++ t251) ++ (⟨#[32, 116, 101, 110, 97, 110, 116, 32]⟩ : ByteArray)) ++ t252) ++ (⟨#[32, 119, 101, 105, 103, 104, 116, 32]⟩ : ByteArray)).size + t253.size ≤ 9223372036854775807 then (if ((((((((((((((((((t245 ++ (⟨#[32, 102, 114, 111, 109, 32]⟩ : ByteArray)) ++ t246) ++ (⟨#[32, 116, 111, 32]⟩ : ByteArray)) ++ t247) ++ (⟨#[32, 112, 114, 111, 116, 111, 32]⟩ : ByteArray)) ++ x3_3) ++ (⟨#[32, 115, 112, 111, 114, 116, 32]⟩ : ByteArray)) ++ t248) ++ (⟨#[45]⟩ : ByteArray)) ++ t249) ++ (⟨#[32, 100, 112, 111, 114, 116, 32]⟩ : ByteArray)) ++ t250) ++ (⟨#[45]⟩ : ByteArray)) ++ t251) ++ (⟨#[32, 116, 101, 110, 97, 110, 116, 32]⟩ : ByteArray)) ++ t252) ++ (⟨#[32, 119, 101, 105, 103, 104, 116, 32]⟩ : ByteArray)) ++ t253).size + 7 ≤ 9223372036854775807 then ((spec_NumText.f kj3 a0_20).bind fun t254 => (if (((((((((((((((((((t245 ++ (⟨#[32, 102, 114, 111, 109, 32]⟩ : ByteArray)) ++ t246) ++ (⟨#[32, 116, 111, 32]⟩ : ByteArray)) ++ t247) ++ (⟨#[32, 112, 114, 111, 116, 111, 32]⟩ : ByteArray)) ++ x3_3) ++ (⟨#[32, 115, 112, 111, 114, 116, 32]⟩ : ByteArray)) ++ t248) ++ (⟨#[45]⟩ : ByteArray)) ++ t249) ++ (⟨#[32, 100, 112, 111, 114, 116, 32]⟩ : ByteArray)) ++ t250) ++ (⟨#[45]⟩ : ByteArray)) ++ t251) ++ (⟨#[32, 116, 101, 110, 97, 110, 116, 32]⟩ : ByteArray)) ++ t252) ++ (⟨#[32, 119, 101, 105, 103, 104, 116, 32]⟩ : ByteArray)) ++ t253) ++ (⟨#[32, 99, 104, 97, 105, 110, 32]⟩ : ByteArray)).size + t254.size ≤ 9223372036854775807 then (some ((((((((((((((((((((t245 ++ (⟨#[32, 102, 114, 111, 109, 32]⟩ : ByteArray)) ++ t246) ++ (⟨#[32, 116, 111, 32]⟩ : ByteArray)) ++ t247) ++ (⟨#[32, 112, 114, 111, 116, 111, 32]⟩ : ByteArray)) ++ x3_3) ++ (⟨#[32, 115, 112, 111, 114, 116, 32]⟩ : ByteArray)) ++ t248) ++ (⟨#[45]⟩ : ByteArray)) ++ t249) ++ (⟨#[32, 100, 112, 111, 114, 116, 32]⟩ : ByteArray)) ++ t250) ++ (⟨#[45]⟩ : ByteArray)) ++ t251) ++ (⟨#[32, 116, 101, 110, 97, 110, 116, 32]⟩ : ByteArray)) ++ t252) ++ (⟨#[32, 119, 101, 105, 103, 104, 116, 32]⟩ : ByteArray)) ++ t253) ++ (⟨#[32, 99, 104, 97, 105, 110, 32]⟩ : ByteArray)) ++ t254)) else (none))) else (none)) else (none))) else (none)) else (none))) else (none)) else (none))) else (none)) else (none))) else (none)) else (none))) else (none)) else (none))) else (none)) else (none)) else (none)) else (none)) = some r := H
       have A18 := Gv.a0 A180
       clear A180
       by_cases c19 : (((t245 ++ (⟨#[32, 102, 114, 111, 109, 32]⟩ : ByteArray)) ++ t246) ++ (⟨#[32, 116, 111, 32]⟩ : ByteArray)).size + t247.size ≤ 9223372036854775807
       ·rw [if_pos c19] at H
        have c19b0 := eq_true c19
        have c19b1 : decide ((((t245 ++ (⟨#[32, 102, 114, 111, 109, 32]⟩ : ByteArray)) ++ t246) ++ (⟨#[32, 116, 111, 32]⟩ : ByteArray)).size + t247.size ≤ 9223372036854775807) = true := decide_eq_true c19
        have c19s : t245.size + 6 + t246.size + 4 + t247.size ≤ 9223372036854775807 := (by have h_ := c19; simp only [ByteArray.size_append] at h_; exact h_)
        have c19b3 := eq_true c19s
        have c19b4 : decide (t245.size + 6 + t246.size + 4 + t247.size ≤ 9223372036854775807) = true := decide_eq_true c19s
        have c19b5 : (9223372036854775807 < t245.size + 6 + t246.size + 4 + t247.size) = False := eq_false (Nat.not_lt.2 c19s)
        clear c19s
        try have c19b2 : (9223372036854775807 < (((t245 ++ (⟨#[32, 102, 114, 111, 109, 32]⟩ : ByteArray)) ++ t246) ++ (⟨#[32, 116, 111, 32]⟩ : ByteArray)).size + t247.size) = False := eq_false (Nat.not_lt.2 c19)
        by_cases c20 : ((((t245 ++ (⟨#[32, 102, 114, 111, 109, 32]⟩ : ByteArray)) ++ t246) ++ (⟨#[32, 116, 111, 32]⟩ : ByteArray)) ++ t247).size + 7 ≤ 9223372036854775807
        ·rw [if_pos c20] at H
         have c20b0 := eq_true c20
         have c20b1 : decide (((((t245 ++ (⟨#[32, 102, 114, 111, 109, 32]⟩ : ByteArray)) ++ t246) ++ (⟨#[32, 116, 111, 32]⟩ : ByteArray)) ++ t247).size + 7 ≤ 9223372036854775807) = true := decide_eq_true c20
         have c20s : t245.size + 6 + t246.size + 4 + t247.size + 7 ≤ 9223372036854775807 := (by have h_ := c20; simp only [ByteArray.size_append] at h_; exact h_)
         have c20b3 := eq_true c20s
         have c20b4 : decide (t245.size + 6 + t246.size + 4 + t247.size + 7 ≤ 9223372036854775807) = true := decide_eq_true c20s
         have c20b5 : (9223372036854775807 < t245.size + 6 + t246.size + 4 + t247.size + 7) = False := eq_false (Nat.not_lt.2 c20s)
         clear c20s
         try have c20b2 : (9223372036854775807 < ((((t245 ++ (⟨#[32, 102, 114, 111, 109, 32]⟩ : ByteArray)) ++ t246) ++ (⟨#[32, 116, 111, 32]⟩ : ByteArray)) ++ t247).size + 7) = False := eq_false (Nat.not_lt.2 c20)
         by_cases c21 : (((((t245 ++ (⟨#[32, 102, 114, 111, 109, 32]⟩ : ByteArray)) ++ t246) ++ (⟨#[32, 116, 111, 32]⟩ : ByteArray)) ++ t247) ++ (⟨#[32, 112, 114, 111, 116, 111, 32]⟩ : ByteArray)).size + x3_3.size ≤ 9223372036854775807
         ·rw [if_pos c21] at H
          have c21b0 := eq_true c21
          have c21b1 : decide ((((((t245 ++ (⟨#[32, 102, 114, 111, 109, 32]⟩ : ByteArray)) ++ t246) ++ (⟨#[32, 116, 111, 32]⟩ : ByteArray)) ++ t247) ++ (⟨#[32, 112, 114, 111, 116, 111, 32]⟩ : ByteArray)).size + x3_3.size ≤ 9223372036854775807) = true := decide_eq_true c21
          have c21s : t245.size + 6 + t246.size + 4 + t247.size + 7 + x3_3.size ≤ 9223372036854775807 := (by have h_ := c21; simp only [ByteArray.size_append] at h_; exact h_)
          have c21b3 := eq_true c21s
          have c21b4 : decide (t245.size + 6 + t246.size + 4 + t247.size + 7 + x3_3.size ≤ 9223372036854775807) = true := decide_eq_true c21s
          have c21b5 : (9223372036854775807 < t245.size + 6 + t246.size + 4 + t247.size + 7 + x3_3.size) = False := eq_false (Nat.not_lt.2 c21s)
          clear c21s
          try have c21b2 : (9223372036854775807 < (((((t245 ++ (⟨#[32, 102, 114, 111, 109, 32]⟩ : ByteArray)) ++ t246) ++ (⟨#[32, 116, 111, 32]⟩ : ByteArray)) ++ t247) ++ (⟨#[32, 112, 114, 111, 116, 111, 32]⟩ : ByteArray)).size + x3_3.size) = False := eq_false (Nat.not_lt.2 c21)
          by_cases c22 : ((((((t245 ++ (⟨#[32, 102, 114, 111, 109, 32]⟩ : ByteArray)) ++ t246) ++ (⟨#[32, 116, 111, 32]⟩ : ByteArray)) ++ t247) ++ (⟨#[32, 112, 114, 111, 116, 111, 32]⟩ : ByteArray)) ++ x3_3).size + 7 ≤ 9223372036854775807
          ·rw [if_pos c22] at H
           have c22b0 := eq_true c22
           have c22b1 : decide (((((((t245 ++ (⟨#[32, 102, 114, 111, 109, 32]⟩ : ByteArray)) ++ t246) ++ (⟨#[32, 116, 111, 32]⟩ : ByteArray)) ++ t247) ++ (⟨#[32, 112, 114, 111, 116, 111, 32]⟩ : ByteArray)) ++ x3_3).size + 7 ≤ 9223372036854775807) = true := decide_eq_true c22
           have c22s : t245.size + 6 + t246.size + 4 + t247.size + 7 + x3_3.size + 7 ≤ 9223372036854775807 := (by have h_ := c22; simp only [ByteArray.size_append] at h_; exact h_)
           have c22b3 := eq_true c22s
           have c22b4 : decide (t245.size + 6 + t246.size + 4 + t247.size + 7 + x3_3.size + 7 ≤ 9223372036854775807) = true := decide_eq_true c22s
           have c22b5 : (9223372036854775807 < t245.size + 6 + t246.size + 4 + t247.size + 7 + x3_3.size + 7) = False := eq_false (Nat.not_lt.2 c22s)
           clear c22s
           try have c22b2 : (9223372036854775807 < ((((((t245 ++ (⟨#[32, 102, 114, 111, 109, 32]⟩ : ByteArray)) ++ t246) ++ (⟨#[32, 116, 111, 32]⟩ : ByteArray)) ++ t247) ++ (⟨#[32, 112, 114, 111, 116, 111, 32]⟩ : ByteArray)) ++ x3_3).size + 7) = False := eq_false (Nat.not_lt.2 c22)
           replace H := Option.bind_eq_some_iff.mp H
           obtain ⟨t248, A230, H⟩ := H
           replace H : (if (((((((t245 ++ (⟨#[32, 102, 114, 111, 109, 32]⟩ : ByteArray)) ++ t246) ++ (⟨#[32, 116, 111, 32]⟩ : ByteArray)) ++ t247) ++ (⟨#[32, 112, 114, 111, 116, 111, 32]⟩ : ByteArray)) ++ x3_3) ++ (⟨#[32, 115, 112, 111, 114, 116, 32]⟩ : ByteArray)).size + t248.size ≤ 9223372036854775807 then (if ((((((((t245 ++ (⟨#[32, 102, 114, 111, 109, 32]⟩ : ByteArray)) ++ t246) ++ (⟨#[32, 116, 111, 32]⟩ : ByteArray)) ++ t247) ++ (⟨#[32, 112, 114, 111, 116, 111, 32]⟩ : ByteArray)) ++ x3_3) ++ (⟨#[32, 115, 112, 111, 114, 116, 32]⟩ : ByteArray)) ++ t248).size + 1 ≤ 9223372036854775807 then ((spec_NumText.f kj3 a0_15).bind fun t249 => (if (((((((((t245 ++ (⟨#[32, 102, 114, 111, 109, 32]⟩ : ByteArray)) ++ t246) ++ (⟨#[32, 116, 111, 32]⟩ : ByteArray)) ++ t247) ++ (⟨#[32, 112, 114, 111, 116, 111, 32]⟩ : ByteArray)) ++ x3_3) ++ (⟨#[32, 115, 112, 111, 114, 116, 32]⟩ : ByteArray)) ++ t248) ++ (⟨#[45]⟩ : ByteArray)).size + t249.size ≤ 9223372036854775807 then (if ((((((((((t245 ++ (⟨#[32, 102, 114, 111, 109, 32]⟩ : ByteArray)) ++ t246) ++ (⟨#[32, 116, 111, 32]⟩ : ByteArray)) ++ t247) ++ (⟨#[32, 112, 114, 111, 116, 111, 32]⟩ : ByteArray)) ++ x3_3) ++ (⟨#[32, 115, 112, 111, 114, 116, 32]⟩ : ByteArray)) ++ t248) ++ (⟨#[45]⟩ : ByteArray)) ++ t249).size + 7 ≤ 9223372036854775807 then ((spec_NumText.f kj3 a0_16).bind fun t250 => (if (((((((((((t245 ++ (⟨#[32, 102, 114, 111, 109, 32]⟩ : ByteArray)) ++ t246) ++ (⟨#[32, 116, 111, 32]⟩ : ByteArray)) ++ t247) ++ (⟨#[32, 112, 114, 111, 116, 111, 32]⟩ : ByteArray)) ++ x3_3) ++ (⟨#[32, 115, 112, 111, 114, 116, 32]⟩ : ByteArray)) ++ t248) ++ (⟨#[45]⟩ : ByteArray)) ++ t249) ++ (⟨#[32, 100, 112, 111, 114, 116, 32]⟩ : ByteArray)).size + t250.size ≤ 9223372036854775807 then (if ((((((((((((t245 ++ (⟨#[32, 102, 114, 111, 109, 32]⟩ : ByteArray)) ++ t246) ++ (⟨#[32, 116, 111, 32]⟩ : ByteArray)) ++ t247) ++ (⟨#[32, 112, 114, 111, 116, 111, 32]⟩ : ByteArray)) ++ x3_3) ++ (⟨#[32, 115, 112, 111, 114, 116, 32]⟩ : ByteArray)) ++ t248) ++ (⟨#[45]⟩ : ByteArray)) ++ t249) ++ (⟨#[32, 100, 112, 111, 114, 116, 32]⟩ : ByteArray)) ++ t250).size + 1 ≤ 9223372036854775807 then ((spec_NumText.f kj3 a0_17).bind fun t251 => (if (((((((((((((t245 ++ (⟨#[32, 102, 114, 111, 109, 32]⟩ : ByteArray)) ++ t246) ++ (⟨#[32, 116, 111, 32]⟩ : ByteArray)) ++ t247) ++ (⟨#[32, 112, 114, 111, 116, 111, 32]⟩ : ByteArray)) ++ x3_3) ++ (⟨#[32, 115, 112, 111, 114, 116, 32]⟩ : ByteArray)) ++ t248) ++ (⟨#[45]⟩ : ByteArray)) ++ t249) ++ (⟨#[32, 100, 112, 111, 114, 116, 32]⟩ : ByteArray)) ++ t250) ++ (⟨#[45]⟩ : ByteArray)).size + t251.size ≤ 9223372036854775807 then (if ((((((((((((((t245 ++ (⟨#[32, 102, 114, 111, 109, 32]⟩ : ByteArray)) ++ t246) ++ (⟨#[32, 116, 111, 32]⟩ : ByteArray)) ++ t247) ++ (⟨#[32, 112, 114, 111, 116, 111, 32]⟩ : ByteArray)) ++ x3_3) ++ (⟨#[32, 115, 112, 111, 114, 116, 32]⟩ : ByteArray)) ++ t248) ++ (⟨#[45]⟩ : ByteArray)) ++ t249) ++ (⟨#[32, 100, 112, 111, 114, 116, 32]⟩ : ByteArray)) ++ t250) ++ (⟨#[45]⟩ : ByteArray)) ++ t251).size + 8 ≤ 9223372036854775807 then ((spec_NumText.f kj3 a0_18).bind fun t252 => (if (((((((((((((((t245 ++ (⟨#[32, 102, 114, 111, 109, 32]⟩ : ByteArray)) ++ t246) ++ (⟨#[32, 116, 111, 32]⟩ : ByteArray)) ++ t247) ++ (⟨#[32, 112, 114, 111, 116, 111, 32]⟩ : ByteArray)) ++ x3_3) ++ (⟨#[32, 115, 112, 111, 114, 116, 32]⟩ : ByteArray)) ++ t248) ++ (⟨#[45]⟩ : ByteArray)) ++ t249) ++ (⟨#[32, 100, 112, 111, 114, 116, 32]⟩ : ByteArray)) ++ t250) ++ (⟨#[45]⟩ : ByteArray)) ++ t251) ++ (⟨#[32, 116, 101, 110, 97, 110, 116, 32]⟩ : ByteArray)).size + t252.size ≤ 9223372036854775807 then (if ((((((((((((((((t245 ++ (⟨#[32, 102, 114, 111, 109, 32]⟩ : ByteArray)) ++ t246) ++ (⟨#[32, 116, 111, 32]⟩ : ByteArray)) ++ t247) ++ (⟨#[32, 112, 114, 111, 116, 111, 32]⟩ : ByteArray)) ++ x3_3) ++ (⟨#[32, 115, 112, 111, 114, 116, 32]⟩ : ByteArray)) ++ t248) ++ (⟨#[45]⟩ : ByteArray)) ++ t249) ++ (⟨#[32, 100, 112, 111, 114, 116, 32]⟩ : ByteArray)) ++ t250) ++ (⟨#[45]⟩ : ByteArray)) ++ t251) ++ (⟨#[32, 116, 101, 110, 97, 110, 116, 32]⟩ : ByteArray)) ++ t252).size + 8 ≤ 9223372036854775807 then ((spec_NumText.f kj3 a0_19).bind fun t253 => (if (((((((((((((((((t245 ++ (⟨#[32, 102, 114, 111, 109, 32]⟩ : ByteArray)) ++ t246) ++ (⟨#[32, 116, 111, 32]⟩ : ByteArray)) ++ t247) ++ (⟨#[32, 112, 114, 111, 116, 111, 32]⟩ : ByteArray)) ++ x3_3) ++ (⟨#[32, 115, 112, 111, 114, 116, 32]⟩ : ByteArray)) ++ t248) ++ (⟨#[45]⟩ : ByteArray)) ++ t249) ++ (⟨#[32, 100, 112, 111, 114, 116, 32]⟩ : ByteArray)) ++ t250) ++ (⟨#[45]⟩ : ByteArray)) ++ t251) ++ (⟨#[32, 116, 101, 110, 97, 110, 116, 32]⟩ : ByteArray)) ++ t252) ++ (⟨#[32, 119, 101, 105, 103, 104, 116, 32]⟩ : ByteArray)).size + t253.size ≤ 9223372036854775807 then (if ((((((((((((((((((t245 ++ (⟨#[32, 102, 114, 111, 109, 32]⟩ : ByteArray)) ++ t246) ++ (⟨#[32, 116, 111, 32]⟩ : ByteArray)) ++ t247) ++ (⟨#[32, 112, 114, 111, 116, 111, 32]⟩ : ByteArray)) ++ x3_3) ++ (⟨#[32, 115, 112, 111, 114, 116, 32]⟩ : ByteArray)) ++ t248) ++ (⟨#[45]⟩ : ByteArray)) ++ t249) ++ (⟨#[32, 100, 112, 111, 114, 116, 32]⟩ : ByteArray)) ++ t250) ++ (⟨#[45]⟩ : ByteArray)) ++ t251) ++ (⟨#[32, 116, 101, 110, 97, 110, 116, 32]⟩ : ByteArray)) ++ t252) ++ (⟨#[32, 119, 101, 105, 103, 104, 116, 32]⟩ : ByteArray)) ++ t253).size + 7 ≤ 9223372036854775807 then ((spec_NumText.f kj3 a0_20).bind fun t254 => (if (((((((((((((((((((t245 ++ (⟨#[32, 102, 114, 111, 109, 32]⟩ : ByteArray)) ++ t246) ++ (⟨#[32, 116, 111, 32]⟩ : ByteArray)) ++ t247) ++ (⟨#[32, 112, 114, 111, 116, 111, 32]⟩ : ByteArray)) ++ x3_3) ++ (⟨#[32, 115, 112, 111, 114, 116, 32]⟩ : ByteArray)) ++ t248) ++ (⟨#[45]⟩ : ByteArray)) ++ t249) ++ (⟨#[32, 100, 112, 111, 114, 116, 32]⟩ : ByteArray)) ++ t250) ++ (⟨#[45]⟩ : ByteArray)) ++ t251) ++ (⟨#[32, 116, 101, 110, 97, 110, 116, 32]⟩ : ByteArray)) ++ t252) ++ (⟨#[32, 119, 101, 105, 103, 104, 116, 32]⟩ : ByteArray)) ++ t253) ++ (⟨#[32, 99, 104, 97, 105, 110, 32]⟩ : ByteArray)).size + t254.size ≤ 9223372036854775807 then (some ((((((((((((((((((((t245 ++ (⟨#[32, 102, 114, 111, 109, 32]⟩ : ByteArray)) ++ t246) ++ (⟨#[32, 116, 111, 32]⟩ : ByteArray)) ++ t247) ++ (⟨#[32, 112, 114, 111, 116, 111, 32]⟩ : ByteArray)) ++ x3_3) ++ (⟨#[32, 115, 112, 111, 114, 116, 32]⟩ : ByteArray)) ++ t248) ++ (⟨#[45]⟩ : ByteArray)) ++ t249) ++ (⟨#[32, 100, 112, 111, 114, 116, 32]⟩ : ByteArray)) ++ t250) ++ (⟨#[45]⟩ : ByteArray)) ++ t251) ++ (⟨#[32, 116, 101, 110, 97, 110, 116, 32]⟩ : ByteArray)) ++ t252) ++ (⟨#[32, 119, 101, 105, 103, 104, 116, 32]⟩ : ByteArray)) ++ t253) ++ (⟨#[32, 99, 104, 97, 105, 110, 32]⟩ : ByteArray)) ++ t254)) else (none))) else (none)) else (none))) else (none)) else (none))) else (none)) else (none))) else (none)) else (none))) else (none)) else (none))) else (none)) else (none)) = some r := H
           have A23 := Gv.a0 A230
           clear A230
           by_cases c24 : (((((((t245 ++ (⟨#[32, 102, 114, 111, 109, 32]⟩ : ByteArray)) ++ t246) ++ (⟨#[32, 116, 111, 32]⟩ : ByteArray)) ++ t247) ++ (⟨#[32, 112, 114, 111, 116, 111, 32]⟩ : ByteArray)) ++ x3_3) ++ (⟨#[32, 115, 112, 111, 114, 116, 32]⟩ : ByteArray)).size + t248.size ≤ 9223372036854775807
           ·rw [if_pos c24] at H
            have c24b0 := eq_true c24
            have c24b1 : decide ((((((((t245 ++ (⟨#[32, 102, 114, 111, 109, 32]⟩ : ByteArray)) ++ t246) ++ (⟨#[32, 116, 111, 32]⟩ : ByteArray)) ++ t247) ++ (⟨#[32, 112, 114, 111, 116, 111, 32]⟩ : ByteArray)) ++ x3_3) ++ (⟨#[32, 115, 112, 111, 114, 116, 32]⟩ : ByteArray)).size + t248.size ≤ 9223372036854775807) = true := decide_eq_true c24
            have c24s : t245.size + 6 + t246.size + 4 + t247.size + 7 + x3_3.size + 7 + t248.size ≤ 9223372036854775807 := (by have h_ := c24; simp only [ByteArray.size_append] at h_; exact h_)
            have c24b3 := eq_true c24s
            have c24b4 : decide (t245.size + 6 + t246.size + 4 + t247.size + 7 + x3_3.size + 7 + t248.size ≤ 9223372036854775807) = true := decide_eq_true c24s
            have c24b5 : (9223372036854775807 < t245.size + 6 + t246.size + 4 + t247.size + 7 + x3_3.size + 7 + t248.size) = False := eq_false (Nat.not_lt.2 c24s)
            clear c24s
            try have c24b2 : (9223372036854775807 < (((((((t245 ++ (⟨#[32, 102, 114, 111, 109, 32]⟩ : ByteArray)) ++ t246) ++ (⟨#[32, 116, 111, 32]⟩ : ByteArray)) ++ t247) ++ (⟨#[32, 112, 114, 111, 116, 111, 32]⟩ : ByteArray)) ++ x3_3) ++ (⟨#[32, 115, 112, 111, 114, 116, 32]⟩ : ByteArray)).size + t248.size) = False := eq_false (Nat.not_lt.2 c24)
            by_cases c25 : ((((((((t245 ++ (⟨#[32, 102, 114, 111, 109, 32]⟩ : ByteArray)) ++ t246) ++ (⟨#[32, 116, 111, 32]⟩ : ByteArray)) ++ t247) ++ (⟨#[32, 112, 114, 111, 116, 111, 32]⟩ : ByteArray)) ++ x3_3) ++ (⟨#[32, 115, 112, 111, 114, 116, 32]⟩ : ByteArray)) ++ t248).size + 1 ≤ 9223372036854775807
            ·rw [if_pos c25] at H
             have c25b0 := eq_true c25
             have c25b1 : decide (((((((((t245 ++ (⟨#[32, 102, 114, 111, 109, 32]⟩ : ByteArray)) ++ t246) ++ (⟨#[32, 116, 111, 32]⟩ : ByteArray)) ++ t247) ++ (⟨#[32, 112, 114, 111, 116, 111, 32]⟩ : ByteArray)) ++ x3_3) ++ (⟨#[32, 115, 112, 111, 114, 116, 32]⟩ : ByteArray)) ++ t248).size + 1 ≤ 9223372036854775807) = true := decide_eq_true c25
             have c25s : t245.size + 6 + t246.size + 4 + t247.size + 7 + x3_3.size + 7 + t248.size + 1 ≤ 9223372036854775807 := (by have h_ := c25; simp only [ByteArray.size_append] at h_; exact h_)
             have c25b3 := eq_true c25s
             have c25b4 : decide (t245.size + 6 + t246.size + 4 + t247.size + 7 + x3_3.size + 7 + t248.size + 1 ≤ 9223372036854775807) = true := decide_eq_true c25s
             have c25b5 : (9223372036854775807 < t245.size + 6 + t246.size + 4 + t247.size + 7 + x3_3.size + 7 + t248.size + 1) = False := eq_false (Nat.not_lt.2 c25s)
             clear c25s
             try have c25b2 : (9223372036854775807 < ((((((((t245 ++ (⟨#[32, 102, 114, 111, 109, 32]⟩ : ByteArray)) ++ t246) ++ (⟨#[32, 116, 111, 32]⟩ : ByteArray)) ++ t247) ++ (⟨#[32, 112, 114, 111, 116, 111, 32]⟩ : ByteArray)) ++ x3_3) ++ (⟨#[32, 115, 112, 111, 114, 116, 32]⟩ : ByteArray)) ++ t248).size + 1) = False := eq_false (Nat.not_lt.2 c25)
             replace H := Option.bind_eq_some_iff.mp H
             obtain ⟨t249, A260, H⟩ := H
             replace H : (if (((((((((t245 ++ (⟨#[32, 102, 114, 111, 109, 32]⟩ : ByteArray)) ++ t246) ++ (⟨#[32, 116, 111, 32]⟩ : ByteArray)) ++ t247) ++ (⟨#[32, 112, 114, 111, 116, 111, 32]⟩ : ByteArray)) ++ x3_3) ++ (⟨#[32, 115, 112, 111, 114, 116, 32]⟩ : ByteArray)) ++ t248) ++ (⟨#[45]⟩ : ByteArray)).size + t249.size ≤ 9223372036854775807 then (if ((((((((((t245 ++ (⟨#[32, 102, 114, 111, 109, 32]⟩ : ByteArray)) ++ t246) ++ (⟨#[32, 116, 111, 32]⟩ : ByteArray)) ++ t247) ++ (⟨#[32, 112, 114, 111, 116, 111, 32]⟩ : ByteArray)) ++ x3_3) ++ (⟨#[32, 115, 112, 111, 114, 116, 32]⟩ : ByteArray)) ++ t248) ++ (⟨#[45]⟩ : ByteArray)) ++ t249).size + 7 ≤ 9223372036854775807 then ((spec_NumText.f kj3 a0_16).bind fun t250 => (if (((((((((((t245 ++ (⟨#[32, 102, 114, 111, 109, 32]⟩ : ByteArray)) ++ t246) ++ (⟨#[32, 116, 111, 32]⟩ : ByteArray)) ++ t247) ++ (⟨#[32, 112, 114, 111, 116, 111, 32]⟩ : ByteArray)) ++ x3_3) ++ (⟨#[32, 115, 112, 111, 114, 116, 32]⟩ : ByteArray)) ++ t248) ++ (⟨#[45]⟩ : ByteArray)) ++ t249) ++ (⟨#[32, 100, 112, 111, 114, 116, 32]⟩ : ByteArray)).size + t250.size ≤ 9223372036854775807 then (if ((((((((((((t245 ++ (⟨#[32, 102, 114, 111, 109, 32]⟩ : ByteArray)) ++ t246) ++ (⟨#[32, 116, 111, 32]⟩ : ByteArray)) ++ t247) ++ (⟨#[32, 112, 114, 111, 116, 111, 32]⟩ : ByteArray)) ++ x3_3) ++ (⟨#[32, 115, 112, 111, 114, 116, 32]⟩ : ByteArray)) ++ t248) ++ (⟨#[45]⟩ : ByteArray)) ++ t249) ++ (⟨#[32, 100, 112, 111, 114, 116, 32]⟩ : ByteArray)) ++ t250).size + 1 ≤ 9223372036854775807 then ((spec_NumText.f kj3 a0_17).bind fun t251 => (if (((((((((((((t245 ++ (⟨#[32, 102, 114, 111, 109, 32]⟩ : ByteArray)) ++ t246) ++ (⟨#[32, 116, 111, 32]⟩ : ByteArray)) ++ t247) ++ (⟨#[32, 112, 114, 111, 116, 111, 32]⟩ : ByteArray)) ++ x3_3) ++ (⟨#[32, 115, 112, 111, 114, 116, 32]⟩ : ByteArray)) ++ t248) ++ (⟨#[45]⟩ : ByteArray)) ++ t249) ++ (⟨#[32, 100, 112, 111, 114, 116, 32]⟩ : ByteArray)) ++ t250) ++ (⟨#[45]⟩ : ByteArray)).size + t251.size ≤ 9223372036854775807 then (if ((((((((((((((t245 ++ (⟨#[32, 102, 114, 111, 109, 32]⟩ : ByteArray)) ++ t246) ++ (⟨#[32, 116, 111, 32]⟩ : ByteArray)) ++ t247) ++ (⟨#[32, 112, 114, 111, 116, 111, 32]⟩ : ByteArray)) ++ x3_3) ++ (⟨#[32, 115, 112, 111, 114, 116, 32]⟩ : ByteArray)) ++ t248) ++ (⟨#[45]⟩ : ByteArray)) ++ t249) ++ (⟨#[32, 100, 112, 111, 114, 116, 32]⟩ : ByteArray)) ++ t250) ++ (⟨#[45]⟩ : ByteArray)) ++ t251).size + 8 ≤ 9223372036854775807 then ((spec_NumText.f kj3 a0_18).bind fun t252 => (if (((((((((((((((t245 ++ (⟨#[32, 102, 114, 111, 109, 32]⟩ : ByteArray)) ++ t246) ++ (⟨#[32, 116, 111, 32]⟩ : ByteArray)) ++ t247) ++ (⟨#[32, 112, 114, 111, 116, 111, 32]⟩ : ByteArray)) ++ x3_3) ++ (⟨#[32, 115, 112, 111, 114, 116, 32]⟩ : ByteArray)) ++ t248) ++ (⟨#[45]⟩ : ByteArray)) ++ t249) ++ (⟨#[32, 100, 112, 111, 114, 116, 32]⟩ : ByteArray)) ++ t250) ++ (⟨#[45]⟩ : ByteArray)) ++ t251) ++ (⟨#[32, 116, 101, 110, 97, 110, 116, 32]⟩ : ByteArray)).size + t252.size ≤ 9223372036854775807 then (if ((((((((((((((((t245 ++ (⟨#[32, 102, 114, 111, 109, 32]⟩ : ByteArray)) ++ t246) ++ (⟨#[32, 116, 111, 32]⟩ : ByteArray)) ++ t247) ++ (⟨#[32, 112, 114, 111, 116, 111, 32]⟩ : ByteArray)) ++ x3_3) ++ (⟨#[32, 115, 112, 111, 114, 116, 32]⟩ : ByteArray)) ++ t248) ++ (⟨#[45]⟩ : ByteArray)) ++ t249) ++ (⟨#[32, 100, 112, 111, 114, 116, 32]⟩ : ByteArray)) ++ t250) ++ (⟨#[45]⟩ : ByteArray)) ++ t251) ++ (⟨#[32, 116, 101, 110, 97, 110, 116, 32]⟩ : ByteArray)) ++ t252).size + 8 ≤ 9223372036854775807 then ((spec_NumText.f kj3 a0_19).bind fun t253 => (if (((((((((((((((((t245 ++ (⟨#[32, 102, 114, 111, 109, 32]⟩ : ByteArray)) ++ t246) ++ (⟨#[32, 116, 111, 32]⟩ : ByteArray)) ++ t247) ++ (⟨#[32, 112, 114, 111, 116, 111, 32]⟩ : ByteArray)) ++ x3_3) ++ (⟨#[32, 115, 112, 111, 114, 116, 32]⟩ : ByteArray)) ++ t248) ++ (⟨#[45]⟩ : ByteArray)) ++ t249) ++ (⟨#[32, 100, 112, 111, 114, 116, 32]⟩ : ByteArray)) ++ t250) ++ (⟨#[45]⟩ : ByteArray)) ++ t251) ++ (⟨#[32, 116, 101, 110, 97, 110, 116, 32]⟩ : ByteArray)) ++ t252) ++ (⟨#[32, 119, 101, 105, 103, 104, 116, 32]⟩ : ByteArray)).size + t253.size ≤ 9223372036854775807 then (if ((((((((((((((((((t245 ++ (⟨#[32, 102, 114, 111, 109, 32]⟩ : ByteArray)) ++ t246) ++ (⟨#[32, 116, 111, 32]⟩ : ByteArray)) ++ t247) ++ (⟨#[32, 112, 114, 111, 116, 111, 32]⟩ : ByteArray)) ++ x3_3) ++ (⟨#[32, 115, 112, 111, 114, 116, 32]⟩ : ByteArray)) ++ t248) ++ (⟨#[45]⟩ : ByteArray)) ++ t249) ++ (⟨#[32, 100, 112, 111, 114, 116, 32]⟩ : ByteArray)) ++ t250) ++ (⟨#[45]⟩ : ByteArray)) ++ t251) ++ (⟨#[32, 116, 101, 110, 97, 110, 116, 32]⟩ : ByteArray)) ++ t252) ++ (⟨#[32, 119, 101, 105, 103, 104, 116, 32]⟩ : ByteArray)) ++ t253).size + 7 ≤ 9223372036854775807 then ((spec_NumText.f kj3 a0_20).bind fun t254 => (if (((((((((((((((((((t245 ++ (⟨#[32, 102, 114, 111, 109, 32]⟩ : ByteArray)) ++ t246) ++ (⟨#[32, 116, 111, 32]⟩ : ByteArray)) ++ t247) ++ (⟨#[32, 112, 114, 111, 116, 111, 32]⟩ : ByteArray)) ++ x3_3) ++ (⟨#[32, 115, 112, 111, 114, 116, 32]⟩ : ByteArray)) ++ t248) ++ (⟨#[45]⟩ : ByteArray)) ++ t249) ++ (⟨#[32, 100, 112, 111, 114, 116, 32]⟩ : ByteArray)) ++ t250) ++ (⟨#[45]⟩ : ByteArray)) ++ t251) ++ (⟨#[32, 116, 101, 110, 97, 110, 116, 32]⟩ : ByteArray)) ++ t252) ++ (⟨#[32, 119, 101, 105, 103, 104, 116, 32]⟩ : ByteArray)) ++ t253) ++ (⟨#[32, 99, 104, 97, 105, 110, 32]⟩ : ByteArray)).size + t254.size ≤ 9223372036854775807 then (some ((((((((((((((((((((t245 ++ (⟨#[32, 102, 114, 111, 109, 32]⟩ : ByteArray)) ++ t246) ++ (⟨#[32, 116, 111, 32]⟩ : ByteArray)) ++ t247) ++ (⟨#[32, 112, 114, 111, 116, 111, 32]⟩ : ByteArray)) ++ x3_3) ++ (⟨#[32, 115, 112, 111, 114, 116, 32]⟩ : ByteArray)) ++ t248) ++ (⟨#[45]⟩ : ByteArray)) ++ t249) ++ (⟨#[32, 100, 112, 111, 114, 116, 32]⟩ : ByteArray)) ++ t250) ++ (⟨#[45]⟩ : ByteArray)) ++ t251) ++ (⟨#[32, 116, 101, 110, 97, 110, 116, 32]⟩ : ByteArray)) ++ t252) ++ (⟨#[32, 119, 101, 105, 103, 104, 116, 32]⟩ : ByteArray)) ++ t253) ++ (⟨#[32, 99, 104, 97, 105, 110, 32]⟩ : ByteArray)) ++ t254)) else (none))) else (none)) else (none))) else (none)) else (none))) else (none)) else (none))) else (none)) else (none))) else (none)) else (none)) = some r := H
             have A26 := Gv.a0 A260
             clear A260
             by_cases c27 : (((((((((t245 ++ (⟨#[32, 102, 114, 111, 109, 32]⟩ : ByteArray)) ++ t246) ++ (⟨#[32, 116, 111, 32]⟩ : ByteArray)) ++ t247) ++ (⟨#[32, 112, 114, 111, 116, 111, 32]⟩ : ByteArray)) ++ x3_3) ++ (⟨#[32, 115, 112, 111, 114, 116, 32]⟩ : ByteArray)) ++ t248) ++ (⟨#[45]⟩ : ByteArray)).size + t249.size ≤ 9223372036854775807
             ·rw [if_pos c27] at H
              have c27b0 := eq_true c27
              have c27b1 : decide ((((((((((t245 ++ (⟨#[32, 102, 114, 111, 109, 32]⟩ : ByteArray)) ++ t246) ++ (⟨#[32, 116, 111, 32]⟩ : ByteArray)) ++ t247) ++ (⟨#[32, 112, 114, 111, 116, 111, 32]⟩ : ByteArray)) ++ x3_3) ++ (⟨#[32, 115, 112, 111, 114, 116, 32]⟩ : ByteArray)) ++ t248) ++ (⟨#[45]⟩ : ByteArray)).size + t249.size ≤ 9223372036854775807) = true := decide_eq_true c27
              have c27s : t245.size + 6 + t246.size + 4 + t247.size + 7 + x3_3.size + 7 + t248.size + 1 + t249.size ≤ 9223372036854775807 := (by have h_ := c27; simp only [ByteArray.size_append] at h_; exact h_)
              have c27b3 := eq_true c27s
              have c27b4 : decide (t245.size + 6 + t246.size + 4 + t247.size + 7 + x3_3.size + 7 + t248.size + 1 + t249.size ≤ 9223372036854775807) = true := decide_eq_true c27s
              have c27b5 : (9223372036854775807 < t245.size + 6 + t246.size + 4 + t247.size + 7 + x3_3.size + 7 + t248.size + 1 + t249.size) = False := eq_false (Nat.not_lt.2 c27s)
              clear c27s
              try have c27b2 : (9223372036854775807 < (((((((((t245 ++ (⟨#[32, 102, 114, 111, 109, 32]⟩ : ByteArray)) ++ t246) ++ (⟨#[32, 116, 111, 32]⟩ : ByteArray)) ++ t247) ++ (⟨#[32, 112, 114, 111, 116, 111, 32]⟩ : ByteArray)) ++ x3_3) ++ (⟨#[32, 115, 112, 111, 114, 116, 32]⟩ : ByteArray)) ++ t248) ++ (⟨#[45]⟩ : ByteArray)).size + t249.size) = False := eq_false (Nat.not_lt.2 c27)
              by_cases c28 : ((((((((((t245 ++ (⟨#[32, 102, 114, 111, 109, 32]⟩ : ByteArray)) ++ t246) ++ (⟨#[32, 116, 111, 32]⟩ : ByteArray)) ++ t247) ++ (⟨#[32, 112, 114, 111, 116, 111, 32]⟩ : ByteArray)) ++ x3_3) ++ (⟨#[32, 115, 112, 111, 114, 116, 32]⟩ : ByteArray)) ++ t248) ++ (⟨#[45]⟩ : ByteArray)) ++ t249).size + 7 ≤ 9223372036854775807
              ·rw [if_pos c28] at H
               have c28b0 := eq_true c28
               have c28b1 : decide (((((((((((t245 ++ (⟨#[32, 102, 114, 111, 109, 32]⟩ : ByteArray)) ++ t246) ++ (⟨#[32, 116, 111, 32]⟩ : ByteArray)) ++ t247) ++ (⟨#[32, 112, 114, 111, 116, 111, 32]⟩ : ByteArray)) ++ x3_3) ++ (⟨#[32, 115, 112, 111, 114, 116, 32]⟩ : ByteArray)) ++ t248) ++ (⟨#[45]⟩ : ByteArray)) ++ t249).size + 7 ≤ 9223372036854775807) = true := decide_eq_true c28
               have c28s : t245.size + 6 + t246.size + 4 + t247.size + 7 + x3_3.size + 7 + t248.size + 1 + t249.size + 7 ≤ 9223372036854775807 := (by have h_ := c28; simp only [ByteArray.size_append] at h_; exact h_)
               have c28b3 := eq_true c28s
               have c28b4 : decide (t245.size + 6 + t246.size + 4 + t247.size + 7 + x3_3.size + 7 + t248.size + 1 + t249.size + 7 ≤ 9223372036854775807) = true := decide_eq_true c28s
               have c28b5 : (9223372036854775807 < t245.size + 6 + t246.size + 4 + t247.size + 7 + x3_3.size + 7 + t248.size + 1 + t249.size + 7) = False := eq_false (Nat.not_lt.2 c28s)
               clear c28s
               try have c28b2 : (9223372036854775807 < ((((((((((t245 ++ (⟨#[32, 102, 114, 111, 109, 32]⟩ : ByteArray)) ++ t246) ++ (⟨#[32, 116, 111, 32]⟩ : ByteArray)) ++ t247) ++ (⟨#[32, 112, 114, 111, 116, 111, 32]⟩ : ByteArray)) ++ x3_3) ++ (⟨#[32, 115, 112, 111, 114, 116, 32]⟩ : ByteArray)) ++ t248) ++ (⟨#[45]⟩ : ByteArray)) ++ t249).size + 7) = False := eq_false (Nat.not_lt.2 c28)
               replace H := Option.bind_eq_some_iff.mp H
               obtain ⟨t250, A290, H⟩ := H
               replace H : (if (((((((((((t245 ++ (⟨#[32, 102, 114, 111, 109, 32]⟩ : ByteArray)) ++ t246) ++ (⟨#[32, 116, 111, 32]⟩ : ByteArray)) ++ t247) ++ (⟨#[32, 112, 114, 111, 116, 111, 32]⟩ : ByteArray)) ++ x3_3) ++ (⟨#[32, 115, 112, 111, 114, 116, 32]⟩ : ByteArray)) ++ t248) ++ (⟨#[45]⟩ : ByteArray)) ++ t249) ++ (⟨#[32, 100, 112, 111, 114, 116, 32]⟩ : ByteArray)).size + t250.size ≤ 9223372036854775807 then (if ((((((((((((t245 ++ (⟨#[32, 102, 114, 111, 109, 32]⟩ : ByteArray)) ++ t246) ++ (⟨#[32, 116, 111, 32]⟩ : ByteArray)) ++ t247) ++ (⟨#[32, 112, 114, 111, 116, 111, 32]⟩ : ByteArray)) ++ x3_3) ++ (⟨#[32, 115, 112, 111, 114, 116, 32]⟩ : ByteArray)) ++ t248) ++ (⟨#[45]⟩ : ByteArray)) ++ t249) ++ (⟨#[32, 100, 112, 111, 114, 116, 32]⟩ : ByteArray)) ++ t250).size + 1 ≤ 9223372036854775807 then ((spec_NumText.f kj3 a0_17).bind fun t251 => (if (((((((((((((t245 ++ (⟨#[32, 102, 114, 111, 109, 32]⟩ : ByteArray)) ++ t246) ++ (⟨#[32, 116, 111, 32]⟩ : ByteArray)) ++ t247) ++ (⟨#[32, 112, 114, 111, 116, 111, 32]⟩ : ByteArray)) ++ x3_3) ++ (⟨#[32, 115, 112, 111, 114, 116, 32]⟩ : ByteArray)) ++ t248) ++ (⟨#[45]⟩ : ByteArray)) ++ t249) ++ (⟨#[32, 100, 112, 111, 114, 116, 32]⟩ : ByteArray)) ++ t250) ++ (⟨#[45]⟩ : ByteArray)).size + t251.size ≤ 9223372036854775807 then (if ((((((((((((((t245 ++ (⟨#[32, 102, 114, 111, 109, 32]⟩ : ByteArray)) ++ t246) ++ (⟨#[32, 116, 111, 32]⟩ : ByteArray)) ++ t247) ++ (⟨#[32, 112, 114, 111, 116, 111, 32]⟩ : ByteArray)) ++ x3_3) ++ (⟨#[32, 115, 112, 111, 114, 116, 32]⟩ : ByteArray)) ++ t248) ++ (⟨#[45]⟩ : ByteArray)) ++ t249) ++ (⟨#[32, 100, 112, 111, 114, 116, 32]⟩ : ByteArray)) ++ t250) ++ (⟨#[45]⟩ : ByteArray)) ++ t251).size + 8 ≤ 9223372036854775807 then ((spec_NumText.f kj3 a0_18).bind fun t252 => (if (((((((((((((((t245 ++ (⟨#[32, 102, 114, 111, 109, 32]⟩ : ByteArray)) ++ t246) ++ (⟨#[32, 116, 111, 32]⟩ : ByteArray)) ++ t247) ++ (⟨#[32, 112, 114, 111, 116, 111, 32]⟩ : ByteArray)) ++ x3_3) ++ (⟨#[32, 115, 112, 111, 114, 116, 32]⟩ : ByteArray)) ++ t248) ++ (⟨#[45]⟩ : ByteArray)) ++ t249) ++ (⟨#[32, 100, 112, 111, 114, 116, 32]⟩ : ByteArray)) ++ t250) ++ (⟨#[45]⟩ : ByteArray)) ++ t251) ++ (⟨#[32, 116, 101, 110, 97, 110, 116, 32]⟩ : ByteArray)).size + t252.size ≤ 9223372036854775807 then (if ((((((((((((((((t245 ++ (⟨#[32, 102, 114, 111, 109, 32]⟩ : ByteArray)) ++ t246) ++ (⟨#[32, 116, 111, 32]⟩ : ByteArray)) ++ t247) ++ (⟨#[32, 112, 114, 111, 116, 111, 32]⟩ : ByteArray)) ++ x3_3) ++ (⟨#[32, 115, 112, 111, 114, 116, 32]⟩ : ByteArray)) ++ t248) ++ (⟨#[45]⟩ : ByteArray)) ++ t249) ++ (⟨#[32, 100, 112, 111, 114, 116, 32]⟩ : ByteArray)) ++ t250) ++ (⟨#[45]⟩ : ByteArray)) ++ t251) ++ (⟨#[32, 116, 101, 110, 97, 110, 116, 32]⟩ : ByteArray)) ++ t252).size + 8 ≤ 9223372036854775807 then ((spec_NumText.f kj3 a0_19).bind fun t253 => (if (((((((((((((((((t245 ++ (⟨#[32, 102, 114, 111, 109, 32]⟩ : ByteArray)) ++ t246) ++ (⟨#[32, 116, 111, 32]⟩ : ByteArray)) ++ t247) ++ (⟨#[32, 112, 114, 111, 116, 111, 32]⟩ : ByteArray)) ++ x3_3) ++ (⟨#[32, 115, 112, 111, 114, 116, 32]⟩ : ByteArray)) ++ t248) ++ (⟨#[45]⟩ : ByteArray)) ++ t249) ++ (⟨#[32, 100, 112, 111, 114, 116, 32]⟩ : ByteArray)) ++ t250) ++ (⟨#[45]⟩ : ByteArray)) ++ t251) ++ (⟨#[32, 116, 101, 110, 97, 110, 116, 32]⟩ : ByteArray)) ++ t252) ++ (⟨#[32, 119, 101, 105, 103, 104, 116, 32]⟩ : ByteArray)).size + t253.size ≤ 9223372036854775807 then (if ((((((((((((((((((t245 ++ (⟨#[32, 102, 114, 111, 109, 32]⟩ : ByteArray)) ++ t246) ++ (⟨#[32, 116, 111, 32]⟩ : ByteArray)) ++ t247) ++ (⟨#[32, 112, 114, 111, 116, 111, 32]⟩ : ByteArray)) ++ x3_3) ++ (⟨#[32, 115, 112, 111, 114, 116, 32]⟩ : ByteArray)) ++ t248) ++ (⟨#[45]⟩ : ByteArray)) ++ t249) ++ (⟨#[32, 100, 112, 111, 114, 116, 32]⟩ : ByteArray)) ++ t250) ++ (⟨#[45]⟩ : ByteArray)) ++ t251) ++ (⟨#[32, 116, 101, 110, 97, 110, 116, 32]⟩ : ByteArray)) ++ t252) ++ (⟨#[32, 119, 101, 105, 103, 104, 116, 32]⟩ : ByteArray)) ++ t253).size + 7 ≤ 9223372036854775807 then ((spec_NumText.f kj3 a0_20).bind fun t254 => (if (((((((((((((((((((t245 ++ (⟨#[32, 102, 114, 111, 109, 32]⟩ : ByteArray)) ++ t246) ++ (⟨#[32, 116, 111, 32]⟩ : ByteArray)) ++ t247) ++ (⟨#[32, 112, 114, 111, 116, 111, 32]⟩ : ByteArray)) ++ x3_3) ++ (⟨#[32, 115, 112, 111, 114, 116, 32]⟩ : ByteArray)) ++ t248) ++ (⟨#[45]⟩ : ByteArray)) ++ t249) ++ (⟨#[32, 100, 112, 111, 114, 116, 32]⟩ : ByteArray)) ++ t250) ++ (⟨#[45]⟩ : ByteArray)) ++ t251) ++ (⟨#[32, 116, 101, 110, 97, 110, 116, 32]⟩ : ByteArray)) ++ t252) ++ (⟨#[32, 119, 101, 105, 103, 104, 116, 32]⟩ : ByteArray)) ++ t253) ++ (⟨#[32, 99, 104, 97, 105, 110, 32]⟩ : ByteArray)).size + t254.size ≤ 9223372036854775807 then (some ((((((((((((((((((((t245 ++ (⟨#[32, 102, 114, 111, 109, 32]⟩ : ByteArray)) ++ t246) ++ (⟨#[32, 116, 111, 32]⟩ : ByteArray)) ++ t247) ++ (⟨#[32, 112, 114, 111, 116, 111, 32]⟩ : ByteArray)) ++ x3_3) ++ (⟨#[32, 115, 112, 111, 114, 116, 32]⟩ : ByteArray)) ++ t248) ++ (⟨#[45]⟩ : ByteArray)) ++ t249) ++ (⟨#[32, 100, 112, 111, 114, 116, 32]⟩ : ByteArray)) ++ t250) ++ (⟨#[45]⟩ : ByteArray)) ++ t251) ++ (⟨#[32, 116, 101, 110, 97, 110, 116, 32]⟩ : ByteArray)) ++ t252) ++ (⟨#[32, 119, 101, 105, 103, 104, 116, 32]⟩ : ByteArray)) ++ t253) ++ (⟨#[32, 99, 104, 97, 105, 110, 32]⟩ : ByteArray)) ++ t254)) else (none))) else (none)) else (none))) else (none)) else (none))) else (none)) else (none))) else (none)) else (none)) = some r := H
               have A29 := Gv.a0 A290
               clear A290
               by_cases c30 : (((((((((((t245 ++ (⟨#[32, 102, 114, 111, 109, 32]⟩ : ByteArray)) ++ t246) ++ (⟨#[32, 116, 111, 32]⟩ : ByteArray)) ++ t247) ++ (⟨#[32, 112, 114, 111, 116, 111, 32]⟩ : ByteArray)) ++ x3_3) ++ (⟨#[32, 115, 112, 111, 114, 116, 32]⟩ : ByteArray)) ++ t248) ++ (⟨#[45]⟩ : ByteArray)) ++ t249) ++ (⟨#[32, 100, 112, 111, 114, 116, 32]⟩ : ByteArray)).size + t250.size ≤ 9223372036854775807
               ·rw [if_pos c30] at H
                have c30b0 := eq_true c30
                have c30b1 : decide ((((((((((((t245 ++ (⟨#[32, 102, 114, 111, 109, 32]⟩ : ByteArray)) ++ t246) ++ (⟨#[32, 116, 111, 32]⟩ : ByteArray)) ++ t247) ++ (⟨#[32, 112, 114, 111, 116, 111, 32]⟩ : ByteArray)) ++ x3_3) ++ (⟨#[32, 115, 112, 111, 114, 116, 32]⟩ : ByteArray)) ++ t248) ++ (⟨#[45]⟩ : ByteArray)) ++ t249) ++ (⟨#[32, 100, 112, 111, 114, 116, 32]⟩ : ByteArray)).size + t250.size ≤ 9223372036854775807) = true := decide_eq_true c30
                have c30s : t245.size + 6 + t246.size + 4 + t247.size + 7 + x3_3.size + 7 + t248.size + 1 + t249.size + 7 + t250.size ≤ 9223372036854775807 := (by have h_ := c30; simp only [ByteArray.size_append] at h_; exact h_)
                have c30b3 := eq_true c30s
                have c30b4 : decide (t245.size + 6 + t246.size + 4 + t247.size + 7 + x3_3.size + 7 + t248.size + 1 + t249.size + 7 + t250.size ≤ 9223372036854775807) = true := decide_eq_true c30s
                have c30b5 : (9223372036854775807 < t245.size + 6 + t246.size + 4 + t247.size + 7 + x3_3.size + 7 + t248.size + 1 + t249.size + 7 + t250.size) = False := eq_false (Nat.not_lt.2 c30s)
                clear c30s
                try have c30b2 : (9223372036854775807 < (((((((((((t245 ++ (⟨#[32, 102, 114, 111, 109, 32]⟩ : ByteArray)) ++ t246) ++ (⟨#[32, 116, 111, 32]⟩ : ByteArray)) ++ t247) ++ (⟨#[32, 112, 114, 111, 116, 111, 32]⟩ : ByteArray)) ++ x3_3) ++ (⟨#[32, 115, 112, 111, 114, 116, 32]⟩ : ByteArray)) ++ t248) ++ (⟨#[45]⟩ : ByteArray)) ++ t249) ++ (⟨#[32, 100, 112, 111, 114, 116, 32]⟩ : ByteArray)).size + t250.size) = False := eq_false (Nat.not_lt.2 c30)
                by_cases c31 : ((((((((((((t245 ++ (⟨#[32, 102, 114, 111, 109, 32]⟩ : ByteArray)) ++ t246) ++ (⟨#[32, 116, 111, 32]⟩ : ByteArray)) ++ t247) ++ (⟨#[32, 112, 114, 111, 116, 111, 32]⟩ : ByteArray)) ++ x3_3) ++ (⟨#[32, 115, 112, 111, 114, 116, 32]⟩ : ByteArray)) ++ t248) ++ (⟨#[45]⟩ : ByteArray)) ++ t249) ++ (⟨#[32, 100, 112, 111, 114, 116, 32]⟩ : ByteArray)) ++ t250).size + 1 ≤ 9223372036854775807
                ·rw [if_pos c31] at H
                 have c31b0 := eq_true c31
                 have c31b1 : decide (((((((((((((t245 ++ (⟨#[32, 102, 114, 111, 109, 32]⟩ : ByteArray)) ++ t246) ++ (⟨#[32, 116, 111, 32]⟩ : ByteArray)) ++ t247) ++ (⟨#[32, 112, 114, 111, 116, 111, 32]⟩ : ByteArray)) ++ x3_3) ++ (⟨#[32, 115, 112, 111, 114, 116, 32]⟩ : ByteArray)) ++ t248) ++ (⟨#[45]⟩ : ByteArray)) ++ t249) ++ (⟨#[32, 100, 112, 111, 114, 116, 32]⟩ : ByteArray)) ++ t250).size + 1 ≤ 9223372036854775807) = true := decide_eq_true c31
                 have c31s : t245.size + 6 + t246.size + 4 + t247.size + 7 + x3_3.size + 7 + t248.size + 1 + t249.size + 7 + t250.size + 1 ≤ 9223372036854775807 := (by have h_ := c31; simp only [ByteArray.size_append] at h_; exact h_)
                 have c31b3 := eq_true c31s
                 have c31b4 : decide (t245.size + 6 + t246.size + 4 + t247.size + 7 + x3_3.size + 7 + t248.size + 1 + t249.size + 7 + t250.size + 1 ≤ 9223372036854775807) = true := decide_eq_true c31s
                 have c31b5 : (9223372036854775807 < t245.size + 6 + t246.size + 4 + t247.size + 7 + x3_3.size + 7 + t248.size + 1 + t249.size + 7 + t250.size + 1) = False := eq_false (Nat.not_lt.2 c31s)
                 clear c31s
                 try have c31b2 : (9223372036854775807 < ((((((((((((t245 ++ (⟨#[32, 102, 114, 111, 109, 32]⟩ : ByteArray)) ++ t246) ++ (⟨#[32, 116, 111, 32]⟩ : ByteArray)) ++ t247) ++ (⟨#[32, 112, 114, 111, 116, 111, 32]⟩ : ByteArray)) ++ x3_3) ++ (⟨#[32, 115, 112, 111, 114, 116, 32]⟩ : ByteArray)) ++ t248) ++ (⟨#[45]⟩ : ByteArray)) ++ t249) ++ (⟨#[32, 100, 112, 111, 114, 116, 32]⟩ : ByteArray)) ++ t250).size + 1) = False := eq_false (Nat.not_lt.2 c31)
                 replace H := Option.bind_eq_some_iff.mp H
                 obtain ⟨t251, A320, H⟩ := H
                 replace H : (if (((((((((((((t245 ++ (⟨#[32, 102, 114, 111, 109, 32]⟩ : ByteArray)) ++ t246) ++ (⟨#[32, 116, 111, 32]⟩ : ByteArray)) ++ t247) ++ (⟨#[32, 112, 114, 111, 116, 111, 32]⟩ : ByteArray)) ++ x3_3) ++ (⟨#[32, 115, 112, 111, 114, 116, 32]⟩ : ByteArray)) ++ t248) ++ (⟨#[45]⟩ : ByteArray)) ++ t249) ++ (⟨#[32, 100, 112, 111, 114, 116, 32]⟩ : ByteArray)) ++ t250) ++ (⟨#[45]⟩ : ByteArray)).size + t251.size ≤ 9223372036854775807 then (if ((((((((((((((t245 ++ (⟨#[32, 102, 114, 111, 109, 32]⟩ : ByteArray)) ++ t246) ++ (⟨#[32, 116, 111, 32]⟩ : ByteArray)) ++ t247) ++ (⟨#[32, 112, 114, 111, 116, 111, 32]⟩ : ByteArray)) ++ x3_3) ++ (⟨#[32, 115, 112, 111, 114, 116, 32]⟩ : ByteArray)) ++ t248) ++ (⟨#[45]⟩ : ByteArray)) ++ t249) ++ (⟨#[32, 100, 112, 111, 114, 116, 32]⟩ : ByteArray)) ++ t250) ++ (⟨#[45]⟩ : ByteArray)) ++ t251).size + 8 ≤ 9223372036854775807 then ((spec_NumText.f kj3 a0_18).bind fun t252 => (if (((((((((((((((t245 ++ (⟨#[32, 102, 114, 111, 109, 32]⟩ : ByteArray)) ++ t246) ++ (⟨#[32, 116, 111, 32]⟩ : ByteArray)) ++ t247) ++ (⟨#[32, 112, 114, 111, 116, 111, 32]⟩ : ByteArray)) ++ x3_3) ++ (⟨#[32, 115, 112, 111, 114, 116, 32]⟩ : ByteArray)) ++ t248) ++ (⟨#[45]⟩ : ByteArray)) ++ t249) ++ (⟨#[32, 100, 112, 111, 114, 116, 32]⟩ : ByteArray)) ++ t250) ++ (⟨#[45]⟩ : ByteArray)) ++ t251) ++ (⟨#[32, 116, 101, 110, 97, 110, 116, 32]⟩ : ByteArray)).size + t252.size ≤ 9223372036854775807 then (if ((((((((((((((((t245 ++ (⟨#[32, 102, 114, 111, 109, 32]⟩ : ByteArray)) ++ t246) ++ (⟨#[32, 116, 111, 32]⟩ : ByteArray)) ++ t247) ++ (⟨#[32, 112, 114, 111, 116, 111, 32]⟩ : ByteArray)) ++ x3_3) ++ (⟨#[32, 115, 112, 111, 114, 116, 32]⟩ : ByteArray)) ++ t248) ++ (⟨#[45]⟩ : ByteArray)) ++ t249) ++ (⟨#[32, 100, 112, 111, 114, 116, 32]⟩ : ByteArray)) ++ t250) ++ (⟨#[45]⟩ : ByteArray)) ++ t251) ++ (⟨#[32, 116, 101, 110, 97, 110, 116, 32]⟩ : ByteArray)) ++ t252).size + 8 ≤ 9223372036854775807 then ((spec_NumText.f kj3 a0_19).bind fun t253 => (if (((((((((((((((((t245 ++ (⟨#[32, 102, 114, 111, 109, 32]⟩ : ByteArray)) ++ t246) ++ (⟨#[32, 116, 111, 32]⟩ : ByteArray)) ++ t247) ++ (⟨#[32, 112, 114, 111, 116, 111, 32]⟩ : ByteArray)) ++ x3_3) ++ (⟨#[32, 115, 112, 111, 114, 116, 32]⟩ : ByteArray)) ++ t248) ++ (⟨#[45]⟩ : ByteArray)) ++ t249) ++ (⟨#[32, 100, 112, 111, 114, 116, 32]⟩ : ByteArray)) ++ t250) ++ (⟨#[45]⟩ : ByteArray)) ++ t251) ++ (⟨#[32, 116, 101, 110, 97, 110, 116, 32]⟩ : ByteArray)) ++ t252) ++ (⟨#[32, 119, 101, 105, 103, 104, 116, 32]⟩ : ByteArray)).size + t253.size ≤ 9223372036854775807 then (if ((((((((((((((((((t245 ++ (⟨#[32, 102, 114, 111, 109, 32]⟩ : ByteArray)) ++ t246) ++ (⟨#[32, 116, 111, 32]⟩ : ByteArray)) ++ t247) ++ (⟨#[32, 112, 114, 111, 116, 111, 32]⟩ : ByteArray)) ++ x3_3) ++ (⟨#[32, 115, 112, 111, 114, 116, 32]⟩ : ByteArray)) ++ t248) ++ (⟨#[45]⟩ : ByteArray)) ++ t249) ++ (⟨#[32, 100, 112, 111, 114, 116, 32]⟩ : ByteArray)) ++ t250) ++ (⟨#[45]⟩ : ByteArray)) ++ t251) ++ (⟨#[32, 116, 101, 110, 97, 110, 116, 32]⟩ : ByteArray)) ++ t252) ++ (⟨#[32, 119, 101, 105, 103, 104, 116, 32]⟩ : ByteArray)) ++ t253).size + 7 ≤ 9223372036854775807 then ((spec_NumText.f kj3 a0_20).bind fun t254 => (if (((((((((((((((((((t245 ++ (⟨#[32, 102, 114, 111, 109, 32]⟩ : ByteArray)) ++ t246) ++ (⟨#[32, 116, 111, 32]⟩ : ByteArray)) ++ t247) ++ (⟨#[32, 112, 114, 111, 116, 111, 32]⟩ : ByteArray)) ++ x3_3) ++ (⟨#[32, 115, 112, 111, 114, 116, 32]⟩ : ByteArray)) ++ t248) ++ (⟨#[45]⟩ : ByteArray)) ++ t249) ++ (⟨#[32, 100, 112, 111, 114, 116, 32]⟩ : ByteArray)) ++ t250) ++ (⟨#[45]⟩ : ByteArray)) ++ t251) ++ (⟨#[32, 116, 101, 110, 97, 110, 116, 32]⟩ : ByteArray)) ++ t252) ++ (⟨#[32, 119, 101, 105, 103, 104, 116, 32]⟩ : ByteArray)) ++ t253) ++ (⟨#[32, 99, 104, 97, 105, 110, 32]⟩ : ByteArray)).size + t254.size ≤ 9223372036854775807 then (some ((((((((((((((((((((t245 ++ (⟨#[32, 102, 114, 111, 109, 32]⟩ : ByteArray)) ++ t246) ++ (⟨#[32, 116, 111, 32]⟩ : ByteArray)) ++ t247) ++ (⟨#[32, 112, 114, 111, 116, 111, 32]⟩ : ByteArray)) ++ x3_3) ++ (⟨#[32, 115, 112, 111, 114, 116, 32]⟩ : ByteArray)) ++ t248) ++ (⟨#[45]⟩ : ByteArray)) ++ t249) ++ (⟨#[32, 100, 112, 111, 114, 116, 32]⟩ : ByteArray)) ++ t250) ++ (⟨#[45]⟩ : ByteArray)) ++ t251) ++ (⟨#[32, 116, 101, 110, 97, 110, 116, 32]⟩ : ByteArray)) ++ t252) ++ (⟨#[32, 119, 101, 105, 103, 104, 116, 32]⟩ : ByteArray)) ++ t253) ++ (⟨#[32, 99, 104, 97, 105, 110, 32]⟩ : ByteArray)) ++ t254)) else (none))) else (none)) else (none))) else (none)) else (none))) else (none)) else (none)) = some r := H
                 have A32 := Gv.a0 A320
                 clear A320
                 by_cases c33 : (((((((((((((t245 ++ (⟨#[32, 102, 114, 111, 109, 32]⟩ : ByteArray)) ++ t246) ++ (⟨#[32, 116, 111, 32]⟩ : ByteArray)) ++ t247) ++ (⟨#[32, 112, 114, 111, 116, 111, 32]⟩ : ByteArray)) ++ x3_3) ++ (⟨#[32, 115, 112, 111, 114, 116, 32]⟩ : ByteArray)) ++ t248) ++ (⟨#[45]⟩ : ByteArray)) ++ t249) ++ (⟨#[32, 100, 112, 111, 114, 116, 32]⟩ : ByteArray)) ++ t250) ++ (⟨#[45]⟩ : ByteArray)).size + t251.size ≤ 9223372036854775807
                 ·rw [if_pos c33] at H
                  have c33b0 := eq_true c33
                  have c33b1 : decide ((((((((((((((t245 ++ (⟨#[32, 102, 114, 111, 109, 32]⟩ : ByteArray)) ++ t246) ++ (⟨#[32, 116, 111, 32]⟩ : ByteArray)) ++ t247) ++ (⟨#[32, 112, 114, 111, 116, 111, 32]⟩ : ByteArray)) ++ x3_3) ++ (⟨#[32, 115, 112, 111, 114, 116, 32]⟩ : ByteArray)) ++ t248) ++ (⟨#[45]⟩ : ByteArray)) ++ t249) ++ (⟨#[32, 100, 112, 111, 114, 116, 32]⟩ : ByteArray)) ++ t250) ++ (⟨#[45]⟩ : ByteArray)).size + t251.size ≤ 9223372036854775807) = true := decide_eq_true c33
                  have c33s : t245.size + 6 + t246.size + 4 + t247.size + 7 + x3_3.size + 7 + t248.size + 1 + t249.size + 7 + t250.size + 1 + t251.size ≤ 9223372036854775807 := (by have h_ := c33; simp only [ByteArray.size_append] at h_; exact h_)
                  have c33b3 := eq_true c33s
                  have c33b4 : decide (t245.size + 6 + t246.size + 4 + t247.size + 7 + x3_3.size + 7 + t248.size + 1 + t249.size + 7 + t250.size + 1 + t251.size ≤ 9223372036854775807) = true := decide_eq_true c33s
                  have c33b5 : (9223372036854775807 < t245.size + 6 + t246.size + 4 + t247.size + 7 + x3_3.size + 7 + t248.size + 1 + t249.size + 7 + t250.size + 1 + t251.size) = False := eq_false (Nat.not_lt.2 c33s)
                  clear c33s
                  try have c33b2 : (9223372036854775807 < (((((((((((((t245 ++ (⟨#[32, 102, 114, 111, 109, 32]⟩ : ByteArray)) ++ t246) ++ (⟨#[32, 116, 111, 32]⟩ : ByteArray)) ++ t247) ++ (⟨#[32, 112, 114, 111, 116, 111, 32]⟩ : ByteArray)) ++ x3_3) ++ (⟨#[32, 115, 112, 111, 114, 116, 32]⟩ : ByteArray)) ++ t248) ++ (⟨#[45]⟩ : ByteArray)) ++ t249) ++ (⟨#[32, 100, 112, 111, 114, 116, 32]⟩ : ByteArray)) ++ t250) ++ (⟨#[45]⟩ : ByteArray)).size + t251.size) = False := eq_false (Nat.not_lt.2 c33)
                  by_cases c34 : ((((((((((((((t245 ++ (⟨#[32, 102, 114, 111, 109, 32]⟩ : ByteArray)) ++ t246) ++ (⟨#[32, 116, 111, 32]⟩ : ByteArray)) ++ t247) ++ (⟨#[32, 112, 114, 111, 116, 111, 32]⟩ : ByteArray)) ++ x3_3) ++ (⟨#[32, 115, 112, 111, 114, 116, 32]⟩ : ByteArray)) ++ t248) ++ (⟨#[45]⟩ : ByteArray)) ++ t249) ++ (⟨#[32, 100, 112, 111, 114, 116, 32]⟩ : ByteArray)) ++ t250) ++ (⟨#[45]⟩ : ByteArray)) ++ t251).size + 8 ≤ 9223372036854775807
                  ·rw [if_pos c34] at H
                   have c34b0 := eq_true c34
                   have c34b1 : decide (((((((((((((((t245 ++ (⟨#[32, 102, 114, 111, 109, 32]⟩ : ByteArray)) ++ t246) ++ (⟨#[32, 116, 111, 32]⟩ : ByteArray)) ++ t247) ++ (⟨#[32, 112, 114, 111, 116, 111, 32]⟩ : ByteArray)) ++ x3_3) ++ (⟨#[32, 115, 112, 111, 114, 116, 32]⟩ : ByteArray)) ++ t248) ++ (⟨#[45]⟩ : ByteArray)) ++ t249) ++ (⟨#[32, 100, 112, 111, 114, 116, 32]⟩ : ByteArray)) ++ t250) ++ (⟨#[45]⟩ : ByteArray)) ++ t251).size + 8 ≤ 9223372036854775807) = true := decide_eq_true c34
                   have c34s : t245.size + 6 + t246.size + 4 + t247.size + 7 + x3_3.size + 7 + t248.size + 1 + t249.size + 7 + t250.size + 1 + t251.size + 8 ≤ 9223372036854775807 := (by have h_ := c34; simp only [ByteArray.size_append] at h_; exact h_)
                   have c34b3 := eq_true c34s
                   have c34b4 : decide (t245.size + 6 + t246.size + 4 + t247.size + 7 + x3_3.size + 7 + t248.size + 1 + t249.size + 7 + t250.size + 1 + t251.size + 8 ≤ 9223372036854775807) = true := decide_eq_true c34s
                   have c34b5 : (9223372036854775807 < t245.size + 6 + t246.size + 4 + t247.size + 7 + x3_3.size + 7 + t248.size + 1 + t249.size + 7 + t250.size + 1 + t251.size + 8) = False := eq_false (Nat.not_lt.2 c34s)
                   clear c34s
                   try have c34b2 : (9223372036854775807 < ((((((((((((((t245 ++ (⟨#[32, 102, 114, 111, 109, 32]⟩ : ByteArray)) ++ t246) ++ (⟨#[32, 116, 111, 32]⟩ : ByteArray)) ++ t247) ++ (⟨#[32, 112, 114, 111, 116, 111, 32]⟩ : ByteArray)) ++ x3_3) ++ (⟨#[32, 115, 112, 111, 114, 116, 32]⟩ : ByteArray)) ++ t248) ++ (⟨#[45]⟩ : ByteArray)) ++ t249) ++ (⟨#[32, 100, 112, 111, 114, 116, 32]⟩ : ByteArray)) ++ t250) ++ (⟨#[45]⟩ : ByteArray)) ++ t251).size + 8) = False := eq_false (Nat.not_lt.2 c34)
                   replace H := Option.bind_eq_some_iff.mp H
                   obtain ⟨t252, A350, H⟩ := H
                   replace H : (if (((((((((((((((t245 ++ (⟨#[32, 102, 114, 111, 109, 32]⟩ : ByteArray)) ++ t246) ++ (⟨#[32, 116, 111, 32]⟩ : ByteArray)) ++ t247) ++ (⟨#[32, 112, 114, 111, 116, 111, 32]⟩ : ByteArray)) ++ x3_3) ++ (⟨#[32, 115, 112, 111, 114, 116, 32]⟩ : ByteArray)) ++ t248) ++ (⟨#[45]⟩ : ByteArray)) ++ t249) ++ (⟨#[32, 100, 112, 111, 114, 116, 32]⟩ : ByteArray)) ++ t250) ++ (⟨#[45]⟩ : ByteArray)) ++ t251) ++ (⟨#[32, 116, 101, 110, 97, 110, 116, 32]⟩ : ByteArray)).size + t252.size ≤ 9223372036854775807 then (if ((((((((((((((((t245 ++ (⟨#[32, 102, 114, 111, 109, 32]⟩ : ByteArray)) ++ t246) ++ (⟨#[32, 116, 111, 32]⟩ : ByteArray)) ++ t247) ++ (⟨#[32, 112, 114, 111, 116, 111, 32]⟩ : ByteArray)) ++ x3_3) ++ (⟨#[32, 115, 112, 111, 114, 116, 32]⟩ : ByteArray)) ++ t248) ++ (⟨#[45]⟩ : ByteArray)) ++ t249) ++ (⟨#[32, 100, 112, 111, 114, 116, 32]⟩ : ByteArray)) ++ t250) ++ (⟨#[45]⟩ : ByteArray)) ++ t251) ++ (⟨#[32, 116, 101, 110, 97, 110, 116, 32]⟩ : ByteArray)) ++ t252).size + 8 ≤ 9223372036854775807 then ((spec_NumText.f kj3 a0_19).bind fun t253 => (if (((((((((((((((((t245 ++ (⟨#[32, 102, 114, 111, 109, 32]⟩ : ByteArray)) ++ t246) ++ (⟨#[32, 116, 111, 32]⟩ : ByteArray)) ++ t247) ++ (⟨#[32, 112, 114, 111, 116, 111, 32]⟩ : ByteArray)) ++ x3_3) ++ (⟨#[32, 115, 112, 111, 114, 116, 32]⟩ : ByteArray)) ++ t248) ++ (⟨#[45]⟩ : ByteArray)) ++ t249) ++ (⟨#[32, 100, 112, 111, 114, 116, 32]⟩ : ByteArray)) ++ t250) ++ (⟨#[45]⟩ : ByteArray)) ++ t251) ++ (⟨#[32, 116, 101, 110, 97, 110, 116, 32]⟩ : ByteArray)) ++ t252) ++ (⟨#[32, 119, 101, 105, 103, 104, 116, 32]⟩ : ByteArray)).size + t253.size ≤ 9223372036854775807 then (if ((((((((((((((((((t245 ++ (⟨#[32, 102, 114, 111, 109, 32]⟩ : ByteArray)) ++ t246) ++ (⟨#[32, 116, 111, 32]⟩ : ByteArray)) ++ t247) ++ (⟨#[32, 112, 114, 111, 116, 111, 32]⟩ : ByteArray)) ++ x3_3) ++ (⟨#[32, 115, 112, 111, 114, 116, 32]⟩ : ByteArray)) ++ t248) ++ (⟨#[45]⟩ : ByteArray)) ++ t249) ++ (⟨#[32, 100, 112, 111, 114, 116, 32]⟩ : ByteArray)) ++ t250) ++ (⟨#[45]⟩ : ByteArray)) ++ t251) ++ (⟨#[32, 116, 101, 110, 97, 110, 116, 32]⟩ : ByteArray)) ++ t252) ++ (⟨#[32, 119, 101, 105, 103, 104, 116, 32]⟩ : ByteArray)) ++ t253).size + 7 ≤ 9223372036854775807 then ((spec_NumText.f kj3 a0_20).bind fun t254 => (if (((((((((((((((((((t245 ++ (⟨#[32, 102, 114, 111, 109, 32]⟩ : ByteArray)) ++ t246) ++ (⟨#[32, 116, 111, 32]⟩ : ByteArray)) ++ t247) ++ (⟨#[32, 112, 114, 111, 116, 111, 32]⟩ : ByteArray)) ++ x3_3) ++ (⟨#[32, 115, 112, 111, 114, 116, 32]⟩ : ByteArray)) ++ t248) ++ (⟨#[45]⟩ : ByteArray)) ++ t249) ++ (⟨#[32, 100, 112, 111, 114, 116, 32]⟩ : ByteArray)) ++ t250) ++ (⟨#[45]⟩ : ByteArray)) ++ t251) ++ (⟨#[32, 116, 101, 110, 97, 110, 116, 32]⟩ : ByteArray)) ++ t252) ++ (⟨#[32, 119, 101, 105, 103, 104, 116, 32]⟩ : ByteArray)) ++ t253) ++ (⟨#[32, 99, 104, 97, 105, 110, 32]⟩ : ByteArray)).size + t254.size ≤ 9223372036854775807 then (some ((((((((((((((((((((t245 ++ (⟨#[32, 102, 114, 111, 109, 32]⟩ : ByteArray)) ++ t246) ++ (⟨#[32, 116, 111, 32]⟩ : ByteArray)) ++ t247) ++ (⟨#[32, 112, 114, 111, 116, 111, 32]⟩ : ByteArray)) ++ x3_3) ++ (⟨#[32, 115, 112, 111, 114, 116, 32]⟩ : ByteArray)) ++ t248) ++ (⟨#[45]⟩ : ByteArray)) ++ t249) ++ (⟨#[32, 100, 112, 111, 114, 116, 32]⟩ : ByteArray)) ++ t250) ++ (⟨#[45]⟩ : ByteArray)) ++ t251) ++ (⟨#[32, 116, 101, 110, 97, 110, 116, 32]⟩ : ByteArray)) ++ t252) ++ (⟨#[32, 119, 101, 105, 103, 104, 116, 32]⟩ : ByteArray)) ++ t253) ++ (⟨#[32, 99, 104, 97, 105, 110, 32]⟩ : ByteArray)) ++ t254)) else (none))) else (none)) else (none))) else (none)) else (none)) = some r := H
                   have A35 := Gv.a0 A350
                   clear A350
                   by_cases c36 : (((((((((((((((t245 ++ (⟨#[32, 102, 114, 111, 109, 32]⟩ : ByteArray)) ++ t246) ++ (⟨#[32, 116, 111, 32]⟩ : ByteArray)) ++ t247) ++ (⟨#[32, 112, 114, 111, 116, 111, 32]⟩ : ByteArray)) ++ x3_3) ++ (⟨#[32, 115, 112, 111, 114, 116, 32]⟩ : ByteArray)) ++ t248) ++ (⟨#[45]⟩ : ByteArray)) ++ t249) ++ (⟨#[32, 100, 112, 111, 114, 116, 32]⟩ : ByteArray)) ++ t250) ++ (⟨#[45]⟩ : ByteArray)) ++ t251) ++ (⟨#[32, 116, 101, 110, 97, 110, 116, 32]⟩ : ByteArray)).size + t252.size ≤ 9223372036854775807
                   ·rw [if_pos c36] at H
                    have c36b0 := eq_true c36
                    have c36b1 : decide ((((((((((((((((t245 ++ (⟨#[32, 102, 114, 111, 109, 32]⟩ : ByteArray)) ++ t246) ++ (⟨#[32, 116, 111, 32]⟩ : ByteArray)) ++ t247) ++ (⟨#[32, 112, 114, 111, 116, 111, 32]⟩ : ByteArray)) ++ x3_3) ++ (⟨#[32, 115, 112, 111, 114, 116, 32]⟩ : ByteArray)) ++ t248) ++ (⟨#[45]⟩ : ByteArray)) ++ t249) ++ (⟨#[32, 100, 112, 111, 114, 116, 32]⟩ : ByteArray)) ++ t250) ++ (⟨#[45]⟩ : ByteArray)) ++ t251) ++ (⟨#[32, 116, 101, 110, 97, 110, 116, 32]⟩ : ByteArray)).size + t252.size ≤ 9223372036854775807) = true := decide_eq_true c36
                    have c36s : t245.size + 6 + t246.size + 4 + t247.size + 7 + x3_3.size + 7 + t248.size + 1 + t249.size + 7 + t250.size + 1 + t251.size + 8 + t252.size ≤ 9223372036854775807 := (by have h_ := c36; simp only [ByteArray.size_append] at h_; exact h_)
                    have c36b3 := eq_true c36s
                    have c36b4 : decide (t245.size + 6 + t246.size + 4 + t247.size + 7 + x3_3.size + 7 + t248.size + 1 + t249.size + 7 + t250.size + 1 + t251.size + 8 + t252.size ≤ 9223372036854775807) = true := decide_eq_true c36s
                    have c36b5 : (9223372036854775807 < t245.size + 6 + t246.size + 4 + t247.size + 7 + x3_3.size + 7 + t248.size + 1 + t249.size + 7 + t250.size + 1 + t251.size + 8 + t252.size) = False := eq_false (Nat.not_lt.2 c36s)
                    clear c36s
                    try have c36b2 : (9223372036854775807 < (((((((((((((((t245 ++ (⟨#[32, 102, 114, 111, 109, 32]⟩ : ByteArray)) ++ t246) ++ (⟨#[32, 116, 111, 32]⟩ : ByteArray)) ++ t247) ++ (⟨#[32, 112, 114, 111, 116, 111, 32]⟩ : ByteArray)) ++ x3_3) ++ (⟨#[32, 115, 112, 111, 114, 116, 32]⟩ : ByteArray)) ++ t248) ++ (⟨#[45]⟩ : ByteArray)) ++ t249) ++ (⟨#[32, 100, 112, 111, 114, 116, 32]⟩ : ByteArray)) ++ t250) ++ (⟨#[45]⟩ : ByteArray)) ++ t251) ++ (⟨#[32, 116, 101, 110, 97, 110, 116, 32]⟩ : ByteArray)).size + t252.size) = False := eq_false (Nat.not_lt.2 c36)
                    by_cases c37 : ((((((((((((((((t245 ++ (⟨#[32, 102, 114, 111, 109, 32]⟩ : ByteArray)) ++ t246) ++ (⟨#[32, 116, 111, 32]⟩ : ByteArray)) ++ t247) ++ (⟨#[32, 112, 114, 111, 116, 111, 32]⟩ : ByteArray)) ++ x3_3) ++ (⟨#[32, 115, 112, 111, 114, 116, 32]⟩ : ByteArray)) ++ t248) ++ (⟨#[45]⟩ : ByteArray)) ++ t249) ++ (⟨#[32, 100, 112, 111, 114, 116, 32]⟩ : ByteArray)) ++ t250) ++ (⟨#[45]⟩ : ByteArray)) ++ t251) ++ (⟨#[32, 116, 101, 110, 97, 110, 116, 32]⟩ : ByteArray)) ++ t252).size + 8 ≤ 9223372036854775807
                    ·rw [if_pos c37] at H
                     have c37b0 := eq_true c37
                     have c37b1 : decide (((((((((((((((((t245 ++ (⟨#[32, 102, 114, 111, 109, 32]⟩ : ByteArray)) ++ t246) ++ (⟨#[32, 116, 111, 32]⟩ : ByteArray)) ++ t247) ++ (⟨#[32, 112, 114, 111, 116, 111, 32]⟩ : ByteArray)) ++ x3_3) ++ (⟨#[32, 115, 112, 111, 114, 116, 32]⟩ : ByteArray)) ++ t248) ++ (⟨#[45]⟩ : ByteArray)) ++ t249) ++ (⟨#[32, 100, 112, 111, 114, 116, 32]⟩ : ByteArray)) ++ t250) ++ (⟨#[45]⟩ : ByteArray)) ++ t251) ++ (⟨#[32, 116, 101, 110, 97, 110, 116, 32]⟩ : ByteArray)) ++ t252).size + 8 ≤ 9223372036854775807) = true := decide_eq_true c37
                     have c37s : t245.size + 6 + t246.size + 4 + t247.size + 7 + x3_3.size + 7 + t248.size + 1 + t249.size + 7 + t250.size + 1 + t251.size + 8 + t252.size + 8 ≤ 9223372036854775807 := (by have h_ := c37; simp only [ByteArray.size_append] at h_; exact h_)
                     have c37b3 := eq_true c37s
                     have c37b4 : decide (t245.size + 6 + t246.size + 4 + t247.size + 7 + x3_3.size + 7 + t248.size + 1 + t249.size + 7 + t250.size + 1 + t251.size + 8 + t252.size + 8 ≤ 9223372036854775807) = true := decide_eq_true c37s
                     have c37b5 : (9223372036854775807 < t245.size + 6 + t246.size + 4 + t247.size + 7 + x3_3.size + 7 + t248.size + 1 + t249.size + 7 + t250.size + 1 + t251.size + 8 + t252.size + 8) = False := eq_false (Nat.not_lt.2 c37s)
                     clear c37s
                     try have c37b2 : (9223372036854775807 < ((((((((((((((((t245 ++ (⟨#[32, 102, 114, 111, 109, 32]⟩ : ByteArray)) ++ t246) ++ (⟨#[32, 116, 111, 32]⟩ : ByteArray)) ++ t247) ++ (⟨#[32, 112, 114, 111, 116, 111, 32]⟩ : ByteArray)) ++ x3_3) ++ (⟨#[32, 115, 112, 111, 114, 116, 32]⟩ : ByteArray)) ++ t248) ++ (⟨#[45]⟩ : ByteArray)) ++ t249) ++ (⟨#[32, 100, 112, 111, 114, 116, 32]⟩ : ByteArray)) ++ t250) ++ (⟨#[45]⟩ : ByteArray)) ++ t251) ++ (⟨#[32, 116, 101, 110, 97, 110, 116, 32]⟩ : ByteArray)) ++ t252).size + 8) = False := eq_false (Nat.not_lt.2 c37)
                     replace H := Option.bind_eq_some_iff.mp H
                     obtain ⟨t253, A380, H⟩ := H
                     replace H : (if (((((((((((((((((t245 ++ (⟨#[32, 102, 114, 111, 109, 32]⟩ : ByteArray)) ++ t246) ++ (⟨#[32, 116, 111, 32]⟩ : ByteArray)) ++ t247) ++ (⟨#[32, 112, 114, 111, 116, 111, 32]⟩ : ByteArray)) ++ x3_3) ++ (⟨#[32, 115, 112, 111, 114, 116, 32]⟩ : ByteArray)) ++ t248) ++ (⟨#[45]⟩ : ByteArray)) ++ t249) ++ (⟨#[32, 100, 112, 111, 114, 116, 32]⟩ : ByteArray)) ++ t250) ++ (⟨#[45]⟩ : ByteArray)) ++ t251) ++ (⟨#[32, 116, 101, 110, 97, 110, 116, 32]⟩ : ByteArray)) ++ t252) ++ (⟨#[32, 119, 101, 105, 103, 104, 116, 32]⟩ : ByteArray)).size + t253.size ≤ 9223372036854775807 then (if ((((((((((((((((((t245 ++ (⟨#[32, 102, 114, 111, 109, 32]⟩ : ByteArray)) ++ t246) ++ (⟨#[32, 116, 111, 32]⟩ : ByteArray)) ++ t247) ++ (⟨#[32, 112, 114, 111, 116, 111, 32]⟩ : ByteArray)) ++ x3_3) ++ (⟨#[32, 115, 112, 111, 114, 116, 32]⟩ : ByteArray)) ++ t248) ++ (⟨#[45]⟩ : ByteArray)) ++ t249) ++ (⟨#[32, 100, 112, 111, 114, 116, 32]⟩ : ByteArray)) ++ t250) ++ (⟨#[45]⟩ : ByteArray)) ++ t251) ++ (⟨#[32, 116, 101, 110, 97, 110, 116, 32]⟩ : ByteArray)) ++ t252) ++ (⟨#[32, 119, 101, 105, 103, 104, 116, 32]⟩ : ByteArray)) ++ t253).size + 7 ≤ 9223372036854775807 then ((spec_NumText.f kj3 a0_20).bind fun t254 => (if (((((((((((((((((((t245 ++ (⟨#[32, 102, 114, 111, 109, 32]⟩ : ByteArray)) ++ t246) ++ (⟨#[32, 116, 111, 32]⟩ : ByteArray)) ++ t247) ++ (⟨#[32, 112, 114, 111, 116, 111, 32]⟩ : ByteArray)) ++ x3_3) ++ (⟨#[32, 115, 112, 111, 114, 116, 32]⟩ : ByteArray)) ++ t248) ++ (⟨#[45]⟩ : ByteArray)) ++ t249) ++ (⟨#[32, 100, 112, 111, 114, 116, 32]⟩ : ByteArray)) ++ t250) ++ (⟨#[45]⟩ : ByteArray)) ++ t251) ++ (⟨#[32, 116, 101, 110, 97, 110, 116, 32]⟩ : ByteArray)) ++ t252) ++ (⟨#[32, 119, 101, 105, 103, 104, 116, 32]⟩ : ByteArray)) ++ t253) ++ (⟨#[32, 99, 104, 97, 105, 110, 32]⟩ : ByteArray)).size + t254.size ≤ 9223372036854775807 then (some ((((((((((((((((((((t245 ++ (⟨#[32, 102, 114, 111, 109, 32]⟩ : ByteArray)) ++ t246) ++ (⟨#[32, 116, 111, 32]⟩ : ByteArray)) ++ t247) ++ (⟨#[32, 112, 114, 111, 116, 111, 32]⟩ : ByteArray)) ++ x3_3) ++ (⟨#[32, 115, 112, 111, 114, 116, 32]⟩ : ByteArray)) ++ t248) ++ (⟨#[45]⟩ : ByteArray)) ++ t249) ++ (⟨#[32, 100, 112, 111, 114, 116, 32]⟩ : ByteArray)) ++ t250) ++ (⟨#[45]⟩ : ByteArray)) ++ t251) ++ (⟨#[32, 116, 101, 110, 97, 110, 116, 32]⟩ : ByteArray)) ++ t252) ++ (⟨#[32, 119, 101, 105, 103, 104, 116, 32]⟩ : ByteArray)) ++ t253) ++ (⟨#[32, 99, 104, 97, 105, 110, 32]⟩ : ByteArray)) ++ t254)) else (none))) else (none)) else (none)) = some r := H
                     have A38 := Gv.a0 A380
                     clear A380
                     by_cases c39 : (((((((((((((((((t245 ++ (⟨#[32, 102, 114, 111, 109, 32]⟩ : ByteArray)) ++ t246) ++ (⟨#[32, 116, 111, 32]⟩ : ByteArray)) ++ t247) ++ (⟨#[32, 112, 114, 111, 116, 111, 32]⟩ : ByteArray)) ++ x3_3) ++ (⟨#[32, 115, 112, 111, 114, 116, 32]⟩ : ByteArray)) ++ t248) ++ (⟨#[45]⟩ : ByteArray)) ++ t249) ++ (⟨#[32, 100, 112, 111, 114, 116, 32]⟩ : ByteArray)) ++ t250) ++ (⟨#[45]⟩ : ByteArray)) ++ t251) ++ (⟨#[32, 116, 101, 110, 97, 110, 116, 32]⟩ : ByteArray)) ++ t252) ++ (⟨#[32, 119, 101, 105, 103, 104, 116, 32]⟩ : ByteArray)).size + t253.size ≤ 9223372036854775807
                     ·rw [if_pos c39] at H
                      have c39b0 := eq_true c39
                      have c39b1 : decide ((((((((((((((((((t245 ++ (⟨#[32, 102, 114, 111, 109, 32]⟩ : ByteArray)) ++ t246) ++ (⟨#[32, 116, 111, 32]⟩ : ByteArray)) ++ t247) ++ (⟨#[32, 112, 114, 111, 116, 111, 32]⟩ : ByteArray)) ++ x3_3) ++ (⟨#[32, 115, 112, 111, 114, 116, 32]⟩ : ByteArray)) ++ t248) ++ (⟨#[45]⟩ : ByteArray)) ++ t249) ++ (⟨#[32, 100, 112, 111, 114, 116, 32]⟩ : ByteArray)) ++ t250) ++ (⟨#[45]⟩ : ByteArray)) ++ t251) ++ (⟨#[32, 116, 101, 110, 97, 110, 116, 32]⟩ : ByteArray)) ++ t252) ++ (⟨#[32, 119, 101, 105, 103, 104, 116, 32]⟩ : ByteArray)).size + t253.size ≤ 9223372036854775807) = true := decide_eq_true c39
                      have c39s : t245.size + 6 + t246.size + 4 + t247.size + 7 + x3_3.size + 7 + t248.size + 1 + t249.size + 7 + t250.size + 1 + t251.size + 8 + t252.size + 8 + t253.size ≤ 9223372036854775807 := (by have h_ := c39; simp only [ByteArray.size_append] at h_; exact h_)
                      have c39b3 := eq_true c39s
                      have c39b4 : decide (t245.size + 6 + t246.size + 4 + t247.size + 7 + x3_3.size + 7 + t248.size + 1 + t249.size + 7 + t250.size + 1 + t251.size + 8 + t252.size + 8 + t253.size ≤ 9223372036854775807) = true := decide_eq_true c39s
                      have c39b5 : (9223372036854775807 < t245.size + 6 + t246.size + 4 + t247.size + 7 + x3_3.size + 7 + t248.size + 1 + t249.size + 7 + t250.size + 1 + t251.size + 8 + t252.size + 8 + t253.size) = False := eq_false (Nat.not_lt.2 c39s)
                      clear c39s
                      try have c39b2 : (9223372036854775807 < (((((((((((((((((t245 ++ (⟨#[32, 102, 114, 111, 109, 32]⟩ : ByteArray)) ++ t246) ++ (⟨#[32, 116, 111, 32]⟩ : ByteArray)) ++ t247) ++ (⟨#[32, 112, 114, 111, 116, 111, 32]⟩ : ByteArray)) ++ x3_3) ++ (⟨#[32, 115, 112, 111, 114, 116, 32]⟩ : ByteArray)) ++ t248) ++ (⟨#[45]⟩ : ByteArray)) ++ t249) ++ (⟨#[32, 100, 112, 111, 114, 116, 32]⟩ : ByteArray)) ++ t250) ++ (⟨#[45]⟩ : ByteArray)) ++ t251) ++ (⟨#[32, 116, 101, 110, 97, 110, 116, 32]⟩ : ByteArray)) ++ t252) ++ (⟨#[32, 119, 101, 105, 103, 104, 116, 32]⟩ : ByteArray)).size + t253.size) = False := eq_false (Nat.not_lt.2 c39)
                      by_cases c40 : ((((((((((((((((((t245 ++ (⟨#[32, 102, 114, 111, 109, 32]⟩ : ByteArray)) ++ t246) ++ (⟨#[32, 116, 111, 32]⟩ : ByteArray)) ++ t247) ++ (⟨#[32, 112, 114, 111, 116, 111, 32]⟩ : ByteArray)) ++ x3_3) ++ (⟨#[32, 115, 112, 111, 114, 116, 32]⟩ : ByteArray)) ++ t248) ++ (⟨#[45]⟩ : ByteArray)) ++ t249) ++ (⟨#[32, 100, 112, 111, 114, 116, 32]⟩ : ByteArray)) ++ t250) ++ (⟨#[45]⟩ : ByteArray)) ++ t251) ++ (⟨#[32, 116, 101, 110, 97, 110, 116, 32]⟩ : ByteArray)) ++ t252) ++ (⟨#[32, 119, 101, 105, 103, 104, 116, 32]⟩ : ByteArray)) ++ t253).size + 7 ≤ 9223372036854775807
                      ·rw [if_pos c40] at H
                       have c40b0 := eq_true c40
                       have c40b1 : decide (((((((((((((((((((t245 ++ (⟨#[32, 102, 114, 111, 109, 32]⟩ : ByteArray)) ++ t246) ++ (⟨#[32, 116, 111, 32]⟩ : ByteArray)) ++ t247) ++ (⟨#[32, 112, 114, 111, 116, 111, 32]⟩ : ByteArray)) ++ x3_3) ++ (⟨#[32, 115, 112, 111, 114, 116, 32]⟩ : ByteArray)) ++ t248) ++ (⟨#[45]⟩ : ByteArray)) ++ t249) ++ (⟨#[32, 100, 112, 111, 114, 116, 32]⟩ : ByteArray)) ++ t250) ++ (⟨#[45]⟩ : ByteArray)) ++ t251) ++ (⟨#[32, 116, 101, 110, 97, 110, 116, 32]⟩ : ByteArray)) ++ t252) ++ (⟨#[32, 119, 101, 105, 103, 104, 116, 32]⟩ : ByteArray)) ++ t253).size + 7 ≤ 9223372036854775807) = true := decide_eq_true c40
                       have c40s : t245.size + 6 + t246.size + 4 + t247.size + 7 + x3_3.size + 7 + t248.size + 1 + t249.size + 7 + t250.size + 1 + t251.size + 8 + t252.size + 8 + t253.size + 7 ≤ 9223372036854775807 := (by have h_ := c40; simp only [ByteArray.size_append] at h_; exact h_)
                       have c40b3 := eq_true c40s
                       have c40b4 : decide (t245.size + 6 + t246.size + 4 + t247.size + 7 + x3_3.size + 7 + t248.size + 1 + t249.size + 7 + t250.size + 1 + t251.size + 8 + t252.size + 8 + t253.size + 7 ≤ 9223372036854775807) = true := decide_eq_true c40s
                       have c40b5 : (9223372036854775807 < t245.size + 6 + t246.size + 4 + t247.size + 7 + x3_3.size + 7 + t248.size + 1 + t249.size + 7 + t250.size + 1 + t251.size + 8 + t252.size + 8 + t253.size + 7) = False := eq_false (Nat.not_lt.2 c40s)
                       clear c40s
                       try have c40b2 : (9223372036854775807 < ((((((((((((((((((t245 ++ (⟨#[32, 102, 114, 111, 109, 32]⟩ : ByteArray)) ++ t246) ++ (⟨#[32, 116, 111, 32]⟩ : ByteArray)) ++ t247) ++ (⟨#[32, 112, 114, 111, 116, 111, 32]⟩ : ByteArray)) ++ x3_3) ++ (⟨#[32, 115, 112, 111, 114, 116, 32]⟩ : ByteArray)) ++ t248) ++ (⟨#[45]⟩ : ByteArray)) ++ t249) ++ (⟨#[32, 100, 112, 111, 114, 116, 32]⟩ : ByteArray)) ++ t250) ++ (⟨#[45]⟩ : ByteArray)) ++ t251) ++ (⟨#[32, 116, 101, 110, 97, 110, 116, 32]⟩ : ByteArray)) ++ t252) ++ (⟨#[32, 119, 101, 105, 103, 104, 116, 32]⟩ : ByteArray)) ++ t253).size + 7) = False := eq_false (Nat.not_lt.2 c40)
                       replace H := Option.bind_eq_some_iff.mp H
                       obtain ⟨t254, A410, H⟩ := H
                       replace H : (if (((((((((((((((((((t245 ++ (⟨#[32, 102, 114, 111, 109, 32]⟩ : ByteArray)) ++ t246) ++ (⟨#[32, 116, 111, 32]⟩ : ByteArray)) ++ t247) ++ (⟨#[32, 112, 114, 111, 116, 111, 32]⟩ : ByteArray)) ++ x3_3) ++ (⟨#[32, 115, 112, 111, 114, 116, 32]⟩ : ByteArray)) ++ t248) ++ (⟨#[45]⟩ : ByteArray)) ++ t249) ++ (⟨#[32, 100, 112, 111, 114, 116, 32]⟩ : ByteArray)) ++ t250) ++ (⟨#[45]⟩ : ByteArray)) ++ t251) ++ (⟨#[32, 116, 101, 110, 97, 110, 116, 32]⟩ : ByteArray)) ++ t252) ++ (⟨#[32, 119, 101, 105, 103, 104, 116, 32]⟩ : ByteArray)) ++ t253) ++ (⟨#[32, 99, 104, 97, 105, 110, 32]⟩ : ByteArray)).size + t254.size ≤ 9223372036854775807 then (some ((((((((((((((((((((t245 ++ (⟨#[32, 102, 114, 111, 109, 32]⟩ : ByteArray)) ++ t246) ++ (⟨#[32, 116, 111, 32]⟩ : ByteArray)) ++ t247) ++ (⟨#[32, 112, 114, 111, 116, 111, 32]⟩ : ByteArray)) ++ x3_3) ++ (⟨#[32, 115, 112, 111, 114, 116, 32]⟩ : ByteArray)) ++ t248) ++ (⟨#[45]⟩ : ByteArray)) ++ t249) ++ (⟨#[32, 100, 112, 111, 114, 116, 32]⟩ : ByteArray)) ++ t250) ++ (⟨#[45]⟩ : ByteArray)) ++ t251) ++ (⟨#[32, 116, 101, 110, 97, 110, 116, 32]⟩ : ByteArray)) ++ t252) ++ (⟨#[32, 119, 101, 105, 103, 104, 116, 32]⟩ : ByteArray)) ++ t253) ++ (⟨#[32, 99, 104, 97, 105, 110, 32]⟩ : ByteArray)) ++ t254)) else (none)) = some r := H
                       have A41 := Gv.a0 A410
                       clear A410
                       by_cases c42 : (((((((((((((((((((t245 ++ (⟨#[32, 102, 114, 111, 109, 32]⟩ : ByteArray)) ++ t246) ++ (⟨#[32, 116, 111, 32]⟩ : ByteArray)) ++ t247) ++ (⟨#[32, 112, 114, 111, 116, 111, 32]⟩ : ByteArray)) ++ x3_3) ++ (⟨#[32, 115, 112, 111, 114, 116, 32]⟩ : ByteArray)) ++ t248) ++ (⟨#[45]⟩ : ByteArray)) ++ t249) ++ (⟨#[32, 100, 112, 111, 114, 116, 32]⟩ : ByteArray)) ++ t250) ++ (⟨#[45]⟩ : ByteArray)) ++ t251) ++ (⟨#[32, 116, 101, 110, 97, 110, 116, 32]⟩ : ByteArray)) ++ t252) ++ (⟨#[32, 119, 101, 105, 103, 104, 116, 32]⟩ : ByteArray)) ++ t253) ++ (⟨#[32, 99, 104, 97, 105, 110, 32]⟩ : ByteArray)).size + t254.size ≤ 9223372036854775807
                       ·rw [if_pos c42] at H
                        have c42b0 := eq_true c42
                        have c42b1 : decide ((((((((((((((((((((t245 ++ (⟨#[32, 102, 114, 111, 109, 32]⟩ : ByteArray)) ++ t246) ++ (⟨#[32, 116, 111, 32]⟩ : ByteArray)) ++ t247) ++ (⟨#[32, 112, 114, 111, 116, 111, 32]⟩ : ByteArray)) ++ x3_3) ++ (⟨#[32, 115, 112, 111, 114, 116, 32]⟩ : ByteArray)) ++ t248) ++ (⟨#[45]⟩ : ByteArray)) ++ t249) ++ (⟨#[32, 100, 112, 111, 114, 116, 32]⟩ : ByteArray)) ++ t250) ++ (⟨#[45]⟩ : ByteArray)) ++ t251) ++ (⟨#[32, 116, 101, 110, 97, 110, 116, 32]⟩ : ByteArray)) ++ t252) ++ (⟨#[32, 119, 101, 105, 103, 104, 116, 32]⟩ : ByteArray)) ++ t253) ++ (⟨#[32, 99, 104, 97, 105, 110, 32]⟩ : ByteArray)).size + t254.size ≤ 9223372036854775807) = true := decide_eq_true c42
                        have c42s : t245.size + 6 + t246.size + 4 + t247.size + 7 + x3_3.size + 7 + t248.size + 1 + t249.size + 7 + t250.size + 1 + t251.size + 8 + t252.size + 8 + t253.size + 7 + t254.size ≤ 9223372036854775807 := (by have h_ := c42; simp only [ByteArray.size_append] at h_; exact h_)
                        have c42b3 := eq_true c42s
                        have c42b4 : decide (t245.size + 6 + t246.size + 4 + t247.size + 7 + x3_3.size + 7 + t248.size + 1 + t249.size + 7 + t250.size + 1 + t251.size + 8 + t252.size + 8 + t253.size + 7 + t254.size ≤ 9223372036854775807) = true := decide_eq_true c42s
                        have c42b5 : (9223372036854775807 < t245.size + 6 + t246.size + 4 + t247.size + 7 + x3_3.size + 7 + t248.size + 1 + t249.size + 7 + t250.size + 1 + t251.size + 8 + t252.size + 8 + t253.size + 7 + t254.size) = False := eq_false (Nat.not_lt.2 c42s)
                        clear c42s
                        try have c42b2 : (9223372036854775807 < (((((((((((((((((((t245 ++ (⟨#[32, 102, 114, 111, 109, 32]⟩ : ByteArray)) ++ t246) ++ (⟨#[32, 116, 111, 32]⟩ : ByteArray)) ++ t247) ++ (⟨#[32, 112, 114, 111, 116, 111, 32]⟩ : ByteArray)) ++ x3_3) ++ (⟨#[32, 115, 112, 111, 114, 116, 32]⟩ : ByteArray)) ++ t248) ++ (⟨#[45]⟩ : ByteArray)) ++ t249) ++ (⟨#[32, 100, 112, 111, 114, 116, 32]⟩ : ByteArray)) ++ t250) ++ (⟨#[45]⟩ : ByteArray)) ++ t251) ++ (⟨#[32, 116, 101, 110, 97, 110, 116, 32]⟩ : ByteArray)) ++ t252) ++ (⟨#[32, 119, 101, 105, 103, 104, 116, 32]⟩ : ByteArray)) ++ t253) ++ (⟨#[32, 99, 104, 97, 105, 110, 32]⟩ : ByteArray)).size + t254.size) = False := eq_false (Nat.not_lt.2 c42)
                        obtain rfl := Option.some.inj H
                        try go_wp2
                        have n0_ := Gv.a0 (blk_drew BK242.out)
                        have n1_ := Gv.a0 (below_drew1 HB.out)
                        clear BK242
                        clear HB
                        have BK242 := n0_
                        have HB := n1_
                        clear n0_ n1_
                        refine start_ (n := 17) (S := fun w' => w'.cell? ⟨gb242, 0, none⟩ = some (.int .i64 a0_0) ∧ w'.cell? ⟨gb242, 1, none⟩ = some (.int .i64 a0_1) ∧ w'.cell? ⟨gb242, 2, none⟩ = some (.int .i64 a0_2) ∧ w'.cell? ⟨gb242, 3, none⟩ = some (.int .i64 a0_3) ∧ w'.cell? ⟨gb242, 4, none⟩ = some (.int .i64 a0_4) ∧ w'.cell? ⟨gb242, 5, none⟩ = some (.int .i64 a0_5) ∧ w'.cell? ⟨gb242, 6, none⟩ = some (.int .i64 a0_6) ∧ w'.cell? ⟨gb242, 7, none⟩ = some (.int .i64 a0_7) ∧ w'.cell? ⟨gb242, 8, none⟩ = some (.int .i64 a0_8) ∧ w'.cell? ⟨gb242, 9, none⟩ = some (.int .i64 a0_9) ∧ w'.cell? ⟨gb242, 10, none⟩ = some (.int .i64 a0_10) ∧ w'.cell? ⟨gb242, 11, none⟩ = some (.int .i64 a0_11) ∧ w'.cell? ⟨gb242, 12, none⟩ = some (.int .i64 a0_12) ∧ w'.cell? ⟨gb242, 13, none⟩ = some (.int .i64 a0_13) ∧ w'.cell? ⟨gb242, 14, none⟩ = some (.int .i64 a0_14) ∧ w'.cell? ⟨gb242, 15, none⟩ = some (.int .i64 a0_15) ∧ w'.cell? ⟨gb242, 16, none⟩ = some (.int .i64 a0_16) ∧ w'.cell? ⟨gb242, 17, none⟩ = some (.int .i64 a0_17) ∧ w'.cell? ⟨gb242, 18, none⟩ = some (.int .i64 a0_18) ∧ w'.cell? ⟨gb242, 19, none⟩ = some (.int .i64 a0_19) ∧ w'.cell? ⟨gb242, 20, none⟩ = some (.int .i64 a0_20)) (ds := []) #[false, false, false, false, false, false, false, false, false, false, false, false, false, false, false, false, false] (by kernel_rfl) rfl rfl ⟨(blk_cell BK242.out 0).trans rfl, (blk_cell BK242.out 1).trans rfl, (blk_cell BK242.out 2).trans rfl, (blk_cell BK242.out 3).trans rfl, (blk_cell BK242.out 4).trans rfl, (blk_cell BK242.out 5).trans rfl, (blk_cell BK242.out 6).trans rfl, (blk_cell BK242.out 7).trans rfl, (blk_cell BK242.out 8).trans rfl, (blk_cell BK242.out 9).trans rfl, (blk_cell BK242.out 10).trans rfl, (blk_cell BK242.out 11).trans rfl, (blk_cell BK242.out 12).trans rfl, (blk_cell BK242.out 13).trans rfl, (blk_cell BK242.out 14).trans rfl, (blk_cell BK242.out 15).trans rfl, (blk_cell BK242.out 16).trans rfl, (blk_cell BK242.out 17).trans rfl, (blk_cell BK242.out 18).trans rfl, (blk_cell BK242.out 19).trans rfl, (blk_cell BK242.out 20).trans rfl⟩ (fun hHeld => ?_); refine with_tabW spec_RuleText.tab6 spec_RuleText.bits6 (fun HT_ HW_ => ?_)
                        generalize wc.drew = w43 at BK242 HB hHeld ⊢
                        refine Gv.pu 0 (some 14) HT_ ?_
                        refine Gv.pu 4 (some 18) HT_ ?_
                        refine Gv.pu 9 (some 23) HT_ ?_
                        refine Gv.pu 14 (some 28) HT_ ?_
                        refine take_ (i := 1) (N := some 15) (v := ?_) (a' := ?_) #[true, true, false, false, true, false, false, false, false, true, false, false, false, false, true, false, false] rfl rfl (take_ofW HT_.out HW_.out (by kernel_rfl)) (fun _ _ _ h => h) (Or.inl ⟨by rfl, ?_⟩) hHeld ?_ ?_
                        rotate_left
                        ·rintro w' ⟨s0, s1, s2, s3, s4, s5, s6, s7, s8, s9, s10, s11, s12, s13, s14, s15, s16, s17, s18, s19, s20⟩
                         first | ((refine Gv.load_run (t := 33) (A := ⟨gb242, 0, none⟩) (cs := [_, _, _, _, _, _, _, _, _, _, _, _, _, _, _, _, _, _, _, _, _]) (x := ?xx1_) ?ho1_ ?hx1_ ⟨s0, s1, s2, s3, s4, s5, s6, s7, s8, s9, s10, s11, s12, s13, s14, s15, s16, s17, s18, s19, s20, trivial⟩ Try.underlying33 rfl (by kernel_rfl)); (case ho1_ => rfl); (case hx1_ => rfl)) | (go_simp; with_reducible rfl)
                        rotate_left
                        ·simp only [Act.put, List.setIfInBounds_toArray, List.set_cons_zero, List.set_cons_succ, i64_w, i32_w]
                         rfl
                        refine take_ (i := 5) (N := some 19) (v := ?_) (a' := ?_) #[true, true, false, false, true, true, false, false, false, true, false, false, false, false, true, false, false] rfl rfl (take_ofW HT_.out HW_.out (by kernel_rfl)) (fun _ _ _ h => h) (Or.inl ⟨by rfl, ?_⟩) hHeld ?_ ?_
                        rotate_left
                        ·rintro w' ⟨s0, s1, s2, s3, s4, s5, s6, s7, s8, s9, s10, s11, s12, s13, s14, s15, s16, s17, s18, s19, s20⟩
                         first | ((refine Gv.load_run (t := 33) (A := ⟨gb242, 0, none⟩) (cs := [_, _, _, _, _, _, _, _, _, _, _, _, _, _, _, _, _, _, _, _, _]) (x := ?xx3_) ?ho3_ ?hx3_ ⟨s0, s1, s2, s3, s4, s5, s6, s7, s8, s9, s10, s11, s12, s13, s14, s15, s16, s17, s18, s19, s20, trivial⟩ Try.underlying33 rfl (by kernel_rfl)); (case ho3_ => rfl); (case hx3_ => rfl)) | (go_simp; with_reducible rfl)
                        rotate_left
                        ·simp only [Act.put, List.setIfInBounds_toArray, List.set_cons_zero, List.set_cons_succ, i64_w, i32_w]
                         rfl
                        refine take_ (i := 10) (N := some 24) (v := ?_) (a' := ?_) #[true, true, false, false, true, true, false, false, false, true, true, false, false, false, true, false, false] rfl rfl (take_ofW HT_.out HW_.out (by kernel_rfl)) (fun _ _ _ h => h) (Or.inl ⟨by rfl, ?_⟩) hHeld ?_ ?_
                        rotate_left
                        ·rintro w' ⟨s0, s1, s2, s3, s4, s5, s6, s7, s8, s9, s10, s11, s12, s13, s14, s15, s16, s17, s18, s19, s20⟩
                         first | ((refine Gv.load_run (t := 33) (A := ⟨gb242, 0, none⟩) (cs := [_, _, _, _, _, _, _, _, _, _, _, _, _, _, _, _, _, _, _, _, _]) (x := ?xx5_) ?ho5_ ?hx5_ ⟨s0, s1, s2, s3, s4, s5, s6, s7, s8, s9, s10, s11, s12, s13, s14, s15, s16, s17, s18, s19, s20, trivial⟩ Try.underlying33 rfl (by kernel_rfl)); (case ho5_ => rfl); (case hx5_ => rfl)) | (go_simp; with_reducible rfl)
                        rotate_left
                        ·simp only [Act.put, List.setIfInBounds_toArray, List.set_cons_zero, List.set_cons_succ, i64_w, i32_w]
                         rfl
                        refine one_ (i := 2) (N := some 16) #[true, true, true, false, true, true, false, false, false, true, true, false, false, false, true, false, false] rfl rfl (one_of HT_.out (by kernel_rfl)) (by decide) (fun K hK => ?_)
                        refine goes_ Tryd.func8 (by kernel_rfl) rfl #[.int .i64 a0_0] (by rfl) rfl rfl Gv.lm ?_
                        with_reducible refine (spec_NumText.calls kj3 a0_0 t245 _ A13.out).mono ?_
                        rintro e w44 ⟨rfl, hb⟩
                        refine ⟨_, rfl, ?_⟩
                        have n0_ := Gv.a0 (Gv.bb BK242.out hb)
                        have n1_ := Gv.a0 (below_step Gv.bw hb)
                        clear BK242
                        clear HB
                        have BK242 := n0_
                        have HB := n1_
                        clear n0_ n1_
                        (try clear hb)
                        (try clear hb2)
                        (try clear hk)
                        (try clear hi)
                        refine hK.out _ _ ⟨(blk_cell BK242.out 0).trans rfl, (blk_cell BK242.out 1).trans rfl, (blk_cell BK242.out 2).trans rfl, (blk_cell BK242.out 3).trans rfl, (blk_cell BK242.out 4).trans rfl, (blk_cell BK242.out 5).trans rfl, (blk_cell BK242.out 6).trans rfl, (blk_cell BK242.out 7).trans rfl, (blk_cell BK242.out 8).trans rfl, (blk_cell BK242.out 9).trans rfl, (blk_cell BK242.out 10).trans rfl, (blk_cell BK242.out 11).trans rfl, (blk_cell BK242.out 12).trans rfl, (blk_cell BK242.out 13).trans rfl, (blk_cell BK242.out 14).trans rfl, (blk_cell BK242.out 15).trans rfl, (blk_cell BK242.out 16).trans rfl, (blk_cell BK242.out 17).trans rfl, (blk_cell BK242.out 18).trans rfl, (blk_cell BK242.out 19).trans rfl, (blk_cell BK242.out 20).trans rfl⟩ (fun hHeld => ?_)
                        clear hK K
                        refine norm_ (a' := ?_) ?_ ?_
                        rotate_left
                        ·show Act.put _ (some 16) _ = _
                         simp only [Act.put, List.setIfInBounds_toArray, List.set_cons_zero, List.set_cons_succ, i64_w, i32_w]
                         rfl
                        refine Gv.pu 3 (some 17) HT_ ?_
                        refine one_ (i := 6) (N := some 20) #[true, true, true, true, true, true, true, false, false, true, true, false, false, false, true, false, false] rfl rfl (one_of HT_.out (by kernel_rfl)) (by decide) (fun K hK => ?_)
                        refine goes_ Tryd.func9 (by kernel_rfl) rfl #[.agg #[.int .i64 a0_1, .int .i64 a0_2, .int .i64 a0_3, .int .i64 a0_4, .int .i64 a0_5, .int .i64 a0_6]] (by rfl) rfl rfl Gv.lm ?_
                        with_reducible refine (spec_PrefixText.calls kj3 a0_1 a0_2 a0_3 a0_4 a0_5 a0_6 t246 _ A15.out).mono ?_
                        rintro e w45 ⟨rfl, hb⟩
                        refine ⟨_, rfl, ?_⟩
                        have n0_ := Gv.a0 (Gv.bb BK242.out hb)
                        have n1_ := Gv.a0 (below_step Gv.bw hb)
                        clear BK242
                        clear HB
                        have BK242 := n0_
                        have HB := n1_
                        clear n0_ n1_
                        (try clear hb)
                        (try clear hb2)
                        (try clear hk)
                        (try clear hi)
                        refine hK.out _ _ ⟨(blk_cell BK242.out 0).trans rfl, (blk_cell BK242.out 1).trans rfl, (blk_cell BK242.out 2).trans rfl, (blk_cell BK242.out 3).trans rfl, (blk_cell BK242.out 4).trans rfl, (blk_cell BK242.out 5).trans rfl, (blk_cell BK242.out 6).trans rfl, (blk_cell BK242.out 7).trans rfl, (blk_cell BK242.out 8).trans rfl, (blk_cell BK242.out 9).trans rfl, (blk_cell BK242.out 10).trans rfl, (blk_cell BK242.out 11).trans rfl, (blk_cell BK242.out 12).trans rfl, (blk_cell BK242.out 13).trans rfl, (blk_cell BK242.out 14).trans rfl, (blk_cell BK242.out 15).trans rfl, (blk_cell BK242.out 16).trans rfl, (blk_cell BK242.out 17).trans rfl, (blk_cell BK242.out 18).trans rfl, (blk_cell BK242.out 19).trans rfl, (blk_cell BK242.out 20).trans rfl⟩ (fun hHeld => ?_)
                        clear hK K
                        refine norm_ (a' := ?_) ?_ ?_
                        rotate_left
                        ·show Act.put _ (some 20) _ = _
                         simp only [Act.put, List.setIfInBounds_toArray, List.set_cons_zero, List.set_cons_succ, i64_w, i32_w]
                         rfl
                        refine Gv.pu 7 (some 21) HT_ ?_
                        refine Gv.pu 8 (some 22) HT_ ?_
                        refine one_ (i := 11) (N := some 25) #[true, true, true, true, true, true, true, true, true, true, true, true, false, false, true, false, false] rfl rfl (one_of HT_.out (by kernel_rfl)) (by decide) (fun K hK => ?_)
                        refine goes_ Tryd.func9 (by kernel_rfl) rfl #[.agg #[.int .i64 a0_7, .int .i64 a0_8, .int .i64 a0_9, .int .i64 a0_10, .int .i64 a0_11, .int .i64 a0_12]] (by rfl) rfl rfl Gv.lm ?_
                        with_reducible refine (spec_PrefixText.calls kj3 a0_7 a0_8 a0_9 a0_10 a0_11 a0_12 t247 _ A18.out).mono ?_
                        rintro e w46 ⟨rfl, hb⟩
                        refine ⟨_, rfl, ?_⟩
                        have n0_ := Gv.a0 (Gv.bb BK242.out hb)
                        have n1_ := Gv.a0 (below_step Gv.bw hb)
                        clear BK242
                        clear HB
                        have BK242 := n0_
                        have HB := n1_
                        clear n0_ n1_
                        (try clear hb)
                        (try clear hb2)
                        (try clear hk)
                        (try clear hi)
                        refine hK.out _ _ ⟨(blk_cell BK242.out 0).trans rfl, (blk_cell BK242.out 1).trans rfl, (blk_cell BK242.out 2).trans rfl, (blk_cell BK242.out 3).trans rfl, (blk_cell BK242.out 4).trans rfl, (blk_cell BK242.out 5).trans rfl, (blk_cell BK242.out 6).trans rfl, (blk_cell BK242.out 7).trans rfl, (blk_cell BK242.out 8).trans rfl, (blk_cell BK242.out 9).trans rfl, (blk_cell BK242.out 10).trans rfl, (blk_cell BK242.out 11).trans rfl, (blk_cell BK242.out 12).trans rfl, (blk_cell BK242.out 13).trans rfl, (blk_cell BK242.out 14).trans rfl, (blk_cell BK242.out 15).trans rfl, (blk_cell BK242.out 16).trans rfl, (blk_cell BK242.out 17).trans rfl, (blk_cell BK242.out 18).trans rfl, (blk_cell BK242.out 19).trans rfl, (blk_cell BK242.out 20).trans rfl⟩ (fun hHeld => ?_)
                        clear hK K
                        refine norm_ (a' := ?_) ?_ ?_
                        rotate_left
                        ·show Act.put _ (some 25) _ = _
                         simp only [Act.put, List.setIfInBounds_toArray, List.set_cons_zero, List.set_cons_succ, i64_w, i32_w]
                         rfl
                        refine Gv.pu 12 (some 26) HT_ ?_
                        refine Gv.pu 13 (some 27) HT_ ?_
                        refine Gv.pu 15 (some 29) HT_ ?_
                        refine Gv.pu 16 (some 4) HT_ ?_
                        refine done_ (done_of HT_.out (by kernel_rfl)) ?_
                        try go_wp2
                        have n0_ := Gv.a0 (blk_drew BK242.out)
                        have n1_ := Gv.a0 (below_drew1 HB.out)
                        clear BK242
                        clear HB
                        have BK242 := n0_
                        have HB := n1_
                        clear n0_ n1_
                        refine start_ (n := 22) (S := fun w' => w'.cell? ⟨gb242, 0, none⟩ = some (.int .i64 a0_0) ∧ w'.cell? ⟨gb242, 1, none⟩ = some (.int .i64 a0_1) ∧ w'.cell? ⟨gb242, 2, none⟩ = some (.int .i64 a0_2) ∧ w'.cell? ⟨gb242, 3, none⟩ = some (.int .i64 a0_3) ∧ w'.cell? ⟨gb242, 4, none⟩ = some (.int .i64 a0_4) ∧ w'.cell? ⟨gb242, 5, none⟩ = some (.int .i64 a0_5) ∧ w'.cell? ⟨gb242, 6, none⟩ = some (.int .i64 a0_6) ∧ w'.cell? ⟨gb242, 7, none⟩ = some (.int .i64 a0_7) ∧ w'.cell? ⟨gb242, 8, none⟩ = some (.int .i64 a0_8) ∧ w'.cell? ⟨gb242, 9, none⟩ = some (.int .i64 a0_9) ∧ w'.cell? ⟨gb242, 10, none⟩ = some (.int .i64 a0_10) ∧ w'.cell? ⟨gb242, 11, none⟩ = some (.int .i64 a0_11) ∧ w'.cell? ⟨gb242, 12, none⟩ = some (.int .i64 a0_12) ∧ w'.cell? ⟨gb242, 13, none⟩ = some (.int .i64 a0_13) ∧ w'.cell? ⟨gb242, 14, none⟩ = some (.int .i64 a0_14) ∧ w'.cell? ⟨gb242, 15, none⟩ = some (.int .i64 a0_15) ∧ w'.cell? ⟨gb242, 16, none⟩ = some (.int .i64 a0_16) ∧ w'.cell? ⟨gb242, 17, none⟩ = some (.int .i64 a0_17) ∧ w'.cell? ⟨gb242, 18, none⟩ = some (.int .i64 a0_18) ∧ w'.cell? ⟨gb242, 19, none⟩ = some (.int .i64 a0_19) ∧ w'.cell? ⟨gb242, 20, none⟩ = some (.int .i64 a0_20)) (ds := []) #[false, false, false, false, false, false, false, false, false, false, false, false, false, false, false, false, false, false, false, false, false, false] (by kernel_rfl) rfl rfl ⟨(blk_cell BK242.out 0).trans rfl, (blk_cell BK242.out 1).trans rfl, (blk_cell BK242.out 2).trans rfl, (blk_cell BK242.out 3).trans rfl, (blk_cell BK242.out 4).trans rfl, (blk_cell BK242.out 5).trans rfl, (blk_cell BK242.out 6).trans rfl, (blk_cell BK242.out 7).trans rfl, (blk_cell BK242.out 8).trans rfl, (blk_cell BK242.out 9).trans rfl, (blk_cell BK242.out 10).trans rfl, (blk_cell BK242.out 11).trans rfl, (blk_cell BK242.out 12).trans rfl, (blk_cell BK242.out 13).trans rfl, (blk_cell BK242.out 14).trans rfl, (blk_cell BK242.out 15).trans rfl, (blk_cell BK242.out 16).trans rfl, (blk_cell BK242.out 17).trans rfl, (blk_cell BK242.out 18).trans rfl, (blk_cell BK242.out 19).trans rfl, (blk_cell BK242.out 20).trans rfl⟩ (fun hHeld => ?_); refine with_tabW spec_RuleText.tab7 spec_RuleText.bits7 (fun HT_ HW_ => ?_)
                        generalize w46.drew = w47 at BK242 HB hHeld ⊢
                        refine Gv.pu 0 (some 30) HT_ ?_
                        refine Gv.pu 1 (some 31) HT_ ?_
                        refine Gv.pu 2 (some 32) HT_ ?_
                        refine Gv.pu 7 (some 37) HT_ ?_
                        refine Gv.pu 12 (some 42) HT_ ?_
                        refine Gv.pu 17 (some 47) HT_ ?_
                        refine take_ (i := 3) (N := some 33) (v := ?_) (a' := ?_) #[true, true, true, true, false, false, false, true, false, false, false, false, true, false, false, false, false, true, false, false, false, false] rfl rfl (take_ofW HT_.out HW_.out (by kernel_rfl)) (fun _ _ _ h => h) (Or.inl ⟨by rfl, ?_⟩) hHeld ?_ ?_
                        rotate_left
                        ·rintro w' ⟨s0, s1, s2, s3, s4, s5, s6, s7, s8, s9, s10, s11, s12, s13, s14, s15, s16, s17, s18, s19, s20⟩
                         first | ((refine Gv.load_run (t := 33) (A := ⟨gb242, 0, none⟩) (cs := [_, _, _, _, _, _, _, _, _, _, _, _, _, _, _, _, _, _, _, _, _]) (x := ?xx7_) ?ho7_ ?hx7_ ⟨s0, s1, s2, s3, s4, s5, s6, s7, s8, s9, s10, s11, s12, s13, s14, s15, s16, s17, s18, s19, s20, trivial⟩ Try.underlying33 rfl (by kernel_rfl)); (case ho7_ => rfl); (case hx7_ => rfl)) | (go_simp; with_reducible rfl)
                        rotate_left
                        ·simp only [Act.put, List.setIfInBounds_toArray, List.set_cons_zero, List.set_cons_succ, i64_w, i32_w]
                         rfl
                        refine take_ (i := 8) (N := some 38) (v := ?_) (a' := ?_) #[true, true, true, true, false, false, false, true, true, false, false, false, true, false, false, false, false, true, false, false, false, false] rfl rfl (take_ofW HT_.out HW_.out (by kernel_rfl)) (fun _ _ _ h => h) (Or.inl ⟨by rfl, ?_⟩) hHeld ?_ ?_
                        rotate_left
                        ·rintro w' ⟨s0, s1, s2, s3, s4, s5, s6, s7, s8, s9, s10, s11, s12, s13, s14, s15, s16, s17, s18, s19, s20⟩
                         first | ((refine Gv.load_run (t := 33) (A := ⟨gb242, 0, none⟩) (cs := [_, _, _, _, _, _, _, _, _, _, _, _, _, _, _, _, _, _, _, _, _]) (x := ?xx9_) ?ho9_ ?hx9_ ⟨s0, s1, s2, s3, s4, s5, s6, s7, s8, s9, s10, s11, s12, s13, s14, s15, s16, s17, s18, s19, s20, trivial⟩ Try.underlying33 rfl (by kernel_rfl)); (case ho9_ => rfl); (case hx9_ => rfl)) | (go_simp; with_reducible rfl)
                        rotate_left
                        ·simp only [Act.put, List.setIfInBounds_toArray, List.set_cons_zero, List.set_cons_succ, i64_w, i32_w]
                         rfl
                        refine take_ (i := 13) (N := some 43) (v := ?_) (a' := ?_) #[true, true, true, true, false, false, false, true, true, false, false, false, true, true, false, false, false, true, false, false, false, false] rfl rfl (take_ofW HT_.out HW_.out (by kernel_rfl)) (fun _ _ _ h => h) (Or.inl ⟨by rfl, ?_⟩) hHeld ?_ ?_
                        rotate_left
                        ·rintro w' ⟨s0, s1, s2, s3, s4, s5, s6, s7, s8, s9, s10, s11, s12, s13, s14, s15, s16, s17, s18, s19, s20⟩
                         first | ((refine Gv.load_run (t := 33) (A := ⟨gb242, 0, none⟩) (cs := [_, _, _, _, _, _, _, _, _, _, _, _, _, _, _, _, _, _, _, _, _]) (x := ?xx11_) ?ho11_ ?hx11_ ⟨s0, s1, s2, s3, s4, s5, s6, s7, s8, s9, s10, s11, s12, s13, s14, s15, s16, s17, s18, s19, s20, trivial⟩ Try.underlying33 rfl (by kernel_rfl)); (case ho11_ => rfl); (case hx11_ => rfl)) | (go_simp; with_reducible rfl)
                        rotate_left
                        ·simp only [Act.put, List.setIfInBounds_toArray, List.set_cons_zero, List.set_cons_succ, i64_w, i32_w]
                         rfl
                        refine take_ (i := 18) (N := some 48) (v := ?_) (a' := ?_) #[true, true, true, true, false, false, false, true, true, false, false, false, true, true, false, false, false, true, true, false, false, false] rfl rfl (take_ofW HT_.out HW_.out (by kernel_rfl)) (fun _ _ _ h => h) (Or.inl ⟨by rfl, ?_⟩) hHeld ?_ ?_
                        rotate_left
                        ·rintro w' ⟨s0, s1, s2, s3, s4, s5, s6, s7, s8, s9, s10, s11, s12, s13, s14, s15, s16, s17, s18, s19, s20⟩
                         first | ((refine Gv.load_run (t := 33) (A := ⟨gb242, 0, none⟩) (cs := [_, _, _, _, _, _, _, _, _, _, _, _, _, _, _, _, _, _, _, _, _]) (x := ?xx13_) ?ho13_ ?hx13_ ⟨s0, s1, s2, s3, s4, s5, s6, s7, s8, s9, s10, s11, s12, s13, s14, s15, s16, s17, s18, s19, s20, trivial⟩ Try.underlying33 rfl (by kernel_rfl)); (case ho13_ => rfl); (case hx13_ => rfl)) | (go_simp; with_reducible rfl)
                        rotate_left
                        ·simp only [Act.put, List.setIfInBounds_toArray, List.set_cons_zero, List.set_cons_succ, i64_w, i32_w]
                         rfl
                        refine one_ (i := 4) (N := some 34) #[true, true, true, true, true, false, false, true, true, false, false, false, true, true, false, false, false, true, true, false, false, false] rfl rfl (one_of HT_.out (by kernel_rfl)) (by decide) (fun K hK => ?_)
                        refine goes_ Tryd.func8 (by kernel_rfl) rfl #[.int .i64 a0_14] (by rfl) rfl rfl Gv.lm ?_
                        with_reducible refine (spec_NumText.calls kj3 a0_14 t248 _ A23.out).mono ?_
                        rintro e w48 ⟨rfl, hb⟩
                        refine ⟨_, rfl, ?_⟩
                        have n0_ := Gv.a0 (Gv.bb BK242.out hb)
                        have n1_ := Gv.a0 (below_step Gv.bw hb)
                        clear BK242
                        clear HB
                        have BK242 := n0_
                        have HB := n1_
                        clear n0_ n1_
                        (try clear hb)
                        (try clear hb2)
                        (try clear hk)
                        (try clear hi)
                        refine hK.out _ _ ⟨(blk_cell BK242.out 0).trans rfl, (blk_cell BK242.out 1).trans rfl, (blk_cell BK242.out 2).trans rfl, (blk_cell BK242.out 3).trans rfl, (blk_cell BK242.out 4).trans rfl, (blk_cell BK242.out 5).trans rfl, (blk_cell BK242.out 6).trans rfl, (blk_cell BK242.out 7).trans rfl, (blk_cell BK242.out 8).trans rfl, (blk_cell BK242.out 9).trans rfl, (blk_cell BK242.out 10).trans rfl, (blk_cell BK242.out 11).trans rfl, (blk_cell BK242.out 12).trans rfl, (blk_cell BK242.out 13).trans rfl, (blk_cell BK242.out 14).trans rfl, (blk_cell BK242.out 15).trans rfl, (blk_cell BK242.out 16).trans rfl, (blk_cell BK242.out 17).trans rfl, (blk_cell BK242.out 18).trans rfl, (blk_cell BK242.out 19).trans rfl, (blk_cell BK242.out 20).trans rfl⟩ (fun hHeld => ?_)
                        clear hK K
                        refine norm_ (a' := ?_) ?_ ?_
                        rotate_left
                        ·show Act.put _ (some 34) _ = _
                         simp only [Act.put, List.setIfInBounds_toArray, List.set_cons_zero, List.set_cons_succ, i64_w, i32_w]
                         rfl
                        refine Gv.pu 5 (some 35) HT_ ?_
                        refine Gv.pu 6 (some 36) HT_ ?_
                        refine one_ (i := 9) (N := some 39) #[true, true, true, true, true, true, true, true, true, true, false, false, true, true, false, false, false, true, true, false, false, false] rfl rfl (one_of HT_.out (by kernel_rfl)) (by decide) (fun K hK => ?_)
                        refine goes_ Tryd.func8 (by kernel_rfl) rfl #[.int .i64 a0_15] (by rfl) rfl rfl Gv.lm ?_
                        with_reducible refine (spec_NumText.calls kj3 a0_15 t249 _ A26.out).mono ?_
                        rintro e w49 ⟨rfl, hb⟩
                        refine ⟨_, rfl, ?_⟩
                        have n0_ := Gv.a0 (Gv.bb BK242.out hb)
                        have n1_ := Gv.a0 (below_step Gv.bw hb)
                        clear BK242
                        clear HB
                        have BK242 := n0_
                        have HB := n1_
                        clear n0_ n1_
                        (try clear hb)
                        (try clear hb2)
                        (try clear hk)
                        (try clear hi)
                        refine hK.out _ _ ⟨(blk_cell BK242.out 0).trans rfl, (blk_cell BK242.out 1).trans rfl, (blk_cell BK242.out 2).trans rfl, (blk_cell BK242.out 3).trans rfl, (blk_cell BK242.out 4).trans rfl, (blk_cell BK242.out 5).trans rfl, (blk_cell BK242.out 6).trans rfl, (blk_cell BK242.out 7).trans rfl, (blk_cell BK242.out 8).trans rfl, (blk_cell BK242.out 9).trans rfl, (blk_cell BK242.out 10).trans rfl, (blk_cell BK242.out 11).trans rfl, (blk_cell BK242.out 12).trans rfl, (blk_cell BK242.out 13).trans rfl, (blk_cell BK242.out 14).trans rfl, (blk_cell BK242.out 15).trans rfl, (blk_cell BK242.out 16).trans rfl, (blk_cell BK242.out 17).trans rfl, (blk_cell BK242.out 18).trans rfl, (blk_cell BK242.out 19).trans rfl, (blk_cell BK242.out 20).trans rfl⟩ (fun hHeld => ?_)
                        clear hK K
                        refine norm_ (a' := ?_) ?_ ?_
                        rotate_left
                        ·show Act.put _ (some 39) _ = _
                         simp only [Act.put, List.setIfInBounds_toArray, List.set_cons_zero, List.set_cons_succ, i64_w, i32_w]
                         rfl
                        refine Gv.pu 10 (some 40) HT_ ?_
                        refine Gv.pu 11 (some 41) HT_ ?_
                        refine one_ (i := 14) (N := some 44) #[true, true, true, true, true, true, true, true, true, true, true, true, true, true, true, false, false, true, true, false, false, false] rfl rfl (one_of HT_.out (by kernel_rfl)) (by decide) (fun K hK => ?_)
                        refine goes_ Tryd.func8 (by kernel_rfl) rfl #[.int .i64 a0_16] (by rfl) rfl rfl Gv.lm ?_
                        with_reducible refine (spec_NumText.calls kj3 a0_16 t250 _ A29.out).mono ?_
                        rintro e w50 ⟨rfl, hb⟩
                        refine ⟨_, rfl, ?_⟩
                        have n0_ := Gv.a0 (Gv.bb BK242.out hb)
                        have n1_ := Gv.a0 (below_step Gv.bw hb)
                        clear BK242
                        clear HB
                        have BK242 := n0_
                        have HB := n1_
                        clear n0_ n1_
                        (try clear hb)
                        (try clear hb2)
                        (try clear hk)
                        (try clear hi)
                        refine hK.out _ _ ⟨(blk_cell BK242.out 0).trans rfl, (blk_cell BK242.out 1).trans rfl, (blk_cell BK242.out 2).trans rfl, (blk_cell BK242.out 3).trans rfl, (blk_cell BK242.out 4).trans rfl, (blk_cell BK242.out 5).trans rfl, (blk_cell BK242.out 6).trans rfl, (blk_cell BK242.out 7).trans rfl, (blk_cell BK242.out 8).trans rfl, (blk_cell BK242.out 9).trans rfl, (blk_cell BK242.out 10).trans rfl, (blk_cell BK242.out 11).trans rfl, (blk_cell BK242.out 12).trans rfl, (blk_cell BK242.out 13).trans rfl, (blk_cell BK242.out 14).trans rfl, (blk_cell BK242.out 15).trans rfl, (blk_cell BK242.out 16).trans rfl, (blk_cell BK242.out 17).trans rfl, (blk_cell BK242.out 18).trans rfl, (blk_cell BK242.out 19).trans rfl, (blk_cell BK242.out 20).trans rfl⟩ (fun hHeld => ?_)
                        clear hK K
                        refine norm_ (a' := ?_) ?_ ?_
                        rotate_left
                        ·show Act.put _ (some 44) _ = _
                         simp only [Act.put, List.setIfInBounds_toArray, List.set_cons_zero, List.set_cons_succ, i64_w, i32_w]
                         rfl
                        refine Gv.pu 15 (some 45) HT_ ?_
                        refine Gv.pu 16 (some 46) HT_ ?_
                        refine one_ (i := 19) (N := some 49) #[true, true, true, true, true, true, true, true, true, true, true, true, true, true, true, true, true, true, true, true, false, false] rfl rfl (one_of HT_.out (by kernel_rfl)) (by decide) (fun K hK => ?_)
                        refine goes_ Tryd.func8 (by kernel_rfl) rfl #[.int .i64 a0_17] (by rfl) rfl rfl Gv.lm ?_
                        with_reducible refine (spec_NumText.calls kj3 a0_17 t251 _ A32.out).mono ?_
                        rintro e w51 ⟨rfl, hb⟩
                        refine ⟨_, rfl, ?_⟩
                        have n0_ := Gv.a0 (Gv.bb BK242.out hb)
                        have n1_ := Gv.a0 (below_step Gv.bw hb)
                        clear BK242
                        clear HB
                        have BK242 := n0_
                        have HB := n1_
                        clear n0_ n1_
                        (try clear hb)
                        (try clear hb2)
                        (try clear hk)
                        (try clear hi)
                        refine hK.out _ _ ⟨(blk_cell BK242.out 0).trans rfl, (blk_cell BK242.out 1).trans rfl, (blk_cell BK242.out 2).trans rfl, (blk_cell BK242.out 3).trans rfl, (blk_cell BK242.out 4).trans rfl, (blk_cell BK242.out 5).trans rfl, (blk_cell BK242.out 6).trans rfl, (blk_cell BK242.out 7).trans rfl, (blk_cell BK242.out 8).trans rfl, (blk_cell BK242.out 9).trans rfl, (blk_cell BK242.out 10).trans rfl, (blk_cell BK242.out 11).trans rfl, (blk_cell BK242.out 12).trans rfl, (blk_cell BK242.out 13).trans rfl, (blk_cell BK242.out 14).trans rfl, (blk_cell BK242.out 15).trans rfl, (blk_cell BK242.out 16).trans rfl, (blk_cell BK242.out 17).trans rfl, (blk_cell BK242.out 18).trans rfl, (blk_cell BK242.out 19).trans rfl, (blk_cell BK242.out 20).trans rfl⟩ (fun hHeld => ?_)
                        clear hK K
                        refine norm_ (a' := ?_) ?_ ?_
                        rotate_left
                        ·show Act.put _ (some 49) _ = _
                         simp only [Act.put, List.setIfInBounds_toArray, List.set_cons_zero, List.set_cons_succ, i64_w, i32_w]
                         rfl
                        refine Gv.pu 20 (some 50) HT_ ?_
                        refine Gv.pu 21 (some 4) HT_ ?_
                        refine done_ (done_of HT_.out (by kernel_rfl)) ?_
                        try go_wp2
                        have n0_ := Gv.a0 (blk_drew BK242.out)
                        have n1_ := Gv.a0 (below_drew1 HB.out)
                        clear BK242
                        clear HB
                        have BK242 := n0_
                        have HB := n1_
                        clear n0_ n1_
                        refine start_ (n := 17) (S := fun w' => w'.cell? ⟨gb242, 0, none⟩ = some (.int .i64 a0_0) ∧ w'.cell? ⟨gb242, 1, none⟩ = some (.int .i64 a0_1) ∧ w'.cell? ⟨gb242, 2, none⟩ = some (.int .i64 a0_2) ∧ w'.cell? ⟨gb242, 3, none⟩ = some (.int .i64 a0_3) ∧ w'.cell? ⟨gb242, 4, none⟩ = some (.int .i64 a0_4) ∧ w'.cell? ⟨gb242, 5, none⟩ = some (.int .i64 a0_5) ∧ w'.cell? ⟨gb242, 6, none⟩ = some (.int .i64 a0_6) ∧ w'.cell? ⟨gb242, 7, none⟩ = some (.int .i64 a0_7) ∧ w'.cell? ⟨gb242, 8, none⟩ = some (.int .i64 a0_8) ∧ w'.cell? ⟨gb242, 9, none⟩ = some (.int .i64 a0_9) ∧ w'.cell? ⟨gb242, 10, none⟩ = some (.int .i64 a0_10) ∧ w'.cell? ⟨gb242, 11, none⟩ = some (.int .i64 a0_11) ∧ w'.cell? ⟨gb242, 12, none⟩ = some (.int .i64 a0_12) ∧ w'.cell? ⟨gb242, 13, none⟩ = some (.int .i64 a0_13) ∧ w'.cell? ⟨gb242, 14, none⟩ = some (.int .i64 a0_14) ∧ w'.cell? ⟨gb242, 15, none⟩ = some (.int .i64 a0_15) ∧ w'.cell? ⟨gb242, 16, none⟩ = some (.int .i64 a0_16) ∧ w'.cell? ⟨gb242, 17, none⟩ = some (.int .i64 a0_17) ∧ w'.cell? ⟨gb242, 18, none⟩ = some (.int .i64 a0_18) ∧ w'.cell? ⟨gb242, 19, none⟩ = some (.int .i64 a0_19) ∧ w'.cell? ⟨gb242, 20, none⟩ = some (.int .i64 a0_20)) (ds := []) #[false, false, false, false, false, false, false, false, false, false, false, false, false, false, false, false, false] (by kernel_rfl) rfl rfl ⟨(blk_cell BK242.out 0).trans rfl, (blk_cell BK242.out 1).trans rfl, (blk_cell BK242.out 2).trans rfl, (blk_cell BK242.out 3).trans rfl, (blk_cell BK242.out 4).trans rfl, (blk_cell BK242.out 5).trans rfl, (blk_cell BK242.out 6).trans rfl, (blk_cell BK242.out 7).trans rfl, (blk_cell BK242.out 8).trans rfl, (blk_cell BK242.out 9).trans rfl, (blk_cell BK242.out 10).trans rfl, (blk_cell BK242.out 11).trans rfl, (blk_cell BK242.out 12).trans rfl, (blk_cell BK242.out 13).trans rfl, (blk_cell BK242.out 14).trans rfl, (blk_cell BK242.out 15).trans rfl, (blk_cell BK242.out 16).trans rfl, (blk_cell BK242.out 17).trans rfl, (blk_cell BK242.out 18).trans rfl, (blk_cell BK242.out 19).trans rfl, (blk_cell BK242.out 20).trans rfl⟩ (fun hHeld => ?_); refine with_tabW spec_RuleText.tab8 spec_RuleText.bits8 (fun HT_ HW_ => ?_)
                        generalize w51.drew = w52 at BK242 HB hHeld ⊢
                        refine Gv.pu 0 (some 51) HT_ ?_
                        refine Gv.pu 1 (some 52) HT_ ?_
                        refine Gv.pu 2 (some 53) HT_ ?_
                        refine Gv.pu 7 (some 58) HT_ ?_
                        refine Gv.pu 12 (some 63) HT_ ?_
                        refine take_ (i := 3) (N := some 54) (v := ?_) (a' := ?_) #[true, true, true, true, false, false, false, true, false, false, false, false, true, false, false, false, false] rfl rfl (take_ofW HT_.out HW_.out (by kernel_rfl)) (fun _ _ _ h => h) (Or.inl ⟨by rfl, ?_⟩) hHeld ?_ ?_
                        rotate_left
                        ·rintro w' ⟨s0, s1, s2, s3, s4, s5, s6, s7, s8, s9, s10, s11, s12, s13, s14, s15, s16, s17, s18, s19, s20⟩
                         first | ((refine Gv.load_run (t := 33) (A := ⟨gb242, 0, none⟩) (cs := [_, _, _, _, _, _, _, _, _, _, _, _, _, _, _, _, _, _, _, _, _]) (x := ?xx15_) ?ho15_ ?hx15_ ⟨s0, s1, s2, s3, s4, s5, s6, s7, s8, s9, s10, s11, s12, s13, s14, s15, s16, s17, s18, s19, s20, trivial⟩ Try.underlying33 rfl (by kernel_rfl)); (case ho15_ => rfl); (case hx15_ => rfl)) | (go_simp; with_reducible rfl)
                        rotate_left
                        ·simp only [Act.put, List.setIfInBounds_toArray, List.set_cons_zero, List.set_cons_succ, i64_w, i32_w]
                         rfl
                        refine take_ (i := 8) (N := some 59) (v := ?_) (a' := ?_) #[true, true, true, true, false, false, false, true, true, false, false, false, true, false, false, false, false] rfl rfl (take_ofW HT_.out HW_.out (by kernel_rfl)) (fun _ _ _ h => h) (Or.inl ⟨by rfl, ?_⟩) hHeld ?_ ?_
                        rotate_left
                        ·rintro w' ⟨s0, s1, s2, s3, s4, s5, s6, s7, s8, s9, s10, s11, s12, s13, s14, s15, s16, s17, s18, s19, s20⟩
                         first | ((refine Gv.load_run (t := 33) (A := ⟨gb242, 0, none⟩) (cs := [_, _, _, _, _, _, _, _, _, _, _, _, _, _, _, _, _, _, _, _, _]) (x := ?xx17_) ?ho17_ ?hx17_ ⟨s0, s1, s2, s3, s4, s5, s6, s7, s8, s9, s10, s11, s12, s13, s14, s15, s16, s17, s18, s19, s20, trivial⟩ Try.underlying33 rfl (by kernel_rfl)); (case ho17_ => rfl); (case hx17_ => rfl)) | (go_simp; with_reducible rfl)
                        rotate_left
                        ·simp only [Act.put, List.setIfInBounds_toArray, List.set_cons_zero, List.set_cons_succ, i64_w, i32_w]
                         rfl
                        refine take_ (i := 13) (N := some 64) (v := ?_) (a' := ?_) #[true, true, true, true, false, false, false, true, true, false, false, false, true, true, false, false, false] rfl rfl (take_ofW HT_.out HW_.out (by kernel_rfl)) (fun _ _ _ h => h) (Or.inl ⟨by rfl, ?_⟩) hHeld ?_ ?_
                        rotate_left
                        ·rintro w' ⟨s0, s1, s2, s3, s4, s5, s6, s7, s8, s9, s10, s11, s12, s13, s14, s15, s16, s17, s18, s19, s20⟩
                         first | ((refine Gv.load_run (t := 33) (A := ⟨gb242, 0, none⟩) (cs := [_, _, _, _, _, _, _, _, _, _, _, _, _, _, _, _, _, _, _, _, _]) (x := ?xx19_) ?ho19_ ?hx19_ ⟨s0, s1, s2, s3, s4, s5, s6, s7, s8, s9, s10, s11, s12, s13, s14, s15, s16, s17, s18, s19, s20, trivial⟩ Try.underlying33 rfl (by kernel_rfl)); (case ho19_ => rfl); (case hx19_ => rfl)) | (go_simp; with_reducible rfl)
                        rotate_left
                        ·simp only [Act.put, List.setIfInBounds_toArray, List.set_cons_zero, List.set_cons_succ, i64_w, i32_w]
                         rfl
                        refine one_ (i := 4) (N := some 55) #[true, true, true, true, true, false, false, true, true, false, false, false, true, true, false, false, false] rfl rfl (one_of HT_.out (by kernel_rfl)) (by decide) (fun K hK => ?_)
                        refine goes_ Tryd.func8 (by kernel_rfl) rfl #[.int .i64 a0_18] (by rfl) rfl rfl Gv.lm ?_
                        with_reducible refine (spec_NumText.calls kj3 a0_18 t252 _ A35.out).mono ?_
                        rintro e w53 ⟨rfl, hb⟩
                        refine ⟨_, rfl, ?_⟩
                        have n0_ := Gv.a0 (Gv.bb BK242.out hb)
                        have n1_ := Gv.a0 (below_step Gv.bw hb)
                        clear BK242
                        clear HB
                        have BK242 := n0_
                        have HB := n1_
                        clear n0_ n1_
                        (try clear hb)
                        (try clear hb2)
                        (try clear hk)
                        (try clear hi)
                        refine hK.out _ _ ⟨(blk_cell BK242.out 0).trans rfl, (blk_cell BK242.out 1).trans rfl, (blk_cell BK242.out 2).trans rfl, (blk_cell BK242.out 3).trans rfl, (blk_cell BK242.out 4).trans rfl, (blk_cell BK242.out 5).trans rfl, (blk_cell BK242.out 6).trans rfl, (blk_cell BK242.out 7).trans rfl, (blk_cell BK242.out 8).trans rfl, (blk_cell BK242.out 9).trans rfl, (blk_cell BK242.out 10).trans rfl, (blk_cell BK242.out 11).trans rfl, (blk_cell BK242.out 12).trans rfl, (blk_cell BK242.out 13).trans rfl, (blk_cell BK242.out 14).trans rfl, (blk_cell BK242.out 15).trans rfl, (blk_cell BK242.out 16).trans rfl, (blk_cell BK242.out 17).trans rfl, (blk_cell BK242.out 18).trans rfl, (blk_cell BK242.out 19).trans rfl, (blk_cell BK242.out 20).trans rfl⟩ (fun hHeld => ?_)
                        clear hK K
                        refine norm_ (a' := ?_) ?_ ?_
                        rotate_left
                        ·show Act.put _ (some 55) _ = _
                         simp only [Act.put, List.setIfInBounds_toArray, List.set_cons_zero, List.set_cons_succ, i64_w, i32_w]
                         rfl
                        refine Gv.pu 5 (some 56) HT_ ?_
                        refine Gv.pu 6 (some 57) HT_ ?_
                        refine one_ (i := 9) (N := some 60) #[true, true, true, true, true, true, true, true, true, true, false, false, true, true, false, false, false] rfl rfl (one_of HT_.out (by kernel_rfl)) (by decide) (fun K hK => ?_)
                        refine goes_ Tryd.func8 (by kernel_rfl) rfl #[.int .i64 a0_19] (by rfl) rfl rfl Gv.lm ?_
                        with_reducible refine (spec_NumText.calls kj3 a0_19 t253 _ A38.out).mono ?_
                        rintro e w54 ⟨rfl, hb⟩
                        refine ⟨_, rfl, ?_⟩
                        have n0_ := Gv.a0 (Gv.bb BK242.out hb)
                        have n1_ := Gv.a0 (below_step Gv.bw hb)
                        clear BK242
                        clear HB
                        have BK242 := n0_
                        have HB := n1_
                        clear n0_ n1_
                        (try clear hb)
                        (try clear hb2)
                        (try clear hk)
                        (try clear hi)
                        refine hK.out _ _ ⟨(blk_cell BK242.out 0).trans rfl, (blk_cell BK242.out 1).trans rfl, (blk_cell BK242.out 2).trans rfl, (blk_cell BK242.out 3).trans rfl, (blk_cell BK242.out 4).trans rfl, (blk_cell BK242.out 5).trans rfl, (blk_cell BK242.out 6).trans rfl, (blk_cell BK242.out 7).trans rfl, (blk_cell BK242.out 8).trans rfl, (blk_cell BK242.out 9).trans rfl, (blk_cell BK242.out 10).trans rfl, (blk_cell BK242.out 11).trans rfl, (blk_cell BK242.out 12).trans rfl, (blk_cell BK242.out 13).trans rfl, (blk_cell BK242.out 14).trans rfl, (blk_cell BK242.out 15).trans rfl, (blk_cell BK242.out 16).trans rfl, (blk_cell BK242.out 17).trans rfl, (blk_cell BK242.out 18).trans rfl, (blk_cell BK242.out 19).trans rfl, (blk_cell BK242.out 20).trans rfl⟩ (fun hHeld => ?_)
                        clear hK K
                        refine norm_ (a' := ?_) ?_ ?_
                        rotate_left
                        ·show Act.put _ (some 60) _ = _
                         simp only [Act.put, List.setIfInBounds_toArray, List.set_cons_zero, List.set_cons_succ, i64_w, i32_w]
                         rfl
                        refine Gv.pu 10 (some 61) HT_ ?_
                        refine Gv.pu 11 (some 62) HT_ ?_
                        refine one_ (i := 14) (N := some 65) #[true, true, true, true, true, true, true, true, true, true, true, true, true, true, true, false, false] rfl rfl (one_of HT_.out (by kernel_rfl)) (by decide) (fun K hK => ?_)
                        refine goes_ Tryd.func8 (by kernel_rfl) rfl #[.int .i64 a0_20] (by rfl) rfl rfl Gv.lm ?_
                        with_reducible refine (spec_NumText.calls kj3 a0_20 t254 _ A41.out).mono ?_
                        rintro e w55 ⟨rfl, hb⟩
                        refine ⟨_, rfl, ?_⟩
                        have n0_ := Gv.a0 (Gv.bb BK242.out hb)
                        have n1_ := Gv.a0 (below_step Gv.bw hb)
                        clear BK242
                        clear HB
                        have BK242 := n0_
                        have HB := n1_
                        clear n0_ n1_
                        (try clear hb)
                        (try clear hb2)
                        (try clear hk)
                        (try clear hi)
                        refine hK.out _ _ ⟨(blk_cell BK242.out 0).trans rfl, (blk_cell BK242.out 1).trans rfl, (blk_cell BK242.out 2).trans rfl, (blk_cell BK242.out 3).trans rfl, (blk_cell BK242.out 4).trans rfl, (blk_cell BK242.out 5).trans rfl, (blk_cell BK242.out 6).trans rfl, (blk_cell BK242.out 7).trans rfl, (blk_cell BK242.out 8).trans rfl, (blk_cell BK242.out 9).trans rfl, (blk_cell BK242.out 10).trans rfl, (blk_cell BK242.out 11).trans rfl, (blk_cell BK242.out 12).trans rfl, (blk_cell BK242.out 13).trans rfl, (blk_cell BK242.out 14).trans rfl, (blk_cell BK242.out 15).trans rfl, (blk_cell BK242.out 16).trans rfl, (blk_cell BK242.out 17).trans rfl, (blk_cell BK242.out 18).trans rfl, (blk_cell BK242.out 19).trans rfl, (blk_cell BK242.out 20).trans rfl⟩ (fun hHeld => ?_)
                        clear hK K
                        refine norm_ (a' := ?_) ?_ ?_
                        rotate_left
                        ·show Act.put _ (some 65) _ = _
                         simp only [Act.put, List.setIfInBounds_toArray, List.set_cons_zero, List.set_cons_succ, i64_w, i32_w]
                         rfl
                        refine Gv.pu 15 (some 66) HT_ ?_
                        refine Gv.pu 16 (some 2) HT_ ?_
                        refine done_ (done_of HT_.out (by kernel_rfl)) ?_
                        try go_wp2
                        go_ret
                        exact ⟨Gv.rt, Gv.bw⟩
                       ·rw [if_neg c42] at H
                        exact absurd H (by simp)
                      ·rw [if_neg c40] at H
                       exact absurd H (by simp)
                     ·rw [if_neg c39] at H
                      exact absurd H (by simp)
                    ·rw [if_neg c37] at H
                     exact absurd H (by simp)
                   ·rw [if_neg c36] at H
                    exact absurd H (by simp)
                  ·rw [if_neg c34] at H
                   exact absurd H (by simp)
                 ·rw [if_neg c33] at H
                  exact absurd H (by simp)
                ·rw [if_neg c31] at H
                 exact absurd H (by simp)
               ·rw [if_neg c30] at H
                exact absurd H (by simp)
              ·rw [if_neg c28] at H
               exact absurd H (by simp)
             ·rw [if_neg c27] at H
              exact absurd H (by simp)
            ·rw [if_neg c25] at H
             exact absurd H (by simp)
           ·rw [if_neg c24] at H
            exact absurd H (by simp)
          ·rw [if_neg c22] at H
           exact absurd H (by simp)
         ·rw [if_neg c21] at H
          exact absurd H (by simp)
        ·rw [if_neg c20] at H
         exact absurd H (by simp)
       ·rw [if_neg c19] at H
        exact absurd H (by simp)
      ·rw [if_neg c17] at H
       exact absurd H (by simp)
     ·rw [if_neg c16] at H
      exact absurd H (by simp)
    ·rw [if_neg c14] at H
     exact absurd H (by simp)
 ·replace c3 := Bool.eq_false_iff.mpr c3
  subst c3
  have H1 : (some (⟨#[]⟩ : ByteArray)) = some r := by rw [if_neg (show ¬ (false = true) by decide)] at H; exact H
  clear H
  have H := H1
  clear H1
  obtain rfl := Option.some.inj H
  go_enter Tryd.func4, Tryd.ntmps4
  go_wp2_with (first | ((with_reducible refine gate_dst (N := 1) rfl ?_); refine box_event ?hg (N := 1) ?hd (cs := #[.int .i64 a0_0, .int .i64 a0_1, .int .i64 a0_2, .int .i64 a0_3, .int .i64 a0_4, .int .i64 a0_5, .int .i64 a0_6, .int .i64 a0_7, .int .i64 a0_8, .int .i64 a0_9, .int .i64 a0_10, .int .i64 a0_11, .int .i64 a0_12, .int .i64 a0_13, .int .i64 a0_14, .int .i64 a0_15, .int .i64 a0_16, .int .i64 a0_17, .int .i64 a0_18, .int .i64 a0_19, .int .i64 a0_20]) (t := 33) ?hr ?_; (case hd => rfl); (case hg => rfl); (case hr => first | (go_simp; done) | (go_simp; rfl)); intro gb242 hg w56 hbox hb; have n0_ := Gv.a0 (below_step Gv.bw hb); have n1_ := Gv.a0 (hbox); have n2_ := Gv.a0 ((Gv.ble hg Gv.bw : w.heap.size ≤ gb242)); have n3_ := Gv.a0 ((Gv.ble hg Gv.bw : w.heap.size ≤ gb242)); clear HB; have HB := n0_; have BK242 := n1_; have GW242 := n2_; have GE242 := n3_; clear n0_ n1_ n2_ n3_; clear hb hbox hg; obtain ⟨hcz57_0, hcz57_1, hcz57_2, hcz57_3, hcz57_4, hcz57_5, hcz57_6, hcz57_7, hcz57_8, hcz57_9, hcz57_10, hcz57_11, hcz57_12, hcz57_13, hcz57_14, hcz57_15, hcz57_16, hcz57_17, hcz57_18, hcz57_19, hcz57_20⟩ := Gv.c21 BK242.out) | ((with_reducible refine gate_store (t := 33) (p := 1) rfl ?_); refine Gv.store_event rfl rfl rfl rfl rfl (Gv.kb BK242.out) (by kernel_rfl) rfl (by simp; and_intros <;> rfl) ?_; intro w56s hbox hoth hbel; have n0_ := Gv.a0 (hbox); have n1_ := Gv.a0 (hbel w Gv.bw GE242.out); clear BK242 HB; have BK242 := n0_; have HB := n1_; clear n0_ n1_ hbox hoth hbel; (try clear hcz57_0 hcz57_1 hcz57_2 hcz57_3 hcz57_4 hcz57_5 hcz57_6 hcz57_7 hcz57_8 hcz57_9 hcz57_10 hcz57_11 hcz57_12 hcz57_13 hcz57_14 hcz57_15 hcz57_16 hcz57_17 hcz57_18 hcz57_19 hcz57_20); obtain ⟨hcz57_0, hcz57_1, hcz57_2, hcz57_3, hcz57_4, hcz57_5, hcz57_6, hcz57_7, hcz57_8, hcz57_9, hcz57_10, hcz57_11, hcz57_12, hcz57_13, hcz57_14, hcz57_15, hcz57_16, hcz57_17, hcz57_18, hcz57_19, hcz57_20⟩ := Gv.c21 BK242.out) | ((with_reducible refine gate_callee (f := 7) rfl ?_); refine goesL_ (some 6) rfl rfl Tryd.func7 (by kernel_rfl) rfl #[.agg #[.int .i64 a0_0, .int .i64 a0_1, .int .i64 a0_2, .int .i64 a0_3, .int .i64 a0_4, .int .i64 a0_5, .int .i64 a0_6, .int .i64 a0_7, .int .i64 a0_8, .int .i64 a0_9, .int .i64 a0_10, .int .i64 a0_11, .int .i64 a0_12, .int .i64 a0_13, .int .i64 a0_14, .int .i64 a0_15, .int .i64 a0_16, .int .i64 a0_17, .int .i64 a0_18, .int .i64 a0_19, .int .i64 a0_20]] rfl Gv.lm ?_; (with_reducible refine (spec_RuleOk.calls k a0_0 a0_1 a0_2 a0_3 a0_4 a0_5 a0_6 a0_7 a0_8 a0_9 a0_10 a0_11 a0_12 a0_13 a0_14 a0_15 a0_16 a0_17 a0_18 a0_19 a0_20 false _ A2.out).mono ?_); rintro e w58 ⟨rfl, hb⟩; refine ⟨_, rfl, ?_⟩; have n0_ := Gv.a0 (Gv.bb BK242.out hb); have n1_ := Gv.a0 (below_step Gv.bw hb); clear BK242; clear HB; have BK242 := n0_; have HB := n1_; clear n0_ n1_; (try clear hb); (try clear hb2); (try clear hk); (try clear hi)) | ((with_reducible refine Gv.gate_load (t := 33) rfl ?_); (try (refine gate_guard (by rfl) ?_; dsimp only)); refine wpList_load_row rfl 33 _ rfl gb242 rfl 33 _ _ _ (by first | exact Gv.kb0 BK242.out | exact Gv.kb1 (Gv.kb0 BK242.out)) Tryd.underlying33 rfl (by kernel_rfl) ?_))
  go_ret
  exact ⟨Gv.rt, Gv.bw⟩

/-! ### laws_toAddr: function 20 -/
def laws_toAddr.f (a0_0 : Int) (a0_1 : Int) (a0_2 : Int) (a0_3 : Int) (a0_4 : Int) : Option (Int × Int × Int × Int × Int) := some (a0_0, a0_1, a0_2, a0_3, a0_4)
set_option maxHeartbeats 8000000 in
set_option maxRecDepth 100000 in
theorem laws_toAddr.calls (a0_0 : Int) (a0_1 : Int) (a0_2 : Int) (a0_3 : Int) (a0_4 : Int) (r1 : Int) (r2 : Int) (r3 : Int) (r4 : Int) (r5 : Int) (w : World) (h : laws_toAddr.f a0_0 a0_1 a0_2 a0_3 a0_4 = some (r1, r2, r3, r4, r5)) :
  Calls Tryd.prog 20 #[.agg #[.int .i64 a0_0, .int .i64 a0_1, .int .i64 a0_2, .int .i64 a0_3, .int .i64 a0_4]] w fun e w' => e = .returned (.agg #[.int .i64 r1, .int .i64 r2, .int .i64 r3, .int .i64 r4, .int .i64 r5]) ∧ Below w.heap.size w w' := by
 have hu23 := Tryd.underlying23
 have hu29 := Tryd.underlying29
 have HB := Gv.a0 (Below.refl w.heap.size w)
 have H : (some (a0_0, a0_1, a0_2, a0_3, a0_4)) = some (r1, r2, r3, r4, r5) := h
 clear h
 simp only [Option.some.injEq, Prod.mk.injEq] at H
 obtain ⟨rfl, rfl, rfl, rfl, rfl⟩ := H
 go_enter Tryd.func20, Tryd.ntmps20
 go_wp2_with (first | ((with_reducible refine gate_dst (N := 1) rfl ?_); refine box_event ?hg (N := 1) ?hd (cs := #[.int .i64 a0_0, .int .i64 a0_1, .int .i64 a0_2, .int .i64 a0_3, .int .i64 a0_4]) (t := 23) ?hr ?_; (case hd => rfl); (case hg => rfl); (case hr => first | (go_simp; done) | (go_simp; rfl)); intro gb255 hg w2 hbox hb; have n0_ := Gv.a0 (below_step Gv.bw hb); have n1_ := Gv.a0 (hbox); have n2_ := Gv.a0 ((Gv.ble hg Gv.bw : w.heap.size ≤ gb255)); have n3_ := Gv.a0 ((Gv.ble hg Gv.bw : w.heap.size ≤ gb255)); clear HB; have HB := n0_; have BK255 := n1_; have GW255 := n2_; have GE255 := n3_; clear n0_ n1_ n2_ n3_; clear hb hbox hg) | ((with_reducible refine gate_dst (N := 2) rfl ?_); refine box_event ?hg (N := 2) ?hd (cs := #[.int .i64 0, .int .i64 0, .int .i64 0, .int .i64 0, .int .i64 0]) (t := 29) ?hr ?_; (case hd => rfl); (case hg => rfl); (case hr => first | (go_simp; done) | (go_simp; rfl)); intro gb256 hg w3 hbox hb; have n0_ := Gv.a0 (Gv.bb BK255.out hb); have n1_ := Gv.a0 (below_step Gv.bw hb); have n2_ := Gv.a0 (hbox); have n3_ := Gv.a0 ((Gv.ble hg Gv.bw : w.heap.size ≤ gb256)); have n4_ := Gv.a0 ((Gv.ble hg Gv.bw : w.heap.size ≤ gb256)); have n5_ := Gv.a0 ((Gv.nlt hg (Gv.kb BK255.out) : gb255 ≠ gb256)); have n6_ := Gv.a0 ((Gv.ngt hg (Gv.kb BK255.out) : gb256 ≠ gb255)); clear BK255; clear HB; have BK255 := n0_; have HB := n1_; have BK256 := n2_; have GW256 := n3_; have GE256 := n4_; have NB255_256 := n5_; have NB256_255 := n6_; clear n0_ n1_ n2_ n3_ n4_ n5_ n6_; clear hb hbox hg) | ((with_reducible refine gate_dst (N := 3) rfl ?_); refine box_event ?hg (N := 3) ?hd (cs := #[.int .i64 0, .int .i64 0, .int .i64 0, .int .i64 0, .int .i64 0]) (t := 29) ?hr ?_; (case hd => rfl); (case hg => rfl); (case hr => first | (go_simp; done) | (go_simp; rfl)); intro gb257 hg w4 hbox hb; have n0_ := Gv.a0 (Gv.bb BK255.out hb); have n1_ := Gv.a0 (Gv.bb BK256.out hb); have n2_ := Gv.a0 (below_step Gv.bw hb); have n3_ := Gv.a0 (hbox); have n4_ := Gv.a0 ((Gv.ble hg Gv.bw : w.heap.size ≤ gb257)); have n5_ := Gv.a0 ((Gv.ble hg Gv.bw : w.heap.size ≤ gb257)); have n6_ := Gv.a0 ((Gv.nlt hg (Gv.kb BK255.out) : gb255 ≠ gb257)); have n7_ := Gv.a0 ((Gv.ngt hg (Gv.kb BK255.out) : gb257 ≠ gb255)); have n8_ := Gv.a0 ((Gv.nlt hg (Gv.kb BK256.out) : gb256 ≠ gb257)); have n9_ := Gv.a0 ((Gv.ngt hg (Gv.kb BK256.out) : gb257 ≠ gb256)); clear BK255; clear BK256; clear HB; have BK255 := n0_; have BK256 := n1_; have HB := n2_; have BK257 := n3_; have GW257 := n4_; have GE257 := n5_; have NB255_257 := n6_; have NB257_255 := n7_; have NB256_257 := n8_; have NB257_256 := n9_; clear n0_ n1_ n2_ n3_ n4_ n5_ n6_ n7_ n8_ n9_; clear hb hbox hg; have hnb5 := NB255_256.out; have hnc5 := NB256_255.out; have hnb6 := NB255_257.out; have hnc6 := NB257_255.out; obtain ⟨hcz7_0, hcz7_1, hcz7_2, hcz7_3, hcz7_4⟩ := Gv.c5 BK255.out; obtain ⟨hfz7_0, hfz7_1, hfz7_2, hfz7_3, hfz7_4⟩ := Gv.f5 BK255.out; have hnb8 := NB257_256.out; have hnc8 := NB256_257.out; obtain ⟨hcz9_0, hcz9_1, hcz9_2, hcz9_3, hcz9_4⟩ := Gv.c5 BK257.out; obtain ⟨hfz9_0, hfz9_1, hfz9_2, hfz9_3, hfz9_4⟩ := Gv.f5 BK257.out; obtain ⟨hcz10_0, hcz10_1, hcz10_2, hcz10_3, hcz10_4⟩ := Gv.c5 BK256.out; obtain ⟨hfz10_0, hfz10_1, hfz10_2, hfz10_3, hfz10_4⟩ := Gv.f5 BK256.out))
 refine bodyPost_ret (results_cell_row rfl _ _ gb256 29 #[.int .i64 a0_0, .int .i64 a0_1, .int .i64 a0_2, .int .i64 a0_3, .int .i64 a0_4] (0, 0) _ rfl (by (with_reducible repeat (first | refine blk_drewN ?_ _ | refine blk_drew ?_ | refine blk_alloc ?_ _)); refine blk_put (cs := #[.int .i64 a0_0, .int .i64 a0_1, .int .i64 a0_2, .int .i64 a0_3, .int .i64 0]) ?_ 4 _ rfl; (with_reducible repeat (first | refine blk_drewN ?_ _ | refine blk_drew ?_ | refine blk_alloc ?_ _)); refine blk_put (cs := #[.int .i64 a0_0, .int .i64 a0_1, .int .i64 a0_2, .int .i64 0, .int .i64 0]) ?_ 3 _ rfl; (with_reducible repeat (first | refine blk_drewN ?_ _ | refine blk_drew ?_ | refine blk_alloc ?_ _)); refine blk_put (cs := #[.int .i64 a0_0, .int .i64 a0_1, .int .i64 0, .int .i64 0, .int .i64 0]) ?_ 2 _ rfl; (with_reducible repeat (first | refine blk_drewN ?_ _ | refine blk_drew ?_ | refine blk_alloc ?_ _)); refine blk_put (cs := #[.int .i64 a0_0, .int .i64 0, .int .i64 0, .int .i64 0, .int .i64 0]) ?_ 1 _ rfl; (with_reducible repeat (first | refine blk_drewN ?_ _ | refine blk_drew ?_ | refine blk_alloc ?_ _)); refine blk_put (cs := #[.int .i64 0, .int .i64 0, .int .i64 0, .int .i64 0, .int .i64 0]) ?_ 0 _ rfl; (with_reducible repeat (first | refine blk_drewN ?_ _ | refine blk_drew ?_ | refine blk_alloc ?_ _)); refine blk_far ?_ NB256_257.out _; (with_reducible repeat (first | refine blk_drewN ?_ _ | refine blk_drew ?_ | refine blk_alloc ?_ _)); refine blk_far ?_ NB256_257.out _; (with_reducible repeat (first | refine blk_drewN ?_ _ | refine blk_drew ?_ | refine blk_alloc ?_ _)); refine blk_far ?_ NB256_257.out _; (with_reducible repeat (first | refine blk_drewN ?_ _ | refine blk_drew ?_ | refine blk_alloc ?_ _)); refine blk_far ?_ NB256_257.out _; (with_reducible repeat (first | refine blk_drewN ?_ _ | refine blk_drew ?_ | refine blk_alloc ?_ _)); refine blk_far ?_ NB256_257.out _; (with_reducible repeat (first | refine blk_drewN ?_ _ | refine blk_drew ?_ | refine blk_alloc ?_ _)); exact BK256.out) Tryd.underlying29 rfl (by kernel_rfl)) rfl ?_
 exact ⟨Gv.rt, Gv.bw⟩

/-! ### laws_toPrefix: function 10 -/
def laws_toPrefix.f (a0_0 : Int) (a0_1 : Int) (a0_2 : Int) (a0_3 : Int) (a0_4 : Int) (a0_5 : Int) : Option (Int × Int × Int × Int × Int × Int) := (laws_toAddr.f a0_0 a0_1 a0_2 a0_3 a0_4).bind fun bt261 => (some (bt261.1, bt261.2.1, bt261.2.2.1, bt261.2.2.2.1, bt261.2.2.2.2, a0_5))
set_option maxHeartbeats 8000000 in
set_option maxRecDepth 100000 in
theorem laws_toPrefix.calls (a0_0 : Int) (a0_1 : Int) (a0_2 : Int) (a0_3 : Int) (a0_4 : Int) (a0_5 : Int) (r1 : Int) (r2 : Int) (r3 : Int) (r4 : Int) (r5 : Int) (r6 : Int) (w : World) (h : laws_toPrefix.f a0_0 a0_1 a0_2 a0_3 a0_4 a0_5 = some (r1, r2, r3, r4, r5, r6)) :
  Calls Tryd.prog 10 #[.agg #[.int .i64 a0_0, .int .i64 a0_1, .int .i64 a0_2, .int .i64 a0_3, .int .i64 a0_4, .int .i64 a0_5]] w fun e w' => e = .returned (.agg #[.int .i64 r1, .int .i64 r2, .int .i64 r3, .int .i64 r4, .int .i64 r5, .int .i64 r6]) ∧ Below w.heap.size w w' := by
 have hu25 := Tryd.underlying25
 have hu31 := Tryd.underlying31
 have hu23 := Tryd.underlying23
 have hu29 := Tryd.underlying29
 have HB := Gv.a0 (Below.refl w.heap.size w)
 have H : ((laws_toAddr.f a0_0 a0_1 a0_2 a0_3 a0_4).bind fun bt261 => (some (bt261.1, bt261.2.1, bt261.2.2.1, bt261.2.2.2.1, bt261.2.2.2.2, a0_5))) = some (r1, r2, r3, r4, r5, r6) := h
 clear h
 replace H := Option.bind_eq_some_iff.mp H
 obtain ⟨⟨t261, t262, t263, t264, t265⟩, A20, H⟩ := H
 replace H : (some (t261, t262, t263, t264, t265, a0_5)) = some (r1, r2, r3, r4, r5, r6) := H
 have A2 := Gv.a0 A20
 clear A20
 simp only [Option.some.injEq, Prod.mk.injEq] at H
 obtain ⟨rfl, rfl, rfl, rfl, rfl, rfl⟩ := H
 go_enter Tryd.func10, Tryd.ntmps10
 go_wp2_with (first | ((with_reducible refine gate_dst (N := 1) rfl ?_); refine box_event ?hg (N := 1) ?hd (cs := #[.int .i64 a0_0, .int .i64 a0_1, .int .i64 a0_2, .int .i64 a0_3, .int .i64 a0_4, .int .i64 a0_5]) (t := 25) ?hr ?_; (case hd => rfl); (case hg => rfl); (case hr => first | (go_simp; done) | (go_simp; rfl)); intro gb258 hg w3 hbox hb; have n0_ := Gv.a0 (below_step Gv.bw hb); have n1_ := Gv.a0 (hbox); have n2_ := Gv.a0 ((Gv.ble hg Gv.bw : w.heap.size ≤ gb258)); have n3_ := Gv.a0 ((Gv.ble hg Gv.bw : w.heap.size ≤ gb258)); clear HB; have HB := n0_; have BK258 := n1_; have GW258 := n2_; have GE258 := n3_; clear n0_ n1_ n2_ n3_; clear hb hbox hg) | ((with_reducible refine gate_dst (N := 2) rfl ?_); refine box_event ?hg (N := 2) ?hd (cs := #[.int .i64 0, .int .i64 0, .int .i64 0, .int .i64 0, .int .i64 0, .int .i64 0]) (t := 31) ?hr ?_; (case hd => rfl); (case hg => rfl); (case hr => first | (go_simp; done) | (go_simp; rfl)); intro gb259 hg w4 hbox hb; have n0_ := Gv.a0 (Gv.bb BK258.out hb); have n1_ := Gv.a0 (below_step Gv.bw hb); have n2_ := Gv.a0 (hbox); have n3_ := Gv.a0 ((Gv.ble hg Gv.bw : w.heap.size ≤ gb259)); have n4_ := Gv.a0 ((Gv.ble hg Gv.bw : w.heap.size ≤ gb259)); have n5_ := Gv.a0 ((Gv.nlt hg (Gv.kb BK258.out) : gb258 ≠ gb259)); have n6_ := Gv.a0 ((Gv.ngt hg (Gv.kb BK258.out) : gb259 ≠ gb258)); clear BK258; clear HB; have BK258 := n0_; have HB := n1_; have BK259 := n2_; have GW259 := n3_; have GE259 := n4_; have NB258_259 := n5_; have NB259_258 := n6_; clear n0_ n1_ n2_ n3_ n4_ n5_ n6_; clear hb hbox hg) | ((with_reducible refine gate_dst (N := 3) rfl ?_); refine box_event ?hg (N := 3) ?hd (cs := #[.int .i64 0, .int .i64 0, .int .i64 0, .int .i64 0, .int .i64 0, .int .i64 0]) (t := 31) ?hr ?_; (case hd => rfl); (case hg => rfl); (case hr => first | (go_simp; done) | (go_simp; rfl)); intro gb260 hg w5 hbox hb; have n0_ := Gv.a0 (Gv.bb BK258.out hb); have n1_ := Gv.a0 (Gv.bb BK259.out hb); have n2_ := Gv.a0 (below_step Gv.bw hb); have n3_ := Gv.a0 (hbox); have n4_ := Gv.a0 ((Gv.ble hg Gv.bw : w.heap.size ≤ gb260)); have n5_ := Gv.a0 ((Gv.ble hg Gv.bw : w.heap.size ≤ gb260)); have n6_ := Gv.a0 ((Gv.nlt hg (Gv.kb BK258.out) : gb258 ≠ gb260)); have n7_ := Gv.a0 ((Gv.ngt hg (Gv.kb BK258.out) : gb260 ≠ gb258)); have n8_ := Gv.a0 ((Gv.nlt hg (Gv.kb BK259.out) : gb259 ≠ gb260)); have n9_ := Gv.a0 ((Gv.ngt hg (Gv.kb BK259.out) : gb260 ≠ gb259)); clear BK258; clear BK259; clear HB; have BK258 := n0_; have BK259 := n1_; have HB := n2_; have BK260 := n3_; have GW260 := n4_; have GE260 := n5_; have NB258_260 := n6_; have NB260_258 := n7_; have NB259_260 := n8_; have NB260_259 := n9_; clear n0_ n1_ n2_ n3_ n4_ n5_ n6_ n7_ n8_ n9_; clear hb hbox hg; have hnb6 := NB258_259.out; have hnc6 := NB259_258.out; have hnb7 := NB258_260.out; have hnc7 := NB260_258.out; obtain ⟨hcz8_0, hcz8_1, hcz8_2, hcz8_3, hcz8_4, hcz8_5⟩ := Gv.c6 BK258.out; obtain ⟨hfz8_0, hfz8_1, hfz8_2, hfz8_3, hfz8_4, hfz8_5⟩ := Gv.f6 BK258.out) | ((with_reducible refine gate_callee (f := 20) rfl ?_); refine goesL_ (some 6) rfl rfl Tryd.func20 (by kernel_rfl) rfl #[.agg #[.int .i64 a0_0, .int .i64 a0_1, .int .i64 a0_2, .int .i64 a0_3, .int .i64 a0_4]] rfl Gv.lm ?_; (with_reducible refine (laws_toAddr.calls a0_0 a0_1 a0_2 a0_3 a0_4 t261 t262 t263 t264 t265 _ A2.out).mono ?_); rintro e w9 ⟨rfl, hb⟩; refine ⟨_, rfl, ?_⟩; have n0_ := Gv.a0 (Gv.bb BK258.out hb); have n1_ := Gv.a0 (Gv.bb BK259.out hb); have n2_ := Gv.a0 (Gv.bb BK260.out hb); have n3_ := Gv.a0 (below_step Gv.bw hb); clear BK258; clear BK259; clear BK260; clear HB; have BK258 := n0_; have BK259 := n1_; have BK260 := n2_; have HB := n3_; clear n0_ n1_ n2_ n3_; (try clear hb); (try clear hb2); (try clear hk); (try clear hi); have hnb10 := NB260_259.out; have hnc10 := NB259_260.out; obtain ⟨hcz11_0, hcz11_1, hcz11_2, hcz11_3, hcz11_4, hcz11_5⟩ := Gv.c6 BK260.out; obtain ⟨hfz11_0, hfz11_1, hfz11_2, hfz11_3, hfz11_4, hfz11_5⟩ := Gv.f6 BK260.out; obtain ⟨hcz12_0, hcz12_1, hcz12_2, hcz12_3, hcz12_4, hcz12_5⟩ := Gv.c6 BK258.out; obtain ⟨hfz12_0, hfz12_1, hfz12_2, hfz12_3, hfz12_4, hfz12_5⟩ := Gv.f6 BK258.out; obtain ⟨hcz13_0, hcz13_1, hcz13_2, hcz13_3, hcz13_4, hcz13_5⟩ := Gv.c6 BK259.out; obtain ⟨hfz13_0, hfz13_1, hfz13_2, hfz13_3, hfz13_4, hfz13_5⟩ := Gv.f6 BK259.out))
 refine bodyPost_ret (results_cell_row rfl _ _ gb259 31 #[.int .i64 t261, .int .i64 t262, .int .i64 t263, .int .i64 t264, .int .i64 t265, .int .i64 a0_5] (0, 0) _ rfl (by (with_reducible repeat (first | refine blk_drewN ?_ _ | refine blk_drew ?_ | refine blk_alloc ?_ _)); refine blk_put (cs := #[.int .i64 t261, .int .i64 t262, .int .i64 t263, .int .i64 t264, .int .i64 t265, .int .i64 0]) ?_ 5 _ rfl; (with_reducible repeat (first | refine blk_drewN ?_ _ | refine blk_drew ?_ | refine blk_alloc ?_ _)); refine blk_put (cs := #[.int .i64 t261, .int .i64 t262, .int .i64 t263, .int .i64 t264, .int .i64 0, .int .i64 0]) ?_ 4 _ rfl; (with_reducible repeat (first | refine blk_drewN ?_ _ | refine blk_drew ?_ | refine blk_alloc ?_ _)); refine blk_put (cs := #[.int .i64 t261, .int .i64 t262, .int .i64 t263, .int .i64 0, .int .i64 0, .int .i64 0]) ?_ 3 _ rfl; (with_reducible repeat (first | refine blk_drewN ?_ _ | refine blk_drew ?_ | refine blk_alloc ?_ _)); refine blk_put (cs := #[.int .i64 t261, .int .i64 t262, .int .i64 0, .int .i64 0, .int .i64 0, .int .i64 0]) ?_ 2 _ rfl; (with_reducible repeat (first | refine blk_drewN ?_ _ | refine blk_drew ?_ | refine blk_alloc ?_ _)); refine blk_put (cs := #[.int .i64 t261, .int .i64 0, .int .i64 0, .int .i64 0, .int .i64 0, .int .i64 0]) ?_ 1 _ rfl; (with_reducible repeat (first | refine blk_drewN ?_ _ | refine blk_drew ?_ | refine blk_alloc ?_ _)); refine blk_put (cs := #[.int .i64 0, .int .i64 0, .int .i64 0, .int .i64 0, .int .i64 0, .int .i64 0]) ?_ 0 _ rfl; (with_reducible repeat (first | refine blk_drewN ?_ _ | refine blk_drew ?_ | refine blk_alloc ?_ _)); refine blk_far ?_ NB259_260.out _; (with_reducible repeat (first | refine blk_drewN ?_ _ | refine blk_drew ?_ | refine blk_alloc ?_ _)); refine blk_far ?_ NB259_260.out _; (with_reducible repeat (first | refine blk_drewN ?_ _ | refine blk_drew ?_ | refine blk_alloc ?_ _)); refine blk_far ?_ NB259_260.out _; (with_reducible repeat (first | refine blk_drewN ?_ _ | refine blk_drew ?_ | refine blk_alloc ?_ _)); refine blk_far ?_ NB259_260.out _; (with_reducible repeat (first | refine blk_drewN ?_ _ | refine blk_drew ?_ | refine blk_alloc ?_ _)); refine blk_far ?_ NB259_260.out _; (with_reducible repeat (first | refine blk_drewN ?_ _ | refine blk_drew ?_ | refine blk_alloc ?_ _)); refine blk_far ?_ NB259_260.out _; (with_reducible repeat (first | refine blk_drewN ?_ _ | refine blk_drew ?_ | refine blk_alloc ?_ _)); exact BK259.out) Tryd.underlying31 rfl (by kernel_rfl)) rfl ?_
 exact ⟨Gv.rt, Gv.bw⟩

/-! ### laws_toRule: function 5 -/
def laws_toRule.f (a0_0 : Int) (a0_1 : Int) (a0_2 : Int) (a0_3 : Int) (a0_4 : Int) (a0_5 : Int) (a0_6 : Int) (a0_7 : Int) (a0_8 : Int) (a0_9 : Int) (a0_10 : Int) (a0_11 : Int) (a0_12 : Int) (a0_13 : Int) (a0_14 : Int) (a0_15 : Int) (a0_16 : Int) (a0_17 : Int) (a0_18 : Int) (a0_19 : Int) (a0_20 : Int) : Option (Int × Int × Int × Int × Int × Int × Int × Int × Int × Int × Int × Int × Int × Int × Int × Int × Int × Int × Int × Int × Int) := (laws_toPrefix.f a0_1 a0_2 a0_3 a0_4 a0_5 a0_6).bind fun bt269 => ((laws_toPrefix.f a0_7 a0_8 a0_9 a0_10 a0_11 a0_12).bind fun bt275 => (some (a0_0, bt269.1, bt269.2.1, bt269.2.2.1, bt269.2.2.2.1, bt269.2.2.2.2.1, bt269.2.2.2.2.2, bt275.1, bt275.2.1, bt275.2.2.1, bt275.2.2.2.1, bt275.2.2.2.2.1, bt275.2.2.2.2.2, a0_13, a0_14, a0_15, a0_16, a0_17, a0_18, a0_19, a0_20)))
set_option maxHeartbeats 8000000 in
set_option maxRecDepth 100000 in
theorem laws_toRule.calls (a0_0 : Int) (a0_1 : Int) (a0_2 : Int) (a0_3 : Int) (a0_4 : Int) (a0_5 : Int) (a0_6 : Int) (a0_7 : Int) (a0_8 : Int) (a0_9 : Int) (a0_10 : Int) (a0_11 : Int) (a0_12 : Int) (a0_13 : Int) (a0_14 : Int) (a0_15 : Int) (a0_16 : Int) (a0_17 : Int) (a0_18 : Int) (a0_19 : Int) (a0_20 : Int) (r1 : Int) (r2 : Int) (r3 : Int) (r4 : Int) (r5 : Int) (r6 : Int) (r7 : Int) (r8 : Int) (r9 : Int) (r10 : Int) (r11 : Int) (r12 : Int) (r13 : Int) (r14 : Int) (r15 : Int) (r16 : Int) (r17 : Int) (r18 : Int) (r19 : Int) (r20 : Int) (r21 : Int) (w : World) (h : laws_toRule.f a0_0 a0_1 a0_2 a0_3 a0_4 a0_5 a0_6 a0_7 a0_8 a0_9 a0_10 a0_11 a0_12 a0_13 a0_14 a0_15 a0_16 a0_17 a0_18 a0_19 a0_20 = some (r1, r2, r3, r4, r5, r6, r7, r8, r9, r10, r11, r12, r13, r14, r15, r16, r17, r18, r19, r20, r21)) :
  Calls Tryd.prog 5 #[.agg #[.int .i64 a0_0, .int .i64 a0_1, .int .i64 a0_2, .int .i64 a0_3, .int .i64 a0_4, .int .i64 a0_5, .int .i64 a0_6, .int .i64 a0_7, .int .i64 a0_8, .int .i64 a0_9, .int .i64 a0_10, .int .i64 a0_11, .int .i64 a0_12, .int .i64 a0_13, .int .i64 a0_14, .int .i64 a0_15, .int .i64 a0_16, .int .i64 a0_17, .int .i64 a0_18, .int .i64 a0_19, .int .i64 a0_20]] w fun e w' => e = .returned (.agg #[.int .i64 r1, .int .i64 r2, .int .i64 r3, .int .i64 r4, .int .i64 r5, .int .i64 r6, .int .i64 r7, .int .i64 r8, .int .i64 r9, .int .i64 r10, .int .i64 r11, .int .i64 r12, .int .i64 r13, .int .i64 r14, .int .i64 r15, .int .i64 r16, .int .i64 r17, .int .i64 r18, .int .i64 r19, .int .i64 r20, .int .i64 r21]) ∧ Below w.heap.size w w' := by
 have hu27 := Tryd.underlying27
 have hu33 := Tryd.underlying33
 have hu25 := Tryd.underlying25
 have hu31 := Tryd.underlying31
 have HB := Gv.a0 (Below.refl w.heap.size w)
 have H : ((laws_toPrefix.f a0_1 a0_2 a0_3 a0_4 a0_5 a0_6).bind fun bt269 => ((laws_toPrefix.f a0_7 a0_8 a0_9 a0_10 a0_11 a0_12).bind fun bt275 => (some (a0_0, bt269.1, bt269.2.1, bt269.2.2.1, bt269.2.2.2.1, bt269.2.2.2.2.1, bt269.2.2.2.2.2, bt275.1, bt275.2.1, bt275.2.2.1, bt275.2.2.2.1, bt275.2.2.2.2.1, bt275.2.2.2.2.2, a0_13, a0_14, a0_15, a0_16, a0_17, a0_18, a0_19, a0_20)))) = some (r1, r2, r3, r4, r5, r6, r7, r8, r9, r10, r11, r12, r13, r14, r15, r16, r17, r18, r19, r20, r21) := h
 clear h
 replace H := Option.bind_eq_some_iff.mp H
 obtain ⟨⟨t269, t270, t271, t272, t273, t274⟩, A20, H⟩ := H
 replace H : ((laws_toPrefix.f a0_7 a0_8 a0_9 a0_10 a0_11 a0_12).bind fun bt275 => (some (a0_0, t269, t270, t271, t272, t273, t274, bt275.1, bt275.2.1, bt275.2.2.1, bt275.2.2.2.1, bt275.2.2.2.2.1, bt275.2.2.2.2.2, a0_13, a0_14, a0_15, a0_16, a0_17, a0_18, a0_19, a0_20))) = some (r1, r2, r3, r4, r5, r6, r7, r8, r9, r10, r11, r12, r13, r14, r15, r16, r17, r18, r19, r20, r21) := H
 have A2 := Gv.a0 A20
 clear A20
 replace H := Option.bind_eq_some_iff.mp H
 obtain ⟨⟨t275, t276, t277, t278, t279, t280⟩, A30, H⟩ := H
 replace H : (some (a0_0, t269, t270, t271, t272, t273, t274, t275, t276, t277, t278, t279, t280, a0_13, a0_14, a0_15, a0_16, a0_17, a0_18, a0_19, a0_20)) = some (r1, r2, r3, r4, r5, r6, r7, r8, r9, r10, r11, r12, r13, r14, r15, r16, r17, r18, r19, r20, r21) := H
 have A3 := Gv.a0 A30
 clear A30
 simp only [Option.some.injEq, Prod.mk.injEq] at H
 obtain ⟨rfl, rfl, rfl, rfl, rfl, rfl, rfl, rfl, rfl, rfl, rfl, rfl, rfl, rfl, rfl, rfl, rfl, rfl, rfl, rfl, rfl⟩ := H
 go_enter Tryd.func5, Tryd.ntmps5
 go_wp2_with (first | ((with_reducible refine gate_dst (N := 1) rfl ?_); refine box_event ?hg (N := 1) ?hd (cs := #[.int .i64 a0_0, .int .i64 a0_1, .int .i64 a0_2, .int .i64 a0_3, .int .i64 a0_4, .int .i64 a0_5, .int .i64 a0_6, .int .i64 a0_7, .int .i64 a0_8, .int .i64 a0_9, .int .i64 a0_10, .int .i64 a0_11, .int .i64 a0_12, .int .i64 a0_13, .int .i64 a0_14, .int .i64 a0_15, .int .i64 a0_16, .int .i64 a0_17, .int .i64 a0_18, .int .i64 a0_19, .int .i64 a0_20]) (t := 27) ?hr ?_; (case hd => rfl); (case hg => rfl); (case hr => first | (go_simp; done) | (go_simp; rfl)); intro gb266 hg w4 hbox hb; have n0_ := Gv.a0 (below_step Gv.bw hb); have n1_ := Gv.a0 (hbox); have n2_ := Gv.a0 ((Gv.ble hg Gv.bw : w.heap.size ≤ gb266)); have n3_ := Gv.a0 ((Gv.ble hg Gv.bw : w.heap.size ≤ gb266)); clear HB; have HB := n0_; have BK266 := n1_; have GW266 := n2_; have GE266 := n3_; clear n0_ n1_ n2_ n3_; clear hb hbox hg) | ((with_reducible refine gate_dst (N := 2) rfl ?_); refine box_event ?hg (N := 2) ?hd (cs := #[.int .i64 0, .int .i64 0, .int .i64 0, .int .i64 0, .int .i64 0, .int .i64 0, .int .i64 0, .int .i64 0, .int .i64 0, .int .i64 0, .int .i64 0, .int .i64 0, .int .i64 0, .int .i64 0, .int .i64 0, .int .i64 0, .int .i64 0, .int .i64 0, .int .i64 0, .int .i64 0, .int .i64 0]) (t := 33) ?hr ?_; (case hd => rfl); (case hg => rfl); (case hr => first | (go_simp; done) | (go_simp; rfl)); intro gb267 hg w5 hbox hb; have n0_ := Gv.a0 (Gv.bb BK266.out hb); have n1_ := Gv.a0 (below_step Gv.bw hb); have n2_ := Gv.a0 (hbox); have n3_ := Gv.a0 ((Gv.ble hg Gv.bw : w.heap.size ≤ gb267)); have n4_ := Gv.a0 ((Gv.ble hg Gv.bw : w.heap.size ≤ gb267)); have n5_ := Gv.a0 ((Gv.nlt hg (Gv.kb BK266.out) : gb266 ≠ gb267)); have n6_ := Gv.a0 ((Gv.ngt hg (Gv.kb BK266.out) : gb267 ≠ gb266)); clear BK266; clear HB; have BK266 := n0_; have HB := n1_; have BK267 := n2_; have GW267 := n3_; have GE267 := n4_; have NB266_267 := n5_; have NB267_266 := n6_; clear n0_ n1_ n2_ n3_ n4_ n5_ n6_; clear hb hbox hg) | ((with_reducible refine gate_dst (N := 3) rfl ?_); refine box_event ?hg (N := 3) ?hd (cs := #[.int .i64 0, .int .i64 0, .int .i64 0, .int .i64 0, .int .i64 0, .int .i64 0, .int .i64 0, .int .i64 0, .int .i64 0, .int .i64 0, .int .i64 0, .int .i64 0, .int .i64 0, .int .i64 0, .int .i64 0, .int .i64 0, .int .i64 0, .int .i64 0, .int .i64 0, .int .i64 0, .int .i64 0]) (t := 33) ?hr ?_; (case hd => rfl); (case hg => rfl); (case hr => first | (go_simp; done) | (go_simp; rfl)); intro gb268 hg w6 hbox hb; have n0_ := Gv.a0 (Gv.bb BK266.out hb); have n1_ := Gv.a0 (Gv.bb BK267.out hb); have n2_ := Gv.a0 (below_step Gv.bw hb); have n3_ := Gv.a0 (hbox); have n4_ := Gv.a0 ((Gv.ble hg Gv.bw : w.heap.size ≤ gb268)); have n5_ := Gv.a0 ((Gv.ble hg Gv.bw : w.heap.size ≤ gb268)); have n6_ := Gv.a0 ((Gv.nlt hg (Gv.kb BK266.out) : gb266 ≠ gb268)); have n7_ := Gv.a0 ((Gv.ngt hg (Gv.kb BK266.out) : gb268 ≠ gb266)); have n8_ := Gv.a0 ((Gv.nlt hg (Gv.kb BK267.out) : gb267 ≠ gb268)); have n9_ := Gv.a0 ((Gv.ngt hg (Gv.kb BK267.out) : gb268 ≠ gb267)); clear BK266; clear BK267; clear HB; have BK266 := n0_; have BK267 := n1_; have HB := n2_; have BK268 := n3_; have GW268 := n4_; have GE268 := n5_; have NB266_268 := n6_; have NB268_266 := n7_; have NB267_268 := n8_; have NB268_267 := n9_; clear n0_ n1_ n2_ n3_ n4_ n5_ n6_ n7_ n8_ n9_; clear hb hbox hg; have hnb7 := NB266_267.out; have hnc7 := NB267_266.out; have hnb8 := NB266_268.out; have hnc8 := NB268_266.out; have hnb10 := NB268_267.out; have hnc10 := NB267_268.out) | ((with_reducible refine gate_callee (f := 10) rfl ?_); refine goesL_ (some 9) rfl rfl Tryd.func10 (by kernel_rfl) rfl #[.agg #[.int .i64 a0_1, .int .i64 a0_2, .int .i64 a0_3, .int .i64 a0_4, .int .i64 a0_5, .int .i64 a0_6]] rfl Gv.lm ?_; (with_reducible refine (laws_toPrefix.calls a0_1 a0_2 a0_3 a0_4 a0_5 a0_6 t269 t270 t271 t272 t273 t274 _ A2.out).mono ?_); rintro e w12 ⟨rfl, hb⟩; refine ⟨_, rfl, ?_⟩; have n0_ := Gv.a0 (below_step HB.out hb); have n1_ := Gv.a0 (Gv.bb BK266.out hb); have n2_ := Gv.a0 (Gv.bb BK267.out hb); have n3_ := Gv.a0 (Gv.bb BK268.out hb); clear HB BK266 BK267 BK268 hb; have HB := n0_; have BK266 := n1_; have BK267 := n2_; have BK268 := n3_; clear n0_ n1_ n2_ n3_) | ((with_reducible refine gate_callee (f := 10) rfl ?_); refine goesL_ (some 13) rfl rfl Tryd.func10 (by kernel_rfl) rfl #[.agg #[.int .i64 a0_7, .int .i64 a0_8, .int .i64 a0_9, .int .i64 a0_10, .int .i64 a0_11, .int .i64 a0_12]] rfl Gv.lm ?_; (with_reducible refine (laws_toPrefix.calls a0_7 a0_8 a0_9 a0_10 a0_11 a0_12 t275 t276 t277 t278 t279 t280 _ A3.out).mono ?_); rintro e w15 ⟨rfl, hb⟩; refine ⟨_, rfl, ?_⟩; have n0_ := Gv.a0 (below_step HB.out hb); have n1_ := Gv.a0 (Gv.bb BK266.out hb); have n2_ := Gv.a0 (Gv.bb BK267.out hb); have n3_ := Gv.a0 (Gv.bb BK268.out hb); clear HB BK266 BK267 BK268 hb; have HB := n0_; have BK266 := n1_; have BK267 := n2_; have BK268 := n3_; clear n0_ n1_ n2_ n3_) | ((with_reducible refine Gv.gate_load (t := 3) rfl ?_); refine Gv.get_event (g := gb266) rfl rfl rfl BK266.out rfl Tryd.underlying3 rfl ?_) | ((with_reducible refine Gv.gate_load (t := 25) rfl ?_); refine Gv.mid_event (g := gb266) [.int .i64 a0_1, .int .i64 a0_2, .int .i64 a0_3, .int .i64 a0_4, .int .i64 a0_5, .int .i64 a0_6] rfl rfl rfl BK266.out rfl Tryd.underlying25 rfl (by kernel_rfl) ?_) | ((with_reducible refine Gv.gate_load (t := 25) rfl ?_); refine Gv.mid_event (g := gb266) [.int .i64 a0_7, .int .i64 a0_8, .int .i64 a0_9, .int .i64 a0_10, .int .i64 a0_11, .int .i64 a0_12] rfl rfl rfl BK266.out rfl Tryd.underlying25 rfl (by kernel_rfl) ?_) | ((with_reducible refine Gv.gate_load (t := 31) rfl ?_); refine Gv.mid_event (g := gb266) [.int .i64 a0_1, .int .i64 a0_2, .int .i64 a0_3, .int .i64 a0_4, .int .i64 a0_5, .int .i64 a0_6] rfl rfl rfl BK266.out rfl Tryd.underlying31 rfl (by kernel_rfl) ?_) | ((with_reducible refine Gv.gate_load (t := 31) rfl ?_); refine Gv.mid_event (g := gb266) [.int .i64 a0_7, .int .i64 a0_8, .int .i64 a0_9, .int .i64 a0_10, .int .i64 a0_11, .int .i64 a0_12] rfl rfl rfl BK266.out rfl Tryd.underlying31 rfl (by kernel_rfl) ?_) | ((with_reducible refine gate_store (t := 3) rfl ?_); refine Gv.put_event (g := gb268) rfl rfl rfl rfl rfl BK268.out (by kernel_rfl) (by simp) ?_; intro wp_ hbox hoth hbel; simp only [List.setIfInBounds_toArray, List.set_cons_succ, List.set_cons_zero] at hbox; have n0_ := Gv.a0 (hbox); have n1_ := Gv.a0 (hbel w HB.out GE268.out); have n2_ := Gv.a0 ((hoth gb266 NB266_268.out).trans BK266.out); have n3_ := Gv.a0 ((hoth gb267 NB267_268.out).trans BK267.out); clear HB BK266 BK267 BK268; have BK268 := n0_; have HB := n1_; have BK266 := n2_; have BK267 := n3_; clear n0_ n1_ n2_ n3_ hbox hoth hbel) | ((with_reducible refine gate_store (t := 25) rfl ?_); refine Gv.mput_event (g := gb268) (cs' := #[.int .i64 a0_0, .int .i64 t269, .int .i64 t270, .int .i64 t271, .int .i64 t272, .int .i64 t273, .int .i64 t274, .int .i64 0, .int .i64 0, .int .i64 0, .int .i64 0, .int .i64 0, .int .i64 0, .int .i64 0, .int .i64 0, .int .i64 0, .int .i64 0, .int .i64 0, .int .i64 0, .int .i64 0, .int .i64 0]) rfl rfl rfl rfl rfl BK268.out (by kernel_rfl) rfl (by simp) rfl ?_; intro wp_ hbox hoth hbel; have n0_ := Gv.a0 (hbox); have n1_ := Gv.a0 (hbel w HB.out GE268.out); have n2_ := Gv.a0 ((hoth gb266 NB266_268.out).trans BK266.out); have n3_ := Gv.a0 ((hoth gb267 NB267_268.out).trans BK267.out); clear HB BK266 BK267 BK268; have BK268 := n0_; have HB := n1_; have BK266 := n2_; have BK267 := n3_; clear n0_ n1_ n2_ n3_ hbox hoth hbel) | ((with_reducible refine gate_store (t := 25) rfl ?_); refine Gv.mput_event (g := gb268) (cs' := #[.int .i64 a0_0, .int .i64 t269, .int .i64 t270, .int .i64 t271, .int .i64 t272, .int .i64 t273, .int .i64 t274, .int .i64 t275, .int .i64 t276, .int .i64 t277, .int .i64 t278, .int .i64 t279, .int .i64 t280, .int .i64 0, .int .i64 0, .int .i64 0, .int .i64 0, .int .i64 0, .int .i64 0, .int .i64 0, .int .i64 0]) rfl rfl rfl rfl rfl BK268.out (by kernel_rfl) rfl (by simp) rfl ?_; intro wp_ hbox hoth hbel; have n0_ := Gv.a0 (hbox); have n1_ := Gv.a0 (hbel w HB.out GE268.out); have n2_ := Gv.a0 ((hoth gb266 NB266_268.out).trans BK266.out); have n3_ := Gv.a0 ((hoth gb267 NB267_268.out).trans BK267.out); clear HB BK266 BK267 BK268; have BK268 := n0_; have HB := n1_; have BK266 := n2_; have BK267 := n3_; clear n0_ n1_ n2_ n3_ hbox hoth hbel) | ((with_reducible refine gate_store (t := 31) rfl ?_); refine Gv.mput_event (g := gb268) (cs' := #[.int .i64 a0_0, .int .i64 t269, .int .i64 t270, .int .i64 t271, .int .i64 t272, .int .i64 t273, .int .i64 t274, .int .i64 0, .int .i64 0, .int .i64 0, .int .i64 0, .int .i64 0, .int .i64 0, .int .i64 0, .int .i64 0, .int .i64 0, .int .i64 0, .int .i64 0, .int .i64 0, .int .i64 0, .int .i64 0]) rfl rfl rfl rfl rfl BK268.out (by kernel_rfl) rfl (by simp) rfl ?_; intro wp_ hbox hoth hbel; have n0_ := Gv.a0 (hbox); have n1_ := Gv.a0 (hbel w HB.out GE268.out); have n2_ := Gv.a0 ((hoth gb266 NB266_268.out).trans BK266.out); have n3_ := Gv.a0 ((hoth gb267 NB267_268.out).trans BK267.out); clear HB BK266 BK267 BK268; have BK268 := n0_; have HB := n1_; have BK266 := n2_; have BK267 := n3_; clear n0_ n1_ n2_ n3_ hbox hoth hbel) | ((with_reducible refine gate_store (t := 31) rfl ?_); refine Gv.mput_event (g := gb268) (cs' := #[.int .i64 a0_0, .int .i64 t269, .int .i64 t270, .int .i64 t271, .int .i64 t272, .int .i64 t273, .int .i64 t274, .int .i64 t275, .int .i64 t276, .int .i64 t277, .int .i64 t278, .int .i64 t279, .int .i64 t280, .int .i64 0, .int .i64 0, .int .i64 0, .int .i64 0, .int .i64 0, .int .i64 0, .int .i64 0, .int .i64 0]) rfl rfl rfl rfl rfl BK268.out (by kernel_rfl) rfl (by simp) rfl ?_; intro wp_ hbox hoth hbel; have n0_ := Gv.a0 (hbox); have n1_ := Gv.a0 (hbel w HB.out GE268.out); have n2_ := Gv.a0 ((hoth gb266 NB266_268.out).trans BK266.out); have n3_ := Gv.a0 ((hoth gb267 NB267_268.out).trans BK267.out); clear HB BK266 BK267 BK268; have BK268 := n0_; have HB := n1_; have BK266 := n2_; have BK267 := n3_; clear n0_ n1_ n2_ n3_ hbox hoth hbel) | ((with_reducible refine Gv.gate_load (t := 33) rfl ?_); refine wpList_load_row rfl 33 _ rfl gb268 rfl 33 _ _ _ BK268.out Tryd.underlying33 rfl (by kernel_rfl) ?_) | ((with_reducible refine gate_store (t := 33) (p := 2) rfl ?_); refine Gv.store_event (g := gb267) (cells := #[.int .i64 a0_0, .int .i64 t269, .int .i64 t270, .int .i64 t271, .int .i64 t272, .int .i64 t273, .int .i64 t274, .int .i64 t275, .int .i64 t276, .int .i64 t277, .int .i64 t278, .int .i64 t279, .int .i64 t280, .int .i64 a0_13, .int .i64 a0_14, .int .i64 a0_15, .int .i64 a0_16, .int .i64 a0_17, .int .i64 a0_18, .int .i64 a0_19, .int .i64 a0_20]) rfl rfl rfl rfl rfl BK267.out (by kernel_rfl) rfl (by simp; and_intros <;> rfl) ?_; intro wp_ hbox hoth hbel; have n0_ := Gv.a0 (hbox); have n1_ := Gv.a0 (hbel w HB.out GE267.out); have n2_ := Gv.a0 ((hoth gb266 NB266_267.out).trans BK266.out); have n3_ := Gv.a0 ((hoth gb268 NB268_267.out).trans BK268.out); clear HB BK266 BK267 BK268; have BK267 := n0_; have HB := n1_; have BK266 := n2_; have BK268 := n3_; clear n0_ n1_ n2_ n3_ hbox hoth hbel))
 refine bodyPost_ret (results_cell_row rfl _ _ gb267 33 #[.int .i64 a0_0, .int .i64 t269, .int .i64 t270, .int .i64 t271, .int .i64 t272, .int .i64 t273, .int .i64 t274, .int .i64 t275, .int .i64 t276, .int .i64 t277, .int .i64 t278, .int .i64 t279, .int .i64 t280, .int .i64 a0_13, .int .i64 a0_14, .int .i64 a0_15, .int .i64 a0_16, .int .i64 a0_17, .int .i64 a0_18, .int .i64 a0_19, .int .i64 a0_20] (0, 0) _ rfl BK267.out Tryd.underlying33 rfl (by kernel_rfl)) rfl ?_
 exact ⟨Gv.rt, Gv.bw⟩

/-! ### impl_within: function 21 -/
def impl_within.f (a0 : Int) (a1 : Int) (a2 : Int) : Option (Bool) := if a0 ≥ a1 then (some (decide (a0 ≤ a2))) else (some false)
set_option maxHeartbeats 8000000 in
set_option maxRecDepth 100000 in
theorem impl_within.calls (a0 : Int) (a1 : Int) (a2 : Int) (r : Bool) (w : World) (h : impl_within.f a0 a1 a2 = some r) :
  Calls Tryd.prog 21 #[.int .i64 a0, .int .i64 a1, .int .i64 a2] w fun e w' => e = .returned (.bool r) ∧ Drawn0 w w' := by
 have H : (if a0 ≥ a1 then (some (decide (a0 ≤ a2))) else (some false)) = some r := h
 clear h
 by_cases c4 : a0 ≥ a1
 ·rw [if_pos c4] at H
  have c4b0 : decide (a1 ≤ a0) = true := decide_eq_true c4
  clear c4
  obtain rfl := Option.some.inj H
  go_enter Tryd.func21, Tryd.ntmps21
  go_wp2
  go_ret
  exact ⟨by first | rfl | (simp; done) | (simp [Int.tdiv_eq_ediv_of_nonneg]; done) | (simp [*]; done), by repeat (first | exact Drawn0.refl _ | apply Drawn0.step)⟩
 ·rw [if_neg c4] at H
  have c4b0 : decide (a1 ≤ a0) = false := decide_eq_false c4
  clear c4
  obtain rfl := Option.some.inj H
  go_enter Tryd.func21, Tryd.ntmps21
  go_wp2
  go_ret
  exact ⟨by first | rfl | (simp; done) | (simp [Int.tdiv_eq_ediv_of_nonneg]; done) | (simp [*]; done), by repeat (first | exact Drawn0.refl _ | apply Drawn0.step)⟩

/-! ### impl_isAny: function 28 -/
def impl_isAny.f (a0_0 : Int) (a0_1 : Int) (a0_2 : Int) (a0_3 : Int) (a0_4 : Int) (a0_5 : Int) : Option (Bool) := some ((a0_0 == 0 && (a0_1 == 0 && (a0_2 == 0 && (a0_3 == 0 && (a0_4 == 0))))) && (a0_5 == 0))
set_option maxHeartbeats 8000000 in
set_option maxRecDepth 100000 in
theorem impl_isAny.calls (a0_0 : Int) (a0_1 : Int) (a0_2 : Int) (a0_3 : Int) (a0_4 : Int) (a0_5 : Int) (r : Bool) (w : World) (h : impl_isAny.f a0_0 a0_1 a0_2 a0_3 a0_4 a0_5 = some r) :
  Calls Tryd.prog 28 #[.agg #[.int .i64 a0_0, .int .i64 a0_1, .int .i64 a0_2, .int .i64 a0_3, .int .i64 a0_4, .int .i64 a0_5]] w fun e w' => e = .returned (.bool r) ∧ Below w.heap.size w w' := by
 have hu31 := Tryd.underlying31
 have HB := Gv.a0 (Below.refl w.heap.size w)
 have H : (some ((a0_0 == 0 && (a0_1 == 0 && (a0_2 == 0 && (a0_3 == 0 && (a0_4 == 0))))) && (a0_5 == 0))) = some r := h
 clear h
 obtain rfl := Option.some.inj H
 go_enter Tryd.func28, Tryd.ntmps28
 go_wp2_with (first | ((with_reducible refine gate_dst (N := 1) rfl ?_); refine box_event ?hg (N := 1) ?hd (cs := #[.int .i64 a0_0, .int .i64 a0_1, .int .i64 a0_2, .int .i64 a0_3, .int .i64 a0_4, .int .i64 a0_5]) (t := 31) ?hr ?_; (case hd => rfl); (case hg => rfl); (case hr => first | (go_simp; done) | (go_simp; rfl)); intro gb281 hg w2 hbox hb; have n0_ := Gv.a0 (below_step Gv.bw hb); have n1_ := Gv.a0 (hbox); have n2_ := Gv.a0 ((Gv.ble hg Gv.bw : w.heap.size ≤ gb281)); have n3_ := Gv.a0 ((Gv.ble hg Gv.bw : w.heap.size ≤ gb281)); clear HB; have HB := n0_; have BK281 := n1_; have GW281 := n2_; have GE281 := n3_; clear n0_ n1_ n2_ n3_; clear hb hbox hg; obtain ⟨hcz3_0, hcz3_1, hcz3_2, hcz3_3, hcz3_4, hcz3_5⟩ := Gv.c6 BK281.out; obtain ⟨hfz3_0, hfz3_1, hfz3_2, hfz3_3, hfz3_4, hfz3_5⟩ := Gv.f6 BK281.out))
 go_ret
 exact ⟨Gv.rt, Gv.bw⟩

/-! ### impl_isLong: function 48 -/
def impl_isLong.f (a0 : Int) : Option (Bool) := (impl_within.f a0 0 4294967295).bind fun t282 => (some t282)
set_option maxHeartbeats 8000000 in
set_option maxRecDepth 100000 in
theorem impl_isLong.calls (a0 : Int) (r : Bool) (w : World) (h : impl_isLong.f a0 = some r) :
  Calls Tryd.prog 48 #[.int .i64 a0] w fun e w' => e = .returned (.bool r) ∧ Drawn0 w w' := by
 have H : ((impl_within.f a0 0 4294967295).bind fun t282 => (some t282)) = some r := h
 clear h
 replace H := Option.bind_eq_some_iff.mp H
 obtain ⟨t282, A20, H⟩ := H
 replace H : (some t282) = some r := H
 have A2 := Gv.a0 A20
 clear A20
 obtain rfl := Option.some.inj H
 go_enter Tryd.func48, Tryd.ntmps48
 go_wp2_with (first | ((with_reducible refine gate_callee (f := 21) rfl ?_); refine goesL_ (some 4) rfl rfl Tryd.func21 (by kernel_rfl) rfl #[.int .i64 a0, .int .i64 0, .int .i64 4294967295] rfl Gv.lm ?_; (with_reducible refine (impl_within.calls a0 0 4294967295 t282 _ A2.out).mono ?_); rintro e w' ⟨rfl, ⟨nd, rfl⟩⟩; refine ⟨_, rfl, ?_⟩))
 go_ret
 exact ⟨by first | rfl | (simp; done) | (simp [Int.tdiv_eq_ediv_of_nonneg]; done) | (simp [*]; done), by repeat (first | exact Drawn0.refl _ | apply Drawn0.step)⟩

/-! ### impl_AddrOk: function 35 -/
def impl_AddrOk.f (a0_0 : Int) (a0_1 : Int) (a0_2 : Int) (a0_3 : Int) (a0_4 : Int) : Option (Bool) := if a0_0 = 4 then (if a0_1 = 0 then (if a0_2 = 0 then (if a0_3 = 0 then ((impl_isLong.f a0_4).bind fun t284 => (some t284)) else (some false)) else (some false)) else (some false)) else (if a0_0 = 6 then ((impl_isLong.f a0_1).bind fun t285 => (if t285 = true then ((impl_isLong.f a0_2).bind fun t286 => (if t286 = true then ((impl_isLong.f a0_3).bind fun t287 => (if t287 = true then ((impl_isLong.f a0_4).bind fun t288 => (some t288)) else (some false))) else (some false))) else (some false))) else (some false))
set_option maxHeartbeats 8000000 in
set_option maxRecDepth 100000 in
theorem impl_AddrOk.calls (a0_0 : Int) (a0_1 : Int) (a0_2 : Int) (a0_3 : Int) (a0_4 : Int) (r : Bool) (w : World) (h : impl_AddrOk.f a0_0 a0_1 a0_2 a0_3 a0_4 = some r) :
  Calls Tryd.prog 35 #[.agg #[.int .i64 a0_0, .int .i64 a0_1, .int .i64 a0_2, .int .i64 a0_3, .int .i64 a0_4]] w fun e w' => e = .returned (.bool r) ∧ Below w.heap.size w w' := by
 have hu29 := Tryd.underlying29
 have HB := Gv.a0 (Below.refl w.heap.size w)
 have H : (if a0_0 = 4 then (if a0_1 = 0 then (if a0_2 = 0 then (if a0_3 = 0 then ((impl_isLong.f a0_4).bind fun t284 => (some t284)) else (some false)) else (some false)) else (some false)) else (if a0_0 = 6 then ((impl_isLong.f a0_1).bind fun t285 => (if t285 = true then ((impl_isLong.f a0_2).bind fun t286 => (if t286 = true then ((impl_isLong.f a0_3).bind fun t287 => (if t287 = true then ((impl_isLong.f a0_4).bind fun t288 => (some t288)) else (some false))) else (some false))) else (some false))) else (some false))) = some r := h
 clear h
 by_cases c2 : a0_0 = 4
 ·rw [if_pos c2] at H
  have c2b0 : (a0_0 == 4) = true := beq_iff_eq.mpr c2
  have c2b1 : (a0_0 != 4) = false := bne_eq_false_iff_eq.mpr c2
  clear c2
  by_cases c3 : a0_1 = 0
  ·rw [if_pos c3] at H
   have c3b0 : (a0_1 == 0) = true := beq_iff_eq.mpr c3
   have c3b1 : (a0_1 != 0) = false := bne_eq_false_iff_eq.mpr c3
   clear c3
   by_cases c4 : a0_2 = 0
   ·rw [if_pos c4] at H
    have c4b0 : (a0_2 == 0) = true := beq_iff_eq.mpr c4
    have c4b1 : (a0_2 != 0) = false := bne_eq_false_iff_eq.mpr c4
    clear c4
    by_cases c5 : a0_3 = 0
    ·rw [if_pos c5] at H
     have c5b0 : (a0_3 == 0) = true := beq_iff_eq.mpr c5
     have c5b1 : (a0_3 != 0) = false := bne_eq_false_iff_eq.mpr c5
     clear c5
     replace H := Option.bind_eq_some_iff.mp H
     obtain ⟨t284, A60, H⟩ := H
     replace H : (some t284) = some r := H
     have A6 := Gv.a0 A60
     clear A60
     obtain rfl := Option.some.inj H
     go_enter Tryd.func35, Tryd.ntmps35
     go_wp2_with (first | ((with_reducible refine gate_dst (N := 1) rfl ?_); refine box_event ?hg (N := 1) ?hd (cs := #[.int .i64 a0_0, .int .i64 a0_1, .int .i64 a0_2, .int .i64 a0_3, .int .i64 a0_4]) (t := 29) ?hr ?_; (case hd => rfl); (case hg => rfl); (case hr => first | (go_simp; done) | (go_simp; rfl)); intro gb283 hg w7 hbox hb; have n0_ := Gv.a0 (below_step Gv.bw hb); have n1_ := Gv.a0 (hbox); have n2_ := Gv.a0 ((Gv.ble hg Gv.bw : w.heap.size ≤ gb283)); have n3_ := Gv.a0 ((Gv.ble hg Gv.bw : w.heap.size ≤ gb283)); clear HB; have HB := n0_; have BK283 := n1_; have GW283 := n2_; have GE283 := n3_; clear n0_ n1_ n2_ n3_; clear hb hbox hg; obtain ⟨hcz8_0, hcz8_1, hcz8_2, hcz8_3, hcz8_4⟩ := Gv.c5 BK283.out; obtain ⟨hfz8_0, hfz8_1, hfz8_2, hfz8_3, hfz8_4⟩ := Gv.f5 BK283.out) | (go_at_call 48; (with_reducible refine (impl_isLong.calls a0_4 t284 _ A6.out).mono ?_); rintro e w' ⟨rfl, ⟨nd, rfl⟩⟩))
     go_ret
     exact ⟨Gv.rt, Gv.bw⟩
    ·rw [if_neg c5] at H
     have c5b0 : (a0_3 == 0) = false := beq_eq_false_iff_ne.mpr c5
     have c5b1 : (a0_3 != 0) = true := bne_iff_ne.mpr c5
     obtain rfl := Option.some.inj H
     go_enter Tryd.func35, Tryd.ntmps35
     go_wp2_with (first | ((with_reducible refine gate_dst (N := 1) rfl ?_); refine box_event ?hg (N := 1) ?hd (cs := #[.int .i64 a0_0, .int .i64 a0_1, .int .i64 a0_2, .int .i64 a0_3, .int .i64 a0_4]) (t := 29) ?hr ?_; (case hd => rfl); (case hg => rfl); (case hr => first | (go_simp; done) | (go_simp; rfl)); intro gb283 hg w9 hbox hb; have n0_ := Gv.a0 (below_step Gv.bw hb); have n1_ := Gv.a0 (hbox); have n2_ := Gv.a0 ((Gv.ble hg Gv.bw : w.heap.size ≤ gb283)); have n3_ := Gv.a0 ((Gv.ble hg Gv.bw : w.heap.size ≤ gb283)); clear HB; have HB := n0_; have BK283 := n1_; have GW283 := n2_; have GE283 := n3_; clear n0_ n1_ n2_ n3_; clear hb hbox hg; obtain ⟨hcz10_0, hcz10_1, hcz10_2, hcz10_3, hcz10_4⟩ := Gv.c5 BK283.out; obtain ⟨hfz10_0, hfz10_1, hfz10_2, hfz10_3, hfz10_4⟩ := Gv.f5 BK283.out))
     go_ret
     exact ⟨Gv.rt, Gv.bw⟩
   ·rw [if_neg c4] at H
    have c4b0 : (a0_2 == 0) = false := beq_eq_false_iff_ne.mpr c4
    have c4b1 : (a0_2 != 0) = true := bne_iff_ne.mpr c4
    obtain rfl := Option.some.inj H
    go_enter Tryd.func35, Tryd.ntmps35
    go_wp2_with (first | ((with_reducible refine gate_dst (N := 1) rfl ?_); refine box_event ?hg (N := 1) ?hd (cs := #[.int .i64 a0_0, .int .i64 a0_1, .int .i64 a0_2, .int .i64 a0_3, .int .i64 a0_4]) (t := 29) ?hr ?_; (case hd => rfl); (case hg => rfl); (case hr => first | (go_simp; done) | (go_simp; rfl)); intro gb283 hg w11 hbox hb; have n0_ := Gv.a0 (below_step Gv.bw hb); have n1_ := Gv.a0 (hbox); have n2_ := Gv.a0 ((Gv.ble hg Gv.bw : w.heap.size ≤ gb283)); have n3_ := Gv.a0 ((Gv.ble hg Gv.bw : w.heap.size ≤ gb283)); clear HB; have HB := n0_; have BK283 := n1_; have GW283 := n2_; have GE283 := n3_; clear n0_ n1_ n2_ n3_; clear hb hbox hg; obtain ⟨hcz12_0, hcz12_1, hcz12_2, hcz12_3, hcz12_4⟩ := Gv.c5 BK283.out; obtain ⟨hfz12_0, hfz12_1, hfz12_2, hfz12_3, hfz12_4⟩ := Gv.f5 BK283.out))
    go_ret
    exact ⟨Gv.rt, Gv.bw⟩
  ·rw [if_neg c3] at H
   have c3b0 : (a0_1 == 0) = false := beq_eq_false_iff_ne.mpr c3
   have c3b1 : (a0_1 != 0) = true := bne_iff_ne.mpr c3
   obtain rfl := Option.some.inj H
   go_enter Tryd.func35, Tryd.ntmps35
   go_wp2_with (first | ((with_reducible refine gate_dst (N := 1) rfl ?_); refine box_event ?hg (N := 1) ?hd (cs := #[.int .i64 a0_0, .int .i64 a0_1, .int .i64 a0_2, .int .i64 a0_3, .int .i64 a0_4]) (t := 29) ?hr ?_; (case hd => rfl); (case hg => rfl); (case hr => first | (go_simp; done) | (go_simp; rfl)); intro gb283 hg w13 hbox hb; have n0_ := Gv.a0 (below_step Gv.bw hb); have n1_ := Gv.a0 (hbox); have n2_ := Gv.a0 ((Gv.ble hg Gv.bw : w.heap.size ≤ gb283)); have n3_ := Gv.a0 ((Gv.ble hg Gv.bw : w.heap.size ≤ gb283)); clear HB; have HB := n0_; have BK283 := n1_; have GW283 := n2_; have GE283 := n3_; clear n0_ n1_ n2_ n3_; clear hb hbox hg; obtain ⟨hcz14_0, hcz14_1, hcz14_2, hcz14_3, hcz14_4⟩ := Gv.c5 BK283.out; obtain ⟨hfz14_0, hfz14_1, hfz14_2, hfz14_3, hfz14_4⟩ := Gv.f5 BK283.out))
   go_ret
   exact ⟨Gv.rt, Gv.bw⟩
 ·rw [if_neg c2] at H
  have c2b0 : (a0_0 == 4) = false := beq_eq_false_iff_ne.mpr c2
  have c2b1 : (a0_0 != 4) = true := bne_iff_ne.mpr c2
  by_cases c15 : a0_0 = 6
  ·rw [if_pos c15] at H
   have c15b0 : (a0_0 == 6) = true := beq_iff_eq.mpr c15
   have c15b1 : (a0_0 != 6) = false := bne_eq_false_iff_eq.mpr c15
   clear c15
   replace H := Option.bind_eq_some_iff.mp H
   obtain ⟨t285, A160, H⟩ := H
   replace H : (if t285 = true then ((impl_isLong.f a0_2).bind fun t286 => (if t286 = true then ((impl_isLong.f a0_3).bind fun t287 => (if t287 = true then ((impl_isLong.f a0_4).bind fun t288 => (some t288)) else (some false))) else (some false))) else (some false)) = some r := H
   have A16 := Gv.a0 A160
   clear A160
   by_cases c17 : t285 = true
   ·subst c17
    have H1 : ((impl_isLong.f a0_2).bind fun t286 => (if t286 = true then ((impl_isLong.f a0_3).bind fun t287 => (if t287 = true then ((impl_isLong.f a0_4).bind fun t288 => (some t288)) else (some false))) else (some false))) = some r := by rw [if_pos rfl] at H; exact H
    clear H
    have H := H1
    clear H1
    replace H := Option.bind_eq_some_iff.mp H
    obtain ⟨t286, A180, H⟩ := H
    replace H : (if t286 = true then ((impl_isLong.f a0_3).bind fun t287 => (if t287 = true then ((impl_isLong.f a0_4).bind fun t288 => (some t288)) else (some false))) else (some false)) = some r := H
    have A18 := Gv.a0 A180
    clear A180
    by_cases c19 : t286 = true
    ·subst c19
     have H1 : ((impl_isLong.f a0_3).bind fun t287 => (if t287 = true then ((impl_isLong.f a0_4).bind fun t288 => (some t288)) else (some false))) = some r := by rw [if_pos rfl] at H; exact H
     clear H
     have H := H1
     clear H1
     replace H := Option.bind_eq_some_iff.mp H
     obtain ⟨t287, A200, H⟩ := H
     replace H : (if t287 = true then ((impl_isLong.f a0_4).bind fun t288 => (some t288)) else (some false)) = some r := H
     have A20 := Gv.a0 A200
     clear A200
     by_cases c21 : t287 = true
     ·subst c21
      have H1 : ((impl_isLong.f a0_4).bind fun t288 => (some t288)) = some r := by rw [if_pos rfl] at H; exact H
      clear H
      have H := H1
      clear H1
      replace H := Option.bind_eq_some_iff.mp H
      obtain ⟨t288, A220, H⟩ := H
      replace H : (some t288) = some r := H
      have A22 := Gv.a0 A220
      clear A220
      obtain rfl := Option.some.inj H
      go_enter Tryd.func35, Tryd.ntmps35
      go_wp2_with (first | ((with_reducible refine gate_dst (N := 1) rfl ?_); refine box_event ?hg (N := 1) ?hd (cs := #[.int .i64 a0_0, .int .i64 a0_1, .int .i64 a0_2, .int .i64 a0_3, .int .i64 a0_4]) (t := 29) ?hr ?_; (case hd => rfl); (case hg => rfl); (case hr => first | (go_simp; done) | (go_simp; rfl)); intro gb283 hg w23 hbox hb; have n0_ := Gv.a0 (below_step Gv.bw hb); have n1_ := Gv.a0 (hbox); have n2_ := Gv.a0 ((Gv.ble hg Gv.bw : w.heap.size ≤ gb283)); have n3_ := Gv.a0 ((Gv.ble hg Gv.bw : w.heap.size ≤ gb283)); clear HB; have HB := n0_; have BK283 := n1_; have GW283 := n2_; have GE283 := n3_; clear n0_ n1_ n2_ n3_; clear hb hbox hg; obtain ⟨hcz24_0, hcz24_1, hcz24_2, hcz24_3, hcz24_4⟩ := Gv.c5 BK283.out; obtain ⟨hfz24_0, hfz24_1, hfz24_2, hfz24_3, hfz24_4⟩ := Gv.f5 BK283.out) | ((with_reducible refine gate_callee (f := 48) rfl ?_); refine goesL_ (some 29) rfl rfl Tryd.func48 (by kernel_rfl) rfl #[.int .i64 a0_1] rfl Gv.lm ?_; (with_reducible refine (impl_isLong.calls a0_1 true _ A16.out).mono ?_); rintro e w' ⟨rfl, ⟨nd, rfl⟩⟩; refine ⟨_, rfl, ?_⟩) | (go_at_call 48; (with_reducible refine (impl_isLong.calls a0_2 true _ A18.out).mono ?_); rintro e w' ⟨rfl, ⟨nd, rfl⟩⟩) | (go_at_call 48; (with_reducible refine (impl_isLong.calls a0_3 true _ A20.out).mono ?_); rintro e w' ⟨rfl, ⟨nd, rfl⟩⟩) | (go_at_call 48; (with_reducible refine (impl_isLong.calls a0_4 t288 _ A22.out).mono ?_); rintro e w' ⟨rfl, ⟨nd, rfl⟩⟩))
      go_ret
      exact ⟨Gv.rt, Gv.bw⟩
     ·replace c21 := Bool.eq_false_iff.mpr c21
      subst c21
      have H1 : (some false) = some r := by rw [if_neg (show ¬ (false = true) by decide)] at H; exact H
      clear H
      have H := H1
      clear H1
      obtain rfl := Option.some.inj H
      go_enter Tryd.func35, Tryd.ntmps35
      go_wp2_with (first | ((with_reducible refine gate_dst (N := 1) rfl ?_); refine box_event ?hg (N := 1) ?hd (cs := #[.int .i64 a0_0, .int .i64 a0_1, .int .i64 a0_2, .int .i64 a0_3, .int .i64 a0_4]) (t := 29) ?hr ?_; (case hd => rfl); (case hg => rfl); (case hr => first | (go_simp; done) | (go_simp; rfl)); intro gb283 hg w25 hbox hb; have n0_ := Gv.a0 (below_step Gv.bw hb); have n1_ := Gv.a0 (hbox); have n2_ := Gv.a0 ((Gv.ble hg Gv.bw : w.heap.size ≤ gb283)); have n3_ := Gv.a0 ((Gv.ble hg Gv.bw : w.heap.size ≤ gb283)); clear HB; have HB := n0_; have BK283 := n1_; have GW283 := n2_; have GE283 := n3_; clear n0_ n1_ n2_ n3_; clear hb hbox hg; obtain ⟨hcz26_0, hcz26_1, hcz26_2, hcz26_3, hcz26_4⟩ := Gv.c5 BK283.out; obtain ⟨hfz26_0, hfz26_1, hfz26_2, hfz26_3, hfz26_4⟩ := Gv.f5 BK283.out) | ((with_reducible refine gate_callee (f := 48) rfl ?_); refine goesL_ (some 29) rfl rfl Tryd.func48 (by kernel_rfl) rfl #[.int .i64 a0_1] rfl Gv.lm ?_; (with_reducible refine (impl_isLong.calls a0_1 true _ A16.out).mono ?_); rintro e w' ⟨rfl, ⟨nd, rfl⟩⟩; refine ⟨_, rfl, ?_⟩) | (go_at_call 48; (with_reducible refine (impl_isLong.calls a0_2 true _ A18.out).mono ?_); rintro e w' ⟨rfl, ⟨nd, rfl⟩⟩) | (go_at_call 48; (with_reducible refine (impl_isLong.calls a0_3 false _ A20.out).mono ?_); rintro e w' ⟨rfl, ⟨nd, rfl⟩⟩))
      go_ret
      exact ⟨Gv.rt, Gv.bw⟩
    ·replace c19 := Bool.eq_false_iff.mpr c19
     subst c19
     have H1 : (some false) = some r := by rw [if_neg (show ¬ (false = true) by decide)] at H; exact H
     clear H
     have H := H1
     clear H1
     obtain rfl := Option.some.inj H
     go_enter Tryd.func35, Tryd.ntmps35
     go_wp2_with (first | ((with_reducible refine gate_dst (N := 1) rfl ?_); refine box_event ?hg (N := 1) ?hd (cs := #[.int .i64 a0_0, .int .i64 a0_1, .int .i64 a0_2, .int .i64 a0_3, .int .i64 a0_4]) (t := 29) ?hr ?_; (case hd => rfl); (case hg => rfl); (case hr => first | (go_simp; done) | (go_simp; rfl)); intro gb283 hg w27 hbox hb; have n0_ := Gv.a0 (below_step Gv.bw hb); have n1_ := Gv.a0 (hbox); have n2_ := Gv.a0 ((Gv.ble hg Gv.bw : w.heap.size ≤ gb283)); have n3_ := Gv.a0 ((Gv.ble hg Gv.bw : w.heap.size ≤ gb283)); clear HB; have HB := n0_; have BK283 := n1_; have GW283 := n2_; have GE283 := n3_; clear n0_ n1_ n2_ n3_; clear hb hbox hg; obtain ⟨hcz28_0, hcz28_1, hcz28_2, hcz28_3, hcz28_4⟩ := Gv.c5 BK283.out; obtain ⟨hfz28_0, hfz28_1, hfz28_2, hfz28_3, hfz28_4⟩ := Gv.f5 BK283.out) | ((with_reducible refine gate_callee (f := 48) rfl ?_); refine goesL_ (some 29) rfl rfl Tryd.func48 (by kernel_rfl) rfl #[.int .i64 a0_1] rfl Gv.lm ?_; (with_reducible refine (impl_isLong.calls a0_1 true _ A16.out).mono ?_); rintro e w' ⟨rfl, ⟨nd, rfl⟩⟩; refine ⟨_, rfl, ?_⟩) | (go_at_call 48; (with_reducible refine (impl_isLong.calls a0_2 false _ A18.out).mono ?_); rintro e w' ⟨rfl, ⟨nd, rfl⟩⟩))
     go_ret
     exact ⟨Gv.rt, Gv.bw⟩
   ·replace c17 := Bool.eq_false_iff.mpr c17
    subst c17
    have H1 : (some false) = some r := by rw [if_neg (show ¬ (false = true) by decide)] at H; exact H
    clear H
    have H := H1
    clear H1
    obtain rfl := Option.some.inj H
    go_enter Tryd.func35, Tryd.ntmps35
    go_wp2_with (first | ((with_reducible refine gate_dst (N := 1) rfl ?_); refine box_event ?hg (N := 1) ?hd (cs := #[.int .i64 a0_0, .int .i64 a0_1, .int .i64 a0_2, .int .i64 a0_3, .int .i64 a0_4]) (t := 29) ?hr ?_; (case hd => rfl); (case hg => rfl); (case hr => first | (go_simp; done) | (go_simp; rfl)); intro gb283 hg w29 hbox hb; have n0_ := Gv.a0 (below_step Gv.bw hb); have n1_ := Gv.a0 (hbox); have n2_ := Gv.a0 ((Gv.ble hg Gv.bw : w.heap.size ≤ gb283)); have n3_ := Gv.a0 ((Gv.ble hg Gv.bw : w.heap.size ≤ gb283)); clear HB; have HB := n0_; have BK283 := n1_; have GW283 := n2_; have GE283 := n3_; clear n0_ n1_ n2_ n3_; clear hb hbox hg; obtain ⟨hcz30_0, hcz30_1, hcz30_2, hcz30_3, hcz30_4⟩ := Gv.c5 BK283.out; obtain ⟨hfz30_0, hfz30_1, hfz30_2, hfz30_3, hfz30_4⟩ := Gv.f5 BK283.out) | ((with_reducible refine gate_callee (f := 48) rfl ?_); refine goesL_ (some 29) rfl rfl Tryd.func48 (by kernel_rfl) rfl #[.int .i64 a0_1] rfl Gv.lm ?_; (with_reducible refine (impl_isLong.calls a0_1 false _ A16.out).mono ?_); rintro e w' ⟨rfl, ⟨nd, rfl⟩⟩; refine ⟨_, rfl, ?_⟩))
    go_ret
    exact ⟨Gv.rt, Gv.bw⟩
  ·rw [if_neg c15] at H
   have c15b0 : (a0_0 == 6) = false := beq_eq_false_iff_ne.mpr c15
   have c15b1 : (a0_0 != 6) = true := bne_iff_ne.mpr c15
   obtain rfl := Option.some.inj H
   go_enter Tryd.func35, Tryd.ntmps35
   go_wp2_with (first | ((with_reducible refine gate_dst (N := 1) rfl ?_); refine box_event ?hg (N := 1) ?hd (cs := #[.int .i64 a0_0, .int .i64 a0_1, .int .i64 a0_2, .int .i64 a0_3, .int .i64 a0_4]) (t := 29) ?hr ?_; (case hd => rfl); (case hg => rfl); (case hr => first | (go_simp; done) | (go_simp; rfl)); intro gb283 hg w31 hbox hb; have n0_ := Gv.a0 (below_step Gv.bw hb); have n1_ := Gv.a0 (hbox); have n2_ := Gv.a0 ((Gv.ble hg Gv.bw : w.heap.size ≤ gb283)); have n3_ := Gv.a0 ((Gv.ble hg Gv.bw : w.heap.size ≤ gb283)); clear HB; have HB := n0_; have BK283 := n1_; have GW283 := n2_; have GE283 := n3_; clear n0_ n1_ n2_ n3_; clear hb hbox hg; obtain ⟨hcz32_0, hcz32_1, hcz32_2, hcz32_3, hcz32_4⟩ := Gv.c5 BK283.out; obtain ⟨hfz32_0, hfz32_1, hfz32_2, hfz32_3, hfz32_4⟩ := Gv.f5 BK283.out))
   go_ret
   exact ⟨Gv.rt, Gv.bw⟩

end Go.Proofs.YtbihbbkdciebhaaDoor.PRt
