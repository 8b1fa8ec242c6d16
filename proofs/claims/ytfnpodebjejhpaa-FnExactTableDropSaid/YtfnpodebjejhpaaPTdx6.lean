/- Plain Lean functions of a law's Go functions, their contracts, by a program of this session (wip/pr.py over the kit's print). -/
import Derived.Test.YtfnpodebjejhpaaPTdx0
import Derived.Test.YtfnpodebjejhpaaPTdx3
import Derived.Test.YtfnpodebjejhpaaPTdx5
namespace Go.Proofs.Ytfnpodebjejhpaa.PTd
open Go.RowKit Go.Proofs.YtfnpodebjejhpaaW.PrintWords Go.Proofs.YtfnpodebjejhpaaW.PrintLast Go.Proofs.YtfnpodebjejhpaaW.PrintMore
attribute [local go_sem] max2_int min2_int max_two min_two max_three min_three max_four min_four   -- for this text's walks alone
set_option linter.unusedVariables false
set_option linter.unusedSimpArgs false

/-! ### spec_TableDrop: function 40 -/
mutual
def spec_TableDrop.j0 : Nat → Bool → Int → List (S75) → Int → Int → Int → Int → Int → Int → Int → Int → Int → Int → Int → Int → Int → Int → Option (Int × (List (S75)) × Int)
 | 0, _, _, _, _, _, _, _, _, _, _, _, _, _, _, _, _, _ => none
 | k + 1, x18, x329000, x329001, x330000, x330001, x330002, x330003, x330004, x330005, x330006, x330007, x330008, x330009, x330010, x330011, x330012, x330013 => if x18 = true then (some (0, ([] : List (S75)), 1)) else ((spec_l11Place.f k x329000 x329001 x330000 x330001 x330002 x330003 x330004 x330005 x330006 x330007 x330008 x330009 x330010 x330011 x330012 x330013).bind fun t333 => (if t333 < 0 then (some (0, ([] : List (S75)), 3)) else ((spec_l11Copy.f x329000 x329001).bind fun bt334 => (if 0 ≤ t333 then (if t333 < (bt334.2.length : Int) then (if (x329001.length : Int) = 0 then (none) else (spec_TableDrop.l0 k (([] : List (S75))) (Int.tmod (wrap64 (t333 + 1)) (x329001.length : Int)) x329000 x329001 bt334.1 (bt334.2.set (t333 : Int).toNat (⟨false, (⟨0, (⟨(⟨0, 0, 0, 0, 0⟩ : S29), (⟨0, 0, 0, 0, 0⟩ : S29), 0, 0, 0⟩ : S31)⟩ : S33), 0⟩ : S75)))) else (none)) else (none)))))
def spec_TableDrop.l0 : Nat → List (S75) → Int → Int → List (S75) → Int → List (S75) → Option (Int × (List (S75)) × Int)
 | 0, _, _, _, _, _, _ => none
 | k + 1, x8, x9, x329000, x329001, x339000, x339001 => if 0 ≤ x9 then (if x9 < (x329001.length : Int) then (if (rd_T75 x329001 x9).f0 = true then (if x8.length < 1099511627776 then (if x9 < (x339001.length : Int) then (if (x329001.length : Int) = 0 then (none) else (spec_TableDrop.l0 k (x8 ++ [(⟨(rd_T75 x329001 x9).f0, (⟨(rd_T75 x329001 x9).f1.f0, (⟨(⟨(rd_T75 x329001 x9).f1.f1.f0.f0, (rd_T75 x329001 x9).f1.f1.f0.f1, (rd_T75 x329001 x9).f1.f1.f0.f2, (rd_T75 x329001 x9).f1.f1.f0.f3, (rd_T75 x329001 x9).f1.f1.f0.f4⟩ : S29), (⟨(rd_T75 x329001 x9).f1.f1.f1.f0, (rd_T75 x329001 x9).f1.f1.f1.f1, (rd_T75 x329001 x9).f1.f1.f1.f2, (rd_T75 x329001 x9).f1.f1.f1.f3, (rd_T75 x329001 x9).f1.f1.f1.f4⟩ : S29), (rd_T75 x329001 x9).f1.f1.f2, (rd_T75 x329001 x9).f1.f1.f3, (rd_T75 x329001 x9).f1.f1.f4⟩ : S31)⟩ : S33), (rd_T75 x329001 x9).f2⟩ : S75)]) (Int.tmod (wrap64 (x9 + 1)) (x329001.length : Int)) x329000 x329001 x339000 (x339001.set (x9 : Int).toNat (⟨false, (⟨0, (⟨(⟨0, 0, 0, 0, 0⟩ : S29), (⟨0, 0, 0, 0, 0⟩ : S29), 0, 0, 0⟩ : S31)⟩ : S33), 0⟩ : S75)))) else (none)) else (none)) else (spec_TableDrop.l1 k x8 0 x339000 x339001)) else (none)) else (none)
def spec_TableDrop.l1 : Nat → List (S75) → Int → Int → List (S75) → Option (Int × (List (S75)) × Int)
 | 0, _, _, _, _ => none
 | k + 1, x8, x10, x339000, x339001 => if x10 < (x8.length : Int) then (if 0 ≤ x10 then ((spec_l11Into.f k x339000 x339001 ((rd_T75 x8 x10).f1.f0) ((rd_T75 x8 x10).f1.f1.f0.f0) ((rd_T75 x8 x10).f1.f1.f0.f1) ((rd_T75 x8 x10).f1.f1.f0.f2) ((rd_T75 x8 x10).f1.f1.f0.f3) ((rd_T75 x8 x10).f1.f1.f0.f4) ((rd_T75 x8 x10).f1.f1.f1.f0) ((rd_T75 x8 x10).f1.f1.f1.f1) ((rd_T75 x8 x10).f1.f1.f1.f2) ((rd_T75 x8 x10).f1.f1.f1.f3) ((rd_T75 x8 x10).f1.f1.f1.f4) ((rd_T75 x8 x10).f1.f1.f2) ((rd_T75 x8 x10).f1.f1.f3) ((rd_T75 x8 x10).f1.f1.f4) ((rd_T75 x8 x10).f2)).bind fun t351 => (spec_TableDrop.l1 k x8 (wrap64 (x10 + 1)) x339000 t351)) else (none)) else (some (x339000, x339001, 0))
end
def spec_TableDrop.f (k : Nat) (a0_0 : Int) (l0_1 : List (S75)) (a1_0 : Int) (a1_1 : Int) (a1_2 : Int) (a1_3 : Int) (a1_4 : Int) (a1_5 : Int) (a1_6 : Int) (a1_7 : Int) (a1_8 : Int) (a1_9 : Int) (a1_10 : Int) (a1_11 : Int) (a1_12 : Int) (a1_13 : Int) : Option (Int × (List (S75)) × Int) := (spec_TableOk.f k a0_0 l0_1).bind fun t331 => (if t331 = true then ((spec_FlowKeyOk.f a1_0 a1_1 a1_2 a1_3 a1_4 a1_5 a1_6 a1_7 a1_8 a1_9 a1_10 a1_11 a1_12 a1_13).bind fun t332 => (spec_TableDrop.j0 k (!t332) a0_0 l0_1 a1_0 a1_1 a1_2 a1_3 a1_4 a1_5 a1_6 a1_7 a1_8 a1_9 a1_10 a1_11 a1_12 a1_13)) else (spec_TableDrop.j0 k true a0_0 l0_1 a1_0 a1_1 a1_2 a1_3 a1_4 a1_5 a1_6 a1_7 a1_8 a1_9 a1_10 a1_11 a1_12 a1_13))
def spec_TableDrop.T17 : Bool × List (List Nat × List Nat) := (true, [([], []), ([], []), ([], []), ([1, 2], [1, 2]), ([3], [3]), ([4], [4]), ([], []), ([], []), ([6, 7], [6, 7]), ([8], [8]), ([9], [9]), ([0, 5, 10], [0, 5, 10])])
def spec_TableDrop.B17 : List Nat := [0, 0, 0, 6, 14, 30, 0, 0, 192, 448, 960, 2047]
theorem spec_TableDrop.tab17 : rtab .any (opsOf Try.f40 17) = spec_TableDrop.T17 := by kernel_rfl
theorem spec_TableDrop.bits17 : waitsOk spec_TableDrop.T17.2 spec_TableDrop.B17 = true := by kernel_rfl
set_option maxHeartbeats 8000000 in
set_option maxRecDepth 100000 in
theorem spec_TableDrop.calls (k : Nat) (a0_0 : Int) (A0_1 : Option Addr) (c0_1 : Nat) (l0_1 : List (S75)) (a1_0 : Int) (a1_1 : Int) (a1_2 : Int) (a1_3 : Int) (a1_4 : Int) (a1_5 : Int) (a1_6 : Int) (a1_7 : Int) (a1_8 : Int) (a1_9 : Int) (a1_10 : Int) (a1_11 : Int) (a1_12 : Int) (a1_13 : Int) (r1 : Int) (r2 : List (S75)) (r3 : Int) (w : World) (hr0_1 : Kd.C k75 w A0_1 l0_1.length l0_1) (hc0_1 : l0_1.length ≤ c0_1) (h : spec_TableDrop.f k a0_0 l0_1 a1_0 a1_1 a1_2 a1_3 a1_4 a1_5 a1_6 a1_7 a1_8 a1_9 a1_10 a1_11 a1_12 a1_13 = some (r1, r2, r3)) :
  Calls Try.prog 40 #[.agg #[.int .i64 a0_0, .slice A0_1 l0_1.length c0_1], .agg #[.int .i64 a1_0, .int .i64 a1_1, .int .i64 a1_2, .int .i64 a1_3, .int .i64 a1_4, .int .i64 a1_5, .int .i64 a1_6, .int .i64 a1_7, .int .i64 a1_8, .int .i64 a1_9, .int .i64 a1_10, .int .i64 a1_11, .int .i64 a1_12, .int .i64 a1_13]] w fun e w' => ∃ v1_ : Value, e = .returned (.tuple #[.agg #[.int .i64 r1, v1_], .int .i64 r3]) ∧ Kd.R k75 75 w' w.heap.size (fun _ => True) v1_ r2 ∧ Below w.heap.size w w' := by
 have hu40 := Try.underlying40; have hu33 := Try.underlying33; have hu75 := Try.underlying75; have HR0_1 := Gv.a0 hr0_1; have HC0_1 := Gv.a0 hc0_1; clear hr0_1 hc0_1; have HB := Gv.a0 (Below.refl w.heap.size w); unfold spec_TableDrop.f at h; have H := h; clear h; have HC3 := Gv.a0 H; clear H
 go_enter Try.func40, Try.ntmps40
 go_upto_region 1 with (first | ((with_reducible refine gate_dst (N := 2) rfl ?_); refine Gv.bev 2 40 #[.int .i64 a0_0, .slice A0_1 l0_1.length c0_1] ?_; intro gb0 hg w4 hbox hb; have BK0 := Gv.a0 (hbox); have GW0 := Gv.a0 ((Gv.ble hg Gv.bw : w.heap.size ≤ gb0)); have GE0 := GW0; replace HB := Gv.hb hb; clear hb hbox hg) | ((with_reducible refine gate_dst (N := 3) rfl ?_); refine Gv.bev 3 33 #[.int .i64 a1_0, .int .i64 a1_1, .int .i64 a1_2, .int .i64 a1_3, .int .i64 a1_4, .int .i64 a1_5, .int .i64 a1_6, .int .i64 a1_7, .int .i64 a1_8, .int .i64 a1_9, .int .i64 a1_10, .int .i64 a1_11, .int .i64 a1_12, .int .i64 a1_13] ?_; intro gb2 hg w5 hbox hb; have BK2 := Gv.a0 (hbox); have GW2 := Gv.a0 ((Gv.ble hg Gv.bw : w.heap.size ≤ gb2)); have GE2 := GW2; replace HB := Gv.hb hb; have NB0_2 := Gv.a0 ((Gv.nlt hg (Gv.kb BK0.out) : gb0 ≠ gb2)); have NB2_0 := Gv.a0 ((Gv.ngt hg (Gv.kb BK0.out) : gb2 ≠ gb0)); replace BK0 := Gv.b1 BK0 hb; clear hb hbox hg) | ((with_reducible refine gate_store (t := 33) (p := 3) rfl ?_); refine Gv.store_event rfl rfl rfl rfl rfl (Gv.kb BK2.out) (by kernel_rfl) rfl (by simp; and_intros <;> rfl) ?_; intro w5s hbox hoth hbel; replace BK2 := Gv.a0 (hbox); replace HB := Gv.a0 (hbel w Gv.bw GE2.out); replace BK0 := Gv.a0 ((hoth gb0 NB0_2.out).trans (Gv.kb BK0.out)); clear hbox hoth hbel) | ((with_reducible refine gate_dst (N := 4) rfl ?_); refine Gv.bev 4 40 #[.int .i64 0, .slice none 0 0] ?_; intro gb3 hg w6 hbox hb; have BK3 := Gv.a0 (hbox); have GW3 := Gv.a0 ((Gv.ble hg Gv.bw : w.heap.size ≤ gb3)); have GE3 := GW3; replace HB := Gv.hb hb; have NB0_3 := Gv.a0 ((Gv.nlt hg (Gv.kb BK0.out) : gb0 ≠ gb3)); have NB3_0 := Gv.a0 ((Gv.ngt hg (Gv.kb BK0.out) : gb3 ≠ gb0)); replace BK0 := Gv.b1 BK0 hb; have NB2_3 := Gv.a0 ((Gv.nlt hg (Gv.kb BK2.out) : gb2 ≠ gb3)); have NB3_2 := Gv.a0 ((Gv.ngt hg (Gv.kb BK2.out) : gb3 ≠ gb2)); replace BK2 := Gv.b1 BK2 hb; clear hb hbox hg) | ((with_reducible refine Gv.gate_load (t := 33) rfl ?_); (try (refine gate_guard (by rfl) ?_; dsimp only)); refine wpList_load_row rfl 33 _ rfl gb2 rfl 33 _ _ _ (Gv.k01 BK2.out) Try.underlying33 rfl (by kernel_rfl) ?_) | ((with_reducible refine Gv.gate_load (t := 31) rfl ?_); (try (refine gate_guard (by rfl) ?_; dsimp only)); refine Gv.sub_event (g := gb2) 13 rfl rfl rfl (Gv.k01 BK2.out) Try.underlying31 rfl (by kernel_rfl) ?_))
 (try simp only [Act.put, List.setIfInBounds_toArray, List.set_cons_zero, List.set_cons_succ])
 go_cut [18] (fun v18 wc => ∃ (kq : Nat) (x18_2 : Bool), v18 = .bool x18_2 ∧ Aside0 (spec_TableDrop.j0 kq x18_2 a0_0 l0_1 a1_0 a1_1 a1_2 a1_3 a1_4 a1_5 a1_6 a1_7 a1_8 a1_9 a1_10 a1_11 a1_12 a1_13 = some (r1, r2, r3)) ∧ Aside0 (kq ≤ k) ∧ Aside0 (wc.heap[gb0]? = some (.cells #[.int .i64 a0_0, (.slice A0_1 l0_1.length c0_1)] 40 (0, 0))) ∧ Aside0 (wc.heap[gb2]? = some (.cells #[.int .i64 a1_0, .int .i64 a1_1, .int .i64 a1_2, .int .i64 a1_3, .int .i64 a1_4, .int .i64 a1_5, .int .i64 a1_6, .int .i64 a1_7, .int .i64 a1_8, .int .i64 a1_9, .int .i64 a1_10, .int .i64 a1_11, .int .i64 a1_12, .int .i64 a1_13] 33 (0, 0))) ∧ Aside0 (wc.heap[gb3]? = some (.cells #[.int .i64 0, (.slice none 0 0)] 40 (0, 0))) ∧ Aside0 (Below w.heap.size w wc))
 case first =>
  have H := HC3.out; clear HC3; replace H := Option.bind_eq_some_iff.mp H; obtain ⟨t23, A70, H⟩ := H
  (try dsimp only at H); have A7 := Gv.a0 A70; clear A70
  by_cases c8 : t23 = true
  ·subst c8; rw [if_pos rfl] at H
   (try dsimp only at H); replace H := Option.bind_eq_some_iff.mp H; obtain ⟨t19, A90, H⟩ := H
   (try dsimp only at H); have A9 := Gv.a0 A90; clear A90; have H' := Gv.a0 H; clear H; have hnb10 := NB0_2.out; have hnc10 := NB2_0.out; have hnb11 := NB0_3.out; have hnc11 := NB3_0.out; have z12_0 : w6.cell? ⟨gb0, 0, none⟩ = some (.int .i64 a0_0) := (blk_cell BK0.out 0).trans rfl; have z12_1 : w6.cell? ⟨gb0, 1, none⟩ = some (.slice A0_1 l0_1.length c0_1) := (blk_cell BK0.out 1).trans rfl; have o12_0 := blk_frozen BK0.out 0; have o12_1 := blk_frozen BK0.out 1
   go_wp2_with (first | ((with_reducible refine gate_callee (f := 24) rfl ?_); refine goesL_ (some 12) rfl rfl Try.func24 (by kernel_rfl) rfl #[.agg #[.int .i64 a0_0, .slice A0_1 l0_1.length c0_1]] rfl Gv.lm ?_; (with_reducible refine (spec_TableOk.calls k a0_0 _ _ l0_1 true _ ?side1 ?side2 A7.out).mono ?_); (case side1 => exact Gv.sd (Kd.C_below HR0_1.out HB.out)); (case side2 => exact HC0_1.out); rintro e w13 ⟨rfl, hb⟩; refine ⟨_, rfl, ?_⟩; replace BK0 := Gv.b1 BK0 hb; replace BK2 := Gv.b1 BK2 hb; replace BK3 := Gv.b1 BK3 hb; replace HB := Gv.hb hb; clear hb; have hnb14 := NB2_3.out; have hnc14 := NB3_2.out; obtain ⟨z15_0, z15_1, z15_2, z15_3, z15_4, z15_5, z15_6, z15_7, z15_8, z15_9, z15_10, z15_11, z15_12, z15_13⟩ := Gv.c14 BK2.out; obtain ⟨o15_0, o15_1, o15_2, o15_3, o15_4, o15_5, o15_6, o15_7, o15_8, o15_9, o15_10, o15_11, o15_12, o15_13⟩ := Gv.f14 BK2.out) | (go_at_call 13; (with_reducible refine (spec_FlowKeyOk.calls a1_0 a1_1 a1_2 a1_3 a1_4 a1_5 a1_6 a1_7 a1_8 a1_9 a1_10 a1_11 a1_12 a1_13 t19 _ A9.out).mono ?_); rintro e w16 ⟨rfl, hb⟩; replace BK0 := Gv.b1 BK0 hb; replace BK2 := Gv.b1 BK2 hb; replace BK3 := Gv.b1 BK3 hb; replace HB := Gv.hb hb; clear hb) | ((with_reducible refine Gv.gate_load (t := 33) rfl ?_); (try (refine gate_guard (by rfl) ?_; dsimp only)); refine wpList_load_row rfl 33 _ rfl gb2 rfl 33 _ _ _ (Gv.k01 BK2.out) Try.underlying33 rfl (by kernel_rfl) ?_) | ((with_reducible refine Gv.gate_load (t := 31) rfl ?_); (try (refine gate_guard (by rfl) ?_; dsimp only)); refine Gv.sub_event (g := gb2) 13 rfl rfl rfl (Gv.k01 BK2.out) Try.underlying31 rfl (by kernel_rfl) ?_))
   go_meet
   case rel => exact ⟨_, (!t19), Gv.rq, H', ⟨by first | omega | exact Nat.le_refl _⟩, ⟨by (with_reducible repeat (first | refine blk_drewN ?_ _ | refine blk_drew ?_ | refine blk_alloc ?_ _)); exact BK0.out⟩, ⟨by (with_reducible repeat (first | refine blk_drewN ?_ _ | refine blk_drew ?_ | refine blk_alloc ?_ _)); exact BK2.out⟩, ⟨by (with_reducible repeat (first | refine blk_drewN ?_ _ | refine blk_drew ?_ | refine blk_alloc ?_ _)); exact BK3.out⟩, ⟨Gv.bw⟩⟩
  ·replace c8 := Bool.eq_false_iff.mpr c8; subst c8; rw [if_neg (show ¬ (false = true) by decide)] at H
   (try dsimp only at H); have H' := Gv.a0 H; clear H; have hnb17 := NB0_2.out; have hnc17 := NB2_0.out; have hnb18 := NB0_3.out; have hnc18 := NB3_0.out; have z19_0 : w6.cell? ⟨gb0, 0, none⟩ = some (.int .i64 a0_0) := (blk_cell BK0.out 0).trans rfl; have z19_1 : w6.cell? ⟨gb0, 1, none⟩ = some (.slice A0_1 l0_1.length c0_1) := (blk_cell BK0.out 1).trans rfl; have o19_0 := blk_frozen BK0.out 0; have o19_1 := blk_frozen BK0.out 1
   go_wp2_with (first | ((with_reducible refine gate_callee (f := 24) rfl ?_); refine goesL_ (some 12) rfl rfl Try.func24 (by kernel_rfl) rfl #[.agg #[.int .i64 a0_0, .slice A0_1 l0_1.length c0_1]] rfl Gv.lm ?_; (with_reducible refine (spec_TableOk.calls k a0_0 _ _ l0_1 false _ ?side1 ?side2 A7.out).mono ?_); (case side1 => exact Gv.sd (Kd.C_below HR0_1.out HB.out)); (case side2 => exact HC0_1.out); rintro e w20 ⟨rfl, hb⟩; refine ⟨_, rfl, ?_⟩; replace BK0 := Gv.b1 BK0 hb; replace BK2 := Gv.b1 BK2 hb; replace BK3 := Gv.b1 BK3 hb; replace HB := Gv.hb hb; clear hb) | ((with_reducible refine Gv.gate_load (t := 33) rfl ?_); (try (refine gate_guard (by rfl) ?_; dsimp only)); refine wpList_load_row rfl 33 _ rfl gb2 rfl 33 _ _ _ (Gv.k01 BK2.out) Try.underlying33 rfl (by kernel_rfl) ?_) | ((with_reducible refine Gv.gate_load (t := 31) rfl ?_); (try (refine gate_guard (by rfl) ?_; dsimp only)); refine Gv.sub_event (g := gb2) 13 rfl rfl rfl (Gv.k01 BK2.out) Try.underlying31 rfl (by kernel_rfl) ?_))
   go_meet
   case rel => exact ⟨_, (true), Gv.rq, H', ⟨by first | omega | exact Nat.le_refl _⟩, ⟨by (with_reducible repeat (first | refine blk_drewN ?_ _ | refine blk_drew ?_ | refine blk_alloc ?_ _)); exact BK0.out⟩, ⟨by (with_reducible repeat (first | refine blk_drewN ?_ _ | refine blk_drew ?_ | refine blk_alloc ?_ _)); exact BK2.out⟩, ⟨by (with_reducible repeat (first | refine blk_drewN ?_ _ | refine blk_drew ?_ | refine blk_alloc ?_ _)); exact BK3.out⟩, ⟨Gv.bw⟩⟩
 case rest =>
  clear HC3
  try clear c1
  try clear c2
  try clear p2
  try clear c4
  try clear c8
  try clear c10
  try clear c11
  try clear c14
  try clear c17
  try clear c18
  try clear z12_0 z12_1
  try clear z15_0 z15_1
  try clear z15_10 z15_11 z15_12 z15_13
  try clear z15_2 z15_3 z15_4 z15_5 z15_6 z15_7 z15_8 z15_9
  try clear z19_0 z19_1
  try clear o12_0 o12_1
  try clear o15_0 o15_1
  try clear o15_10 o15_11 o15_12 o15_13
  try clear o15_2 o15_3 o15_4 o15_5 o15_6 o15_7 o15_8 o15_9
  try clear o19_0 o19_1
  obtain ⟨kq, x18_2, rfl, HA, HJ2, BK0, BK2, BK3, HB⟩ := hcut; cases kq with
  | zero => exact absurd HA.out (by simp [spec_TableDrop.j0])
  | succ kj2 =>
   have H := HA.out; clear HA; simp only [spec_TableDrop.j0] at H
   by_cases c21 : x18_2 = true
   ·subst c21; rw [if_pos rfl] at H
    (try dsimp only at H); simp only [Option.some.injEq, Prod.mk.injEq] at H; obtain ⟨rfl, rfl, rfl⟩ := H; have hnb22 := NB3_0.out; have hnc22 := NB0_3.out; have hnb23 := NB3_2.out; have hnc23 := NB2_3.out; have z24_0 : wc.cell? ⟨gb3, 0, none⟩ = some (.int .i64 0) := (blk_cell BK3.out 0).trans rfl; have z24_1 : wc.cell? ⟨gb3, 1, none⟩ = some (.slice none 0 0) := (blk_cell BK3.out 1).trans rfl; have o24_0 := blk_frozen BK3.out 0; have o24_1 := blk_frozen BK3.out 1
    go_wp2_with (first | ((with_reducible refine Gv.gate_load (t := 33) rfl ?_); (try (refine gate_guard (by rfl) ?_; dsimp only)); refine wpList_load_row rfl 33 _ rfl gb2 rfl 33 _ _ _ (Gv.k01 BK2.out) Try.underlying33 rfl (by kernel_rfl) ?_) | ((with_reducible refine Gv.gate_load (t := 31) rfl ?_); (try (refine gate_guard (by rfl) ?_; dsimp only)); refine Gv.sub_event (g := gb2) 13 rfl rfl rfl (Gv.k01 BK2.out) Try.underlying31 rfl (by kernel_rfl) ?_))
    refine bodyPost_ret (results_ct rfl _ _ gb3 40 #[.int .i64 0, .slice none 0 0] (0, 0) _ rfl (by (with_reducible repeat (first | refine blk_drewN ?_ _ | refine blk_drew ?_ | refine blk_alloc ?_ _)); refine blk_put (cs := #[.int .i64 0, .slice none 0 0]) ?_ 1 _ rfl; (with_reducible repeat (first | refine blk_drewN ?_ _ | refine blk_drew ?_ | refine blk_alloc ?_ _)); refine blk_put (cs := #[.int .i64 0, .slice none 0 0]) ?_ 0 _ rfl; (with_reducible repeat (first | refine blk_drewN ?_ _ | refine blk_drew ?_ | refine blk_alloc ?_ _)); exact BK3.out) Try.underlying40 rfl (by kernel_rfl)) rfl ?_; exact ⟨_, Gv.rt, by first | exact Kd.R_nil _ _ _ _ _ | exact Kd.N_nil _ _ _ _ _ | exact Kd.V_nil _ _ _ _ _ | exact Kd.Q_nil _ _ _ _ _ | exact Kd.S_nil _ _ _ _ _, Gv.bw⟩
   ·replace c21 := Bool.eq_false_iff.mpr c21; subst c21; rw [if_neg (show ¬ (false = true) by decide)] at H
    (try dsimp only at H); replace H := Option.bind_eq_some_iff.mp H; obtain ⟨t8, A20, H⟩ := H
    (try dsimp only at H); have A25 := Gv.a0 A20; clear A20
    by_cases c26 : t8 < 0
    ·rw [if_pos c26] at H; have c26b0 := decide_eq_true c26; clear c26; simp only [Option.some.injEq, Prod.mk.injEq] at H; obtain ⟨rfl, rfl, rfl⟩ := H; have hnb27 := NB0_2.out; have hnc27 := NB2_0.out; have hnb28 := NB0_3.out; have hnc28 := NB3_0.out; have z29_0 : wc.cell? ⟨gb0, 0, none⟩ = some (.int .i64 a0_0) := (blk_cell BK0.out 0).trans rfl; have z29_1 : wc.cell? ⟨gb0, 1, none⟩ = some (.slice A0_1 l0_1.length c0_1) := (blk_cell BK0.out 1).trans rfl; have o29_0 := blk_frozen BK0.out 0; have o29_1 := blk_frozen BK0.out 1; have hnb30 := NB2_3.out; have hnc30 := NB3_2.out; obtain ⟨z31_0, z31_1, z31_2, z31_3, z31_4, z31_5, z31_6, z31_7, z31_8, z31_9, z31_10, z31_11, z31_12, z31_13⟩ := Gv.c14 BK2.out; obtain ⟨o31_0, o31_1, o31_2, o31_3, o31_4, o31_5, o31_6, o31_7, o31_8, o31_9, o31_10, o31_11, o31_12, o31_13⟩ := Gv.f14 BK2.out
     go_wp2_with (first | ((with_reducible refine gate_callee (f := 54) rfl ?_); refine goesL_ (some 22) rfl rfl Try.func54 (by kernel_rfl) rfl #[.agg #[.int .i64 a0_0, .slice A0_1 l0_1.length c0_1], .agg #[.int .i64 a1_0, .int .i64 a1_1, .int .i64 a1_2, .int .i64 a1_3, .int .i64 a1_4, .int .i64 a1_5, .int .i64 a1_6, .int .i64 a1_7, .int .i64 a1_8, .int .i64 a1_9, .int .i64 a1_10, .int .i64 a1_11, .int .i64 a1_12, .int .i64 a1_13]] rfl Gv.lm ?_; (with_reducible refine (spec_l11Place.calls kj2 a0_0 _ _ l0_1 a1_0 a1_1 a1_2 a1_3 a1_4 a1_5 a1_6 a1_7 a1_8 a1_9 a1_10 a1_11 a1_12 a1_13 t8 _ ?side1 ?side2 A25.out).mono ?_); (case side1 => exact Gv.sd (Kd.C_below HR0_1.out HB.out)); (case side2 => exact HC0_1.out); rintro e w32 ⟨rfl, hb⟩; refine ⟨_, rfl, ?_⟩; replace BK0 := Gv.b1 BK0 hb; replace BK2 := Gv.b1 BK2 hb; replace BK3 := Gv.b1 BK3 hb; replace HB := Gv.hb hb; clear hb; have z33_0 : w32.cell? ⟨gb3, 0, none⟩ = some (.int .i64 0) := (blk_cell BK3.out 0).trans rfl; have z33_1 : w32.cell? ⟨gb3, 1, none⟩ = some (.slice none 0 0) := (blk_cell BK3.out 1).trans rfl; have o33_0 := blk_frozen BK3.out 0; have o33_1 := blk_frozen BK3.out 1) | ((with_reducible refine Gv.gate_load (t := 33) rfl ?_); (try (refine gate_guard (by rfl) ?_; dsimp only)); refine wpList_load_row rfl 33 _ rfl gb2 rfl 33 _ _ _ (Gv.k01 BK2.out) Try.underlying33 rfl (by kernel_rfl) ?_) | ((with_reducible refine Gv.gate_load (t := 31) rfl ?_); (try (refine gate_guard (by rfl) ?_; dsimp only)); refine Gv.sub_event (g := gb2) 13 rfl rfl rfl (Gv.k01 BK2.out) Try.underlying31 rfl (by kernel_rfl) ?_))
     refine bodyPost_ret (results_ct rfl _ _ gb3 40 #[.int .i64 0, .slice none 0 0] (0, 0) _ rfl (by (with_reducible repeat (first | refine blk_drewN ?_ _ | refine blk_drew ?_ | refine blk_alloc ?_ _)); refine blk_put (cs := #[.int .i64 0, .slice none 0 0]) ?_ 1 _ rfl; (with_reducible repeat (first | refine blk_drewN ?_ _ | refine blk_drew ?_ | refine blk_alloc ?_ _)); refine blk_put (cs := #[.int .i64 0, .slice none 0 0]) ?_ 0 _ rfl; (with_reducible repeat (first | refine blk_drewN ?_ _ | refine blk_drew ?_ | refine blk_alloc ?_ _)); exact BK3.out) Try.underlying40 rfl (by kernel_rfl)) rfl ?_; exact ⟨_, Gv.rt, by first | exact Kd.R_nil _ _ _ _ _ | exact Kd.N_nil _ _ _ _ _ | exact Kd.V_nil _ _ _ _ _ | exact Kd.Q_nil _ _ _ _ _ | exact Kd.S_nil _ _ _ _ _, Gv.bw⟩
    ·rw [if_neg c26] at H; have c26b0 := decide_eq_false c26; clear c26; replace H := Option.bind_eq_some_iff.mp H; obtain ⟨⟨t9, t11⟩, A13, H⟩ := H
     (try dsimp only at H); have A34 := Gv.a0 A13; clear A13
     by_cases c35 : 0 ≤ t8
     rotate_left
     ·rw [if_neg c35] at H; cases H

     rw [if_pos c35] at H; have c35b0 := decide_eq_true c35; clear c35
     by_cases c36 : t8 < (t11.length : Int)
     rotate_left
     ·rw [if_neg c36] at H; cases H
     rw [if_pos c36] at H; have c36b0 := decide_eq_true c36; clear c36; obtain ⟨y14, hy14⟩ : ∃ y_ : List (S75), y_ = (t11.set (t8 : Int).toNat (⟨false, (⟨0, (⟨(⟨0, 0, 0, 0, 0⟩ : S29), (⟨0, 0, 0, 0, 0⟩ : S29), 0, 0, 0⟩ : S31)⟩ : S33), 0⟩ : S75)) := ⟨_, rfl⟩
     replace H : (if (l0_1.length : Int) = 0 then (none) else (spec_TableDrop.l0 kj2 (([] : List (S75))) (Int.tmod (wrap64 (t8 + 1)) (l0_1.length : Int)) a0_0 l0_1 t9 y14)) = some (r1, r2, r3) := by first | (rw [hy14]; with_reducible exact H) | (have H2_ := (Option.bind_some _ _).symm.trans H; rw [hy14]; with_reducible exact H2_) | (have H2_ := (Option.bind_some _ _).symm.trans H; with_reducible exact H2_) | with_reducible exact H | (rw [hy14]; exact H) | exact H
     have Ny14 := Gv.a0 hy14; clear hy14; obtain ⟨y13, hy13⟩ : ∃ y_ : List (S75), y_ = (([] : List (S75))) := ⟨_, rfl⟩
     replace H : (if (l0_1.length : Int) = 0 then (none) else (spec_TableDrop.l0 kj2 y13 (Int.tmod (wrap64 (t8 + 1)) (l0_1.length : Int)) a0_0 l0_1 t9 y14)) = some (r1, r2, r3) := by first | (rw [hy13]; with_reducible exact H) | (have H2_ := (Option.bind_some _ _).symm.trans H; rw [hy13]; with_reducible exact H2_) | (have H2_ := (Option.bind_some _ _).symm.trans H; with_reducible exact H2_) | with_reducible exact H | (rw [hy13]; exact H) | exact H
     have Ny13 := Gv.a0 hy13; clear hy13
     by_cases c38 : (l0_1.length : Int) = 0
     ·rw [if_pos c38] at H; cases H
     ·rw [if_neg c38] at H; have c38b0 : ((l0_1.length : Int) == 0) = false := beq_eq_false_iff_ne.mpr c38; have c38b1 : ((l0_1.length : Int) != 0) = true := bne_iff_ne.mpr c38; have c38b2 : ¬ (l0_1 = []) := fun h_ => c38 (by rw [h_]; rfl)
      have H' := Gv.a0 H; clear H; have hnb39 := NB0_2.out; have hnc39 := NB2_0.out; have hnb40 := NB0_3.out; have hnc40 := NB3_0.out; have z41_0 : wc.cell? ⟨gb0, 0, none⟩ = some (.int .i64 a0_0) := (blk_cell BK0.out 0).trans rfl; have z41_1 : wc.cell? ⟨gb0, 1, none⟩ = some (.slice A0_1 l0_1.length c0_1) := (blk_cell BK0.out 1).trans rfl; have o41_0 := blk_frozen BK0.out 0; have o41_1 := blk_frozen BK0.out 1; have hnb42 := NB2_3.out; have hnc42 := NB3_2.out; obtain ⟨z43_0, z43_1, z43_2, z43_3, z43_4, z43_5, z43_6, z43_7, z43_8, z43_9, z43_10, z43_11, z43_12, z43_13⟩ := Gv.c14 BK2.out; obtain ⟨o43_0, o43_1, o43_2, o43_3, o43_4, o43_5, o43_6, o43_7, o43_8, o43_9, o43_10, o43_11, o43_12, o43_13⟩ := Gv.f14 BK2.out
      go_wp2_with (first | ((with_reducible refine gate_callee (f := 54) rfl ?_); refine goesL_ (some 22) rfl rfl Try.func54 (by kernel_rfl) rfl #[.agg #[.int .i64 a0_0, .slice A0_1 l0_1.length c0_1], .agg #[.int .i64 a1_0, .int .i64 a1_1, .int .i64 a1_2, .int .i64 a1_3, .int .i64 a1_4, .int .i64 a1_5, .int .i64 a1_6, .int .i64 a1_7, .int .i64 a1_8, .int .i64 a1_9, .int .i64 a1_10, .int .i64 a1_11, .int .i64 a1_12, .int .i64 a1_13]] rfl Gv.lm ?_; (with_reducible refine (spec_l11Place.calls kj2 a0_0 _ _ l0_1 a1_0 a1_1 a1_2 a1_3 a1_4 a1_5 a1_6 a1_7 a1_8 a1_9 a1_10 a1_11 a1_12 a1_13 t8 _ ?side1 ?side2 A25.out).mono ?_); (case side1 => exact Gv.sd (Kd.C_below HR0_1.out HB.out)); (case side2 => exact HC0_1.out); rintro e w44 ⟨rfl, hb⟩; refine ⟨_, rfl, ?_⟩; replace BK0 := Gv.b1 BK0 hb; replace BK2 := Gv.b1 BK2 hb; replace BK3 := Gv.b1 BK3 hb; replace HB := Gv.hb hb; clear hb; have z45_0 : w44.cell? ⟨gb0, 0, none⟩ = some (.int .i64 a0_0) := (blk_cell BK0.out 0).trans rfl; have z45_1 : w44.cell? ⟨gb0, 1, none⟩ = some (.slice A0_1 l0_1.length c0_1) := (blk_cell BK0.out 1).trans rfl; have o45_0 := blk_frozen BK0.out 0; have o45_1 := blk_frozen BK0.out 1) | ((with_reducible refine gate_callee (f := 62) rfl ?_); refine goesL_ (some 27) rfl rfl Try.func62 (by kernel_rfl) rfl #[.agg #[.int .i64 a0_0, .slice A0_1 l0_1.length c0_1]] rfl Gv.lm ?_; (with_reducible refine (spec_l11Copy.calls a0_0 _ _ l0_1 t9 t11 _ ?side1 ?side2 A34.out).mono ?_); (case side1 => exact Gv.sd (Kd.C_below HR0_1.out HB.out)); (case side2 => exact HC0_1.out); rintro e w46 ⟨v25, rfl, ho0, hb⟩; refine ⟨_, rfl, ?_⟩; have HO10 := Gv.a0 (Kd.R_lower ho0 (below_size Gv.bw)); replace BK0 := Gv.b1 BK0 hb; replace BK2 := Gv.b1 BK2 hb; replace BK3 := Gv.b1 BK3 hb; replace HB := Gv.hb hb; clear hb ho0) | ((with_reducible refine gate_dst (N := 7) rfl ?_); refine Gv.bev 7 40 #[.int .i64 0, .slice none 0 0] ?_; intro gb5 hg w47 hbox hb; replace HO10 := Gv.a0 (Kd.R_below (Gv.kr HO10.out) hb); have BK5 := Gv.a0 (hbox); have GW5 := Gv.a0 ((Gv.ble hg Gv.bw : w.heap.size ≤ gb5)); have GE5 := GW5; replace HB := Gv.hb hb; have NB0_5 := Gv.a0 ((Gv.nlt hg (Gv.kb BK0.out) : gb0 ≠ gb5)); have NB5_0 := Gv.a0 ((Gv.ngt hg (Gv.kb BK0.out) : gb5 ≠ gb0)); replace BK0 := Gv.b1 BK0 hb; have NB2_5 := Gv.a0 ((Gv.nlt hg (Gv.kb BK2.out) : gb2 ≠ gb5)); have NB5_2 := Gv.a0 ((Gv.ngt hg (Gv.kb BK2.out) : gb5 ≠ gb2)); replace BK2 := Gv.b1 BK2 hb; have NB3_5 := Gv.a0 ((Gv.nlt hg (Gv.kb BK3.out) : gb3 ≠ gb5)); have NB5_3 := Gv.a0 ((Gv.ngt hg (Gv.kb BK3.out) : gb5 ≠ gb3)); replace BK3 := Gv.b1 BK3 hb; clear hb hbox hg; have hnb48 := NB5_0.out; have hnc48 := NB0_5.out; have hnb49 := NB5_2.out; have hnc49 := NB2_5.out; have hnb50 := NB5_3.out; have hnc50 := NB3_5.out; have z51_0 : w47.cell? ⟨gb5, 0, none⟩ = some (.int .i64 0) := (blk_cell BK5.out 0).trans rfl; have z51_1 : w47.cell? ⟨gb5, 1, none⟩ = some (.slice none 0 0) := (blk_cell BK5.out 1).trans rfl; have o51_0 := blk_frozen BK5.out 0; have o51_1 := blk_frozen BK5.out 1; obtain ⟨Ao52, co52, eo52⟩ := Kd.R_slice HO10.out; subst eo52) | ((with_reducible refine gate_store (t := 40) (p := 7) rfl ?_); refine store_event (t := 40) (p := 7) (v := ?vo_w53) (w1 := ((w47.setCell ⟨gb5, 0, none⟩ (.int .i64 t9)).setCell ⟨gb5, 1, none⟩ (.slice Ao52 t11.length co52))) ?hg ?ho ?hn ?hr ?_; (case ho => rfl); (case hg => rfl); (case hn => rfl); (case hr => first | (go_simp; done) | (go_simp; rfl)); intro w53 hw; have n0_ : Aside0 (Kd.R k75 75 w53 w.heap.size (fun _ => True) (.slice Ao52 t11.length co52) t11) := ⟨(by rw [hw]; exact (by (with_reducible repeat (first | apply Kd.R_alloc | apply Kd.R_drewN | apply Kd.R_drew)); exact Kd.R_mono (Kd.R_far (p := ⟨gb5, 1, none⟩) (Kd.R_far (p := ⟨gb5, 0, none⟩) (Kd.R_types HO10.out BK5.out (by decide)) (fun _ hk => hk.2) (.int .i64 t9)) (fun _ hk => hk.2) (.slice Ao52 t11.length co52)) (fun _ hk => trivial)))⟩; have n1_ : Aside0 (w53.heap[gb0]? = some (.cells #[.int .i64 a0_0, .slice A0_1 l0_1.length c0_1] 40 (0, 0))) := ⟨(by rw [hw]; exact Gv.bkf)⟩; have n2_ : Aside0 (w53.heap[gb2]? = some (.cells #[.int .i64 a1_0, .int .i64 a1_1, .int .i64 a1_2, .int .i64 a1_3, .int .i64 a1_4, .int .i64 a1_5, .int .i64 a1_6, .int .i64 a1_7, .int .i64 a1_8, .int .i64 a1_9, .int .i64 a1_10, .int .i64 a1_11, .int .i64 a1_12, .int .i64 a1_13] 33 (0, 0))) := ⟨(by rw [hw]; exact Gv.bkf)⟩; have n3_ : Aside0 (w53.heap[gb3]? = some (.cells #[.int .i64 0, .slice none 0 0] 40 (0, 0))) := ⟨(by rw [hw]; exact Gv.bkf)⟩; have n4_ : Aside0 (w53.heap[gb5]? = some (.cells #[.int .i64 t9, .slice Ao52 t11.length co52] 40 (0, 0))) := ⟨(by rw [hw]; exact (by (with_reducible repeat (first | refine blk_drewN ?_ _ | refine blk_drew ?_ | refine blk_alloc ?_ _)); refine blk_put (cs := #[.int .i64 t9, .slice none 0 0]) ?_ 1 _ rfl; (with_reducible repeat (first | refine blk_drewN ?_ _ | refine blk_drew ?_ | refine blk_alloc ?_ _)); refine blk_put (cs := #[.int .i64 0, .slice none 0 0]) ?_ 0 _ rfl; (with_reducible repeat (first | refine blk_drewN ?_ _ | refine blk_drew ?_ | refine blk_alloc ?_ _)); exact BK5.out))⟩; have n5_ : Aside0 (Below w.heap.size w w53) := ⟨(by rw [hw]; exact Gv.bw)⟩; clear hw HO10 BK0 BK2 BK3 BK5 HB; have HO10 := n0_; have BK0 := n1_; have BK2 := n2_; have BK3 := n3_; have BK5 := n4_; have HB := n5_; clear n0_ n1_ n2_ n3_ n4_ n5_; have z54_0 : w53.cell? ⟨gb5, 0, none⟩ = some (.int .i64 t9) := (blk_cell BK5.out 0).trans rfl; have z54_1 : w53.cell? ⟨gb5, 1, none⟩ = some (.slice Ao52 t11.length co52) := (blk_cell BK5.out 1).trans rfl; have o54_0 := blk_frozen BK5.out 0; have o54_1 := blk_frozen BK5.out 1; have p37 : 0 ≤ (t8 : Int) := Gv.od; have q37 : (t8 : Int) < ((t11.length : Int) : Int) := Gv.od; obtain ⟨go37, co37, eo37, gb37, gl37, cl37, HG37⟩ := Kd.R_form HO10.out (by omega); (first | cases eo37 | (injection eo37 with ea_ en_ ec_; (first | subst ea_ | (injection ea_ with ea_; subst ea_)); subst ec_; clear en_)); have GB37 := Gv.a0 gb37; have GG37 := Gv.a0 HG37; clear gb37 gl37 HG37; obtain ⟨ce37, hcl37, hM37, hcc37, hfr37⟩ := Kd.R_elem HO10.out z75 (t8 : Int) p37 q37; obtain rfl := k75_openM hM37; have u37_0 := hcc37 0 _ rfl; have u37_1 := hcc37 1 _ rfl; have u37_2 := hcc37 2 _ rfl; have u37_3 := hcc37 3 _ rfl; have u37_4 := hcc37 4 _ rfl; have u37_5 := hcc37 5 _ rfl; have u37_6 := hcc37 6 _ rfl; have u37_7 := hcc37 7 _ rfl; have u37_8 := hcc37 8 _ rfl; have u37_9 := hcc37 9 _ rfl; have u37_10 := hcc37 10 _ rfl; have u37_11 := hcc37 11 _ rfl; have u37_12 := hcc37 12 _ rfl; have u37_13 := hcc37 13 _ rfl; have u37_14 := hcc37 14 _ rfl; have u37_15 := hcc37 15 _ rfl; have n37_0 := hfr37 0; have n37_1 := hfr37 1; have n37_2 := hfr37 2; have n37_3 := hfr37 3; have n37_4 := hfr37 4; have n37_5 := hfr37 5; have n37_6 := hfr37 6; have n37_7 := hfr37 7; have n37_8 := hfr37 8; have n37_9 := hfr37 9; have n37_10 := hfr37 10; have n37_11 := hfr37 11; have n37_12 := hfr37 12; have n37_13 := hfr37 13; have n37_14 := hfr37 14; have n37_15 := hfr37 15; (try simp only [show (k75).sz = 16 from rfl, Nat.mul_one, Nat.add_zero] at u37_0 u37_1 u37_2 u37_3 u37_4 u37_5 u37_6 u37_7 u37_8 u37_9 u37_10 u37_11 u37_12 u37_13 u37_14 u37_15 n37_0 n37_1 n37_2 n37_3 n37_4 n37_5 n37_6 n37_7 n37_8 n37_9 n37_10 n37_11 n37_12 n37_13 n37_14 n37_15); clear hcl37 hcc37 hfr37 hM37; replace p37 := eq_true p37; replace q37 := eq_true q37; have HX55 := Gv.a0 (show Kd.R k75 75 w53 w.heap.size (fun _ => True) (.slice (some ⟨go37, 0, none⟩) t11.length co52) t11 from (Gv.kr HO10.out)); obtain ⟨ce55, hcl55, hM55, hcc55, hfr55⟩ := Kd.R_elem HX55.out z75 (t8 : Int) (Gv.od) (by have h_ : (t8 : Int) < ((t11.length : Int) : Int) := Gv.od; first | exact h_ | (have e_ := (Kd.R_reads' HO10.out).1; omega) | simpa using h_); obtain rfl := k75_openM hM55; have HP55 := Kd.R_seg HX55.out (t8 : Int) (Gv.od) (by have h_ : (t8 : Int) < ((t11.length : Int) : Int) := Gv.od; first | exact h_ | (have e_ := (Kd.R_reads' HO10.out).1; omega) | simpa using h_) (seg := [.bool false, .int .i64 0, .int .i64 0, .int .i64 0, .int .i64 0, .int .i64 0, .int .i64 0, .int .i64 0, .int .i64 0, .int .i64 0, .int .i64 0, .int .i64 0, .int .i64 0, .int .i64 0, .int .i64 0, .int .i64 0]) (j := 0) hcl55 hcc55 (show 16 ≤ 16 from by decide) (x' := (⟨false, (⟨0, (⟨(⟨0, 0, 0, 0, 0⟩ : S29), (⟨0, 0, 0, 0, 0⟩ : S29), 0, 0, 0⟩ : S31)⟩ : S33), 0⟩ : S75)) (k75_mkM _ _ _ (⟨false, (⟨0, (⟨(⟨0, 0, 0, 0, 0⟩ : S29), (⟨0, 0, 0, 0, 0⟩ : S29), 0, 0, 0⟩ : S31)⟩ : S33), 0⟩ : S75) ) (fun _ hk => hk); have u55_0 := hcc55 0 _ rfl; have n55_0 := hfr55 0; have u55_1 := hcc55 1 _ rfl; have n55_1 := hfr55 1; have u55_2 := hcc55 2 _ rfl; have n55_2 := hfr55 2; have u55_3 := hcc55 3 _ rfl; have n55_3 := hfr55 3; have u55_4 := hcc55 4 _ rfl; have n55_4 := hfr55 4; have u55_5 := hcc55 5 _ rfl; have n55_5 := hfr55 5; have u55_6 := hcc55 6 _ rfl; have n55_6 := hfr55 6; have u55_7 := hcc55 7 _ rfl; have n55_7 := hfr55 7; have u55_8 := hcc55 8 _ rfl; have n55_8 := hfr55 8; have u55_9 := hcc55 9 _ rfl; have n55_9 := hfr55 9; have u55_10 := hcc55 10 _ rfl; have n55_10 := hfr55 10; have u55_11 := hcc55 11 _ rfl; have n55_11 := hfr55 11; have u55_12 := hcc55 12 _ rfl; have n55_12 := hfr55 12; have u55_13 := hcc55 13 _ rfl; have n55_13 := hfr55 13; have u55_14 := hcc55 14 _ rfl; have n55_14 := hfr55 14; have u55_15 := hcc55 15 _ rfl; have n55_15 := hfr55 15; (try simp only [show (k75).sz = 16 from rfl, Nat.mul_one, Nat.add_zero] at u55_0 n55_0 u55_1 n55_1 u55_2 n55_2 u55_3 n55_3 u55_4 n55_4 u55_5 n55_5 u55_6 n55_6 u55_7 n55_7 u55_8 n55_8 u55_9 n55_9 u55_10 n55_10 u55_11 n55_11 u55_12 n55_12 u55_13 n55_13 u55_14 n55_14 u55_15 n55_15); clear hcl55 hcc55 hfr55 hM55) | ((with_reducible refine gate_store (t := 75) (p := 32) rfl ?_); refine store_event (t := 75) (p := 32) (v := ?vo_w56) (w1 := ((((((((((((((((w53.setCell ⟨go37, (t8 : Int).toNat * 16, none⟩ (.bool false)).setCell ⟨go37, (t8 : Int).toNat * 16 + 1, none⟩ (.int .i64 0)).setCell ⟨go37, (t8 : Int).toNat * 16 + 2, none⟩ (.int .i64 0)).setCell ⟨go37, (t8 : Int).toNat * 16 + 3, none⟩ (.int .i64 0)).setCell ⟨go37, (t8 : Int).toNat * 16 + 4, none⟩ (.int .i64 0)).setCell ⟨go37, (t8 : Int).toNat * 16 + 5, none⟩ (.int .i64 0)).setCell ⟨go37, (t8 : Int).toNat * 16 + 6, none⟩ (.int .i64 0)).setCell ⟨go37, (t8 : Int).toNat * 16 + 7, none⟩ (.int .i64 0)).setCell ⟨go37, (t8 : Int).toNat * 16 + 8, none⟩ (.int .i64 0)).setCell ⟨go37, (t8 : Int).toNat * 16 + 9, none⟩ (.int .i64 0)).setCell ⟨go37, (t8 : Int).toNat * 16 + 10, none⟩ (.int .i64 0)).setCell ⟨go37, (t8 : Int).toNat * 16 + 11, none⟩ (.int .i64 0)).setCell ⟨go37, (t8 : Int).toNat * 16 + 12, none⟩ (.int .i64 0)).setCell ⟨go37, (t8 : Int).toNat * 16 + 13, none⟩ (.int .i64 0)).setCell ⟨go37, (t8 : Int).toNat * 16 + 14, none⟩ (.int .i64 0)).setCell ⟨go37, (t8 : Int).toNat * 16 + 15, none⟩ (.int .i64 0))) ?hg ?ho ?hn ?hr ?_; (case ho => rfl); (case hg => rfl); (case hn => rfl); (case hr => first | (go_simp; done) | (go_simp; rfl)); intro w56 hw; have hg : w53.grownBy w56 (some go37) := (by rw [hw]; exact HP55.2); have hp_ : Kd.R k75 75 w56 w.heap.size (fun _ => True) (.slice (some ⟨go37, 0, none⟩) t11.length co52) y14 := (by rw [hw, Ny14.out]; exact HP55.1); clear HP55; replace BK0 := Gv.a0 (blk_grown (g := gb0) (o := .cells #[.int .i64 a0_0, .slice A0_1 l0_1.length c0_1] 40 (0, 0)) Gv.bk hg (Kd.R_ne HO10.out BK0.out (by decide))); replace BK2 := Gv.a0 (blk_grown (g := gb2) (o := .cells #[.int .i64 a1_0, .int .i64 a1_1, .int .i64 a1_2, .int .i64 a1_3, .int .i64 a1_4, .int .i64 a1_5, .int .i64 a1_6, .int .i64 a1_7, .int .i64 a1_8, .int .i64 a1_9, .int .i64 a1_10, .int .i64 a1_11, .int .i64 a1_12, .int .i64 a1_13] 33 (0, 0)) Gv.bk hg (Kd.R_ne HO10.out BK2.out (by decide))); replace BK3 := Gv.a0 (blk_grown (g := gb3) (o := .cells #[.int .i64 0, .slice none 0 0] 40 (0, 0)) Gv.bk hg (Kd.R_ne HO10.out BK3.out (by decide))); replace BK5 := Gv.a0 (blk_grown (g := gb5) (o := .cells #[.int .i64 t9, .slice (some ⟨go37, 0, none⟩) t11.length co52] 40 (0, 0)) Gv.bk hg (Kd.R_ne HO10.out BK5.out (by decide))); replace HO10 := Gv.a0 (hp_); replace HB := Gv.a0 ((by rw [hw]; exact below_set (below_set (below_set (below_set (below_set (below_set (below_set (below_set (below_set (below_set (below_set (below_set (below_set (below_set (below_set (below_set (HB.out) GB37.out) GB37.out) GB37.out) GB37.out) GB37.out) GB37.out) GB37.out) GB37.out) GB37.out) GB37.out) GB37.out) GB37.out) GB37.out) GB37.out) GB37.out) GB37.out : Below w.heap.size w w56)); clear hg hw hp_) | ((with_reducible refine gate_dst (N := 33) rfl ?_); refine Kd.R_lit k75 _ 75 ?hg (N := 33) ?hd (xs := ([] : List (S75))) (inner := []) (ok := fun _ => True) (okp := fun _ => True) ?hr ?hp (fun _ hk => hk) trivial (Below.refl _ _) (Nat.le_refl _) (by simp) ?_; (case hd => rfl); (case hg => rfl); (case hr => first | (go_simp; done) | (go_simp; rfl)); (case hp => exact (Reps.none _ _)); intro v26 w57 ho58 hb hg_ hnew_; clear hg_ hnew_; (first | rw [← Ny13.out] at ho58 | (simp only [Int.reduceToNat] at ho58; rw [← Ny13.out] at ho58)); have HO24 := Gv.a0 (Kd.R_lower (Kd.R_new' ho58 (Kd.R_lt (Gv.kr HO10.out))) (below_size Gv.bw)); replace HO10 := Gv.a0 (Kd.R_elder' (Gv.kr HO10.out) (Kd.R_base ho58) hb); replace BK0 := Gv.b1 BK0 hb; replace BK2 := Gv.b1 BK2 hb; replace BK3 := Gv.b1 BK3 hb; replace BK5 := Gv.b1 BK5 hb; replace HB := Gv.hb hb; clear hb ho58; have z59_0 : w57.cell? ⟨gb0, 0, none⟩ = some (.int .i64 a0_0) := (blk_cell BK0.out 0).trans rfl; have z59_1 : w57.cell? ⟨gb0, 1, none⟩ = some (.slice A0_1 l0_1.length c0_1) := (blk_cell BK0.out 1).trans rfl; have o59_0 := blk_frozen BK0.out 0; have o59_1 := blk_frozen BK0.out 1) | ((with_reducible refine Gv.gate_load (t := 33) rfl ?_); (try (refine gate_guard (by rfl) ?_; dsimp only)); refine wpList_load_row rfl 33 _ rfl gb2 rfl 33 _ _ _ (Gv.k01 BK2.out) Try.underlying33 rfl (by kernel_rfl) ?_) | ((with_reducible refine Gv.gate_load (t := 31) rfl ?_); (try (refine gate_guard (by rfl) ?_; dsimp only)); refine Gv.sub_event (g := gb2) 13 rfl rfl rfl (Gv.k01 BK2.out) Try.underlying31 rfl (by kernel_rfl) ?_))
      go_loopg [8, 9] kj2 (fun kq v8 v9 w' => ∃ (x8_2 : List (S75)) (x9_2 : Int) (x6_2 : List (S75)) (u6 : Value), v9 = .int .i64 x9_2 ∧ Aside0 (spec_TableDrop.l0 kq x8_2 x9_2 a0_0 l0_1 t9 x6_2 = some (r1, r2, r3)) ∧ Aside0 (kq ≤ kj2) ∧ Aside0 (Kd.R k75 75 w' w.heap.size (fun k_ => some k_ ≠ (u6 : Value).ownBlock) v8 x8_2) ∧ Aside0 (Kd.R k75 75 w' w.heap.size (fun k_ => some k_ ≠ (v8 : Value).ownBlock) u6 x6_2) ∧ Aside0 (w'.heap[gb0]? = some (.cells #[.int .i64 a0_0, (.slice A0_1 l0_1.length c0_1)] 40 (0, 0))) ∧ Aside0 (w'.heap[gb2]? = some (.cells #[.int .i64 a1_0, .int .i64 a1_1, .int .i64 a1_2, .int .i64 a1_3, .int .i64 a1_4, .int .i64 a1_5, .int .i64 a1_6, .int .i64 a1_7, .int .i64 a1_8, .int .i64 a1_9, .int .i64 a1_10, .int .i64 a1_11, .int .i64 a1_12, .int .i64 a1_13] 33 (0, 0))) ∧ Aside0 (w'.heap[gb3]? = some (.cells #[.int .i64 0, (.slice none 0 0)] 40 (0, 0))) ∧ Aside0 (w'.heap[gb5]? = some (.cells #[.int .i64 t9, u6] 40 (0, 0))) ∧ Aside0 (Below w.heap.size w w'))
      case atStart => exact ⟨(y13), (Int.tmod (wrap64 (t8 + 1)) (l0_1.length : Int)), (y14), (.slice (some ⟨go37, 0, none⟩) t11.length co52), Gv.rq, H', ⟨Nat.le_refl _⟩, ⟨by (with_reducible repeat (first | apply Kd.R_alloc | apply Kd.R_drewN | apply Kd.R_drew)); exact Kd.R_mono HO24.out (fun _ hk => hk.2)⟩, ⟨by (with_reducible repeat (first | apply Kd.R_alloc | apply Kd.R_drewN | apply Kd.R_drew)); exact Kd.R_mono HO10.out (fun _ hk => hk.2)⟩, ⟨by (with_reducible repeat (first | refine blk_drewN ?_ _ | refine blk_drew ?_ | refine blk_alloc ?_ _)); exact BK0.out⟩, ⟨by (with_reducible repeat (first | refine blk_drewN ?_ _ | refine blk_drew ?_ | refine blk_alloc ?_ _)); exact BK2.out⟩, ⟨by (with_reducible repeat (first | refine blk_drewN ?_ _ | refine blk_drew ?_ | refine blk_alloc ?_ _)); exact BK3.out⟩, ⟨by (with_reducible repeat (first | refine blk_drewN ?_ _ | refine blk_drew ?_ | refine blk_alloc ?_ _)); exact BK5.out⟩, ⟨Gv.bw⟩⟩
      case round =>
       clear H'
       try clear c1
       try clear c2
       try clear p2
       try clear c3
       try clear p3
       try clear q3
       try clear hx3
       try clear hf3
       try clear c4
       try clear c5
       try clear hx5
       try clear hf5
       try clear c6
       try clear p6
       try clear c8
       try clear c10
       try clear c11
       try clear c14
       try clear c17
       try clear c18
       try clear c21
       try clear c22
       try clear c23
       try clear c24
       try clear c26
       try clear c26b0
       try clear c27
       try clear c28
       try clear c30
       try clear c35
       try clear c35b0
       try clear c36
       try clear c36b0
       try clear c37
       try clear p37
       try clear q37
       try clear hx37
       try clear hf37
       try clear c38
       try clear c38b0
       try clear c38b1
       try clear c38b2
       try clear c39
       try clear c40
       try clear c42
       try clear c48
       try clear c49
       try clear c50
       try clear c54
       try clear c55
       try clear hx55
       try clear hf55
       try clear z12_0 z12_1
       try clear z15_0 z15_1
       try clear z15_10 z15_11 z15_12 z15_13
       try clear z15_2 z15_3 z15_4 z15_5 z15_6 z15_7 z15_8 z15_9
       try clear z19_0 z19_1
       try clear z24_0 z24_1
       try clear z29_0 z29_1
       try clear z31_0 z31_1
       try clear z31_10 z31_11 z31_12 z31_13
       try clear z31_2 z31_3 z31_4 z31_5 z31_6 z31_7 z31_8 z31_9
       try clear z33_0 z33_1
       try clear z41_0 z41_1
       try clear z43_0 z43_1
       try clear z43_10 z43_11 z43_12 z43_13
       try clear z43_2 z43_3 z43_4 z43_5 z43_6 z43_7 z43_8 z43_9
       try clear z45_0 z45_1
       try clear z51_0 z51_1
       try clear z54_0 z54_1
       try clear z59_0 z59_1
       try clear o12_0 o12_1
       try clear o15_0 o15_1
       try clear o15_10 o15_11 o15_12 o15_13
       try clear o15_2 o15_3 o15_4 o15_5 o15_6 o15_7 o15_8 o15_9
       try clear o19_0 o19_1
       try clear o24_0 o24_1
       try clear o29_0 o29_1
       try clear o31_0 o31_1
       try clear o31_10 o31_11 o31_12 o31_13
       try clear o31_2 o31_3 o31_4 o31_5 o31_6 o31_7 o31_8 o31_9
       try clear o33_0 o33_1
       try clear o41_0 o41_1
       try clear o43_0 o43_1
       try clear o43_10 o43_11 o43_12 o43_13
       try clear o43_2 o43_3 o43_4 o43_5 o43_6 o43_7 o43_8 o43_9
       try clear o45_0 o45_1
       try clear o51_0 o51_1
       try clear o54_0 o54_1
       try clear o59_0 o59_1
       try clear u37_0
       try clear u37_1
       try clear u37_10
       try clear u37_11
       try clear u37_12
       try clear u37_13
       try clear u37_14
       try clear u37_15
       try clear u37_2
       try clear u37_3
       try clear u37_4
       try clear u37_5
       try clear u37_6
       try clear u37_7
       try clear u37_8
       try clear u37_9
       try clear u55_0
       try clear u55_1
       try clear u55_10
       try clear u55_11
       try clear u55_12
       try clear u55_13
       try clear u55_14
       try clear u55_15
       try clear u55_2
       try clear u55_3
       try clear u55_4
       try clear u55_5
       try clear u55_6
       try clear u55_7
       try clear u55_8
       try clear u55_9
       try clear p2
       try clear p37
       try clear q37
       obtain ⟨x8_2, x9_2, x6_2, u6, rfl, HA, HK2, HO_8, HO_6, BK0, BK2, BK3, BK5, HB⟩ := hrel; cases gk with
       | zero => exact absurd HA.out (by simp [spec_TableDrop.l0])
       | succ k2 =>
        have H := HA.out; clear HA; simp only [spec_TableDrop.l0] at H
        by_cases c60 : 0 ≤ x9_2
        rotate_left
        ·rw [if_neg c60] at H; cases H
        rw [if_pos c60] at H; have c60b0 := decide_eq_true c60; clear c60
        by_cases c61 : x9_2 < (l0_1.length : Int)
        rotate_left
        ·rw [if_neg c61] at H; cases H
        rw [if_pos c61] at H; have c61b0 := decide_eq_true c61; clear c61; obtain ⟨bq62, hbq62⟩ : ∃ b_ : Bool, b_ = ((rd_T75 l0_1 x9_2).f0) := ⟨_, rfl⟩
        replace H : (if bq62 = true then (if x8_2.length < 1099511627776 then (if x9_2 < (x6_2.length : Int) then (if (l0_1.length : Int) = 0 then (none) else (spec_TableDrop.l0 k2 (x8_2 ++ [(⟨bq62, (⟨(rd_T75 l0_1 x9_2).f1.f0, (⟨(⟨(rd_T75 l0_1 x9_2).f1.f1.f0.f0, (rd_T75 l0_1 x9_2).f1.f1.f0.f1, (rd_T75 l0_1 x9_2).f1.f1.f0.f2, (rd_T75 l0_1 x9_2).f1.f1.f0.f3, (rd_T75 l0_1 x9_2).f1.f1.f0.f4⟩ : S29), (⟨(rd_T75 l0_1 x9_2).f1.f1.f1.f0, (rd_T75 l0_1 x9_2).f1.f1.f1.f1, (rd_T75 l0_1 x9_2).f1.f1.f1.f2, (rd_T75 l0_1 x9_2).f1.f1.f1.f3, (rd_T75 l0_1 x9_2).f1.f1.f1.f4⟩ : S29), (rd_T75 l0_1 x9_2).f1.f1.f2, (rd_T75 l0_1 x9_2).f1.f1.f3, (rd_T75 l0_1 x9_2).f1.f1.f4⟩ : S31)⟩ : S33), (rd_T75 l0_1 x9_2).f2⟩ : S75)]) (Int.tmod (wrap64 (x9_2 + 1)) (l0_1.length : Int)) a0_0 l0_1 t9 (x6_2.set (x9_2 : Int).toNat (⟨false, (⟨0, (⟨(⟨0, 0, 0, 0, 0⟩ : S29), (⟨0, 0, 0, 0, 0⟩ : S29), 0, 0, 0⟩ : S31)⟩ : S33), 0⟩ : S75)))) else (none)) else (none)) else (spec_TableDrop.l1 k2 x8_2 0 t9 x6_2)) = some (r1, r2, r3) := by rw [← hbq62] at H; exact H
        have Nbq62 := Gv.a0 hbq62; clear hbq62
        by_cases c63 : bq62 = true
        ·subst c63; rw [if_pos rfl] at H
         (try dsimp only at H)
         by_cases c64 : x8_2.length < 1099511627776
         rotate_left
         ·rw [if_neg c64] at H; cases H
         rw [if_pos c64] at H; have LMc64 := Gv.a0 c64; clear c64; obtain ⟨y15, hy15⟩ : ∃ y_ : List (S75), y_ = (x8_2 ++ [(⟨true, (⟨(rd_T75 l0_1 x9_2).f1.f0, (⟨(⟨(rd_T75 l0_1 x9_2).f1.f1.f0.f0, (rd_T75 l0_1 x9_2).f1.f1.f0.f1, (rd_T75 l0_1 x9_2).f1.f1.f0.f2, (rd_T75 l0_1 x9_2).f1.f1.f0.f3, (rd_T75 l0_1 x9_2).f1.f1.f0.f4⟩ : S29), (⟨(rd_T75 l0_1 x9_2).f1.f1.f1.f0, (rd_T75 l0_1 x9_2).f1.f1.f1.f1, (rd_T75 l0_1 x9_2).f1.f1.f1.f2, (rd_T75 l0_1 x9_2).f1.f1.f1.f3, (rd_T75 l0_1 x9_2).f1.f1.f1.f4⟩ : S29), (rd_T75 l0_1 x9_2).f1.f1.f2, (rd_T75 l0_1 x9_2).f1.f1.f3, (rd_T75 l0_1 x9_2).f1.f1.f4⟩ : S31)⟩ : S33), (rd_T75 l0_1 x9_2).f2⟩ : S75)]) := ⟨_, rfl⟩
         replace H : (if x9_2 < (x6_2.length : Int) then (if (l0_1.length : Int) = 0 then (none) else (spec_TableDrop.l0 k2 y15 (Int.tmod (wrap64 (x9_2 + 1)) (l0_1.length : Int)) a0_0 l0_1 t9 (x6_2.set (x9_2 : Int).toNat (⟨false, (⟨0, (⟨(⟨0, 0, 0, 0, 0⟩ : S29), (⟨0, 0, 0, 0, 0⟩ : S29), 0, 0, 0⟩ : S31)⟩ : S33), 0⟩ : S75)))) else (none)) = some (r1, r2, r3) := by first | (rw [hy15]; with_reducible exact H) | (have H2_ := (Option.bind_some _ _).symm.trans H; rw [hy15]; with_reducible exact H2_) | (have H2_ := (Option.bind_some _ _).symm.trans H; with_reducible exact H2_) | with_reducible exact H | (rw [hy15]; exact H) | exact H
         have Ny15 := Gv.a0 hy15; clear hy15
         by_cases c65 : x9_2 < (x6_2.length : Int)
         rotate_left
         ·rw [if_neg c65] at H; cases H
         rw [if_pos c65] at H; have c65b0 := decide_eq_true c65; clear c65; obtain ⟨y16, hy16⟩ : ∃ y_ : List (S75), y_ = (x6_2.set (x9_2 : Int).toNat (⟨false, (⟨0, (⟨(⟨0, 0, 0, 0, 0⟩ : S29), (⟨0, 0, 0, 0, 0⟩ : S29), 0, 0, 0⟩ : S31)⟩ : S33), 0⟩ : S75)) := ⟨_, rfl⟩
         replace H : (if (l0_1.length : Int) = 0 then (none) else (spec_TableDrop.l0 k2 y15 (Int.tmod (wrap64 (x9_2 + 1)) (l0_1.length : Int)) a0_0 l0_1 t9 y16)) = some (r1, r2, r3) := by first | (rw [hy16]; with_reducible exact H) | (have H2_ := (Option.bind_some _ _).symm.trans H; rw [hy16]; with_reducible exact H2_) | (have H2_ := (Option.bind_some _ _).symm.trans H; with_reducible exact H2_) | with_reducible exact H | (rw [hy16]; exact H) | exact H
         have Ny16 := Gv.a0 hy16; clear hy16
         by_cases c67 : (l0_1.length : Int) = 0
         ·rw [if_pos c67] at H; cases H
         ·rw [if_neg c67] at H; have c67b0 : ((l0_1.length : Int) == 0) = false := beq_eq_false_iff_ne.mpr c67; have c67b1 : ((l0_1.length : Int) != 0) = true := bne_iff_ne.mpr c67; have c67b2 : ¬ (l0_1 = []) := fun h_ => c67 (by rw [h_]; rfl)
          have H' := Gv.a0 H; clear H; have hnb68 := NB0_2.out; have hnc68 := NB2_0.out; have hnb69 := NB0_3.out; have hnc69 := NB3_0.out; have hnb70 := NB0_5.out; have hnc70 := NB5_0.out; have z71_0 : wr.cell? ⟨gb0, 0, none⟩ = some (.int .i64 a0_0) := (blk_cell BK0.out 0).trans rfl; have z71_1 : wr.cell? ⟨gb0, 1, none⟩ = some (.slice A0_1 l0_1.length c0_1) := (blk_cell BK0.out 1).trans rfl; have o71_0 := blk_frozen BK0.out 0; have o71_1 := blk_frozen BK0.out 1; have p1 : 0 ≤ (x9_2 : Int) := Gv.od; have q1 : x9_2 < (l0_1.length : Int) := Gv.od; obtain ⟨ad1, e1, u1_0, u1_1, u1_2, u1_3, u1_4, u1_5, u1_6, u1_7, u1_8, u1_9, u1_10, u1_11, u1_12, u1_13, u1_14, u1_15⟩ := at_T75 HR0_1.out x9_2 p1 q1
          (try rw [← Nbq62.out] at u1_0); cases e1; replace u1_0 := Gv.bx HB.out u1_0; replace u1_1 := Gv.bx HB.out u1_1; replace u1_2 := Gv.bx HB.out u1_2; replace u1_3 := Gv.bx HB.out u1_3; replace u1_4 := Gv.bx HB.out u1_4; replace u1_5 := Gv.bx HB.out u1_5; replace u1_6 := Gv.bx HB.out u1_6; replace u1_7 := Gv.bx HB.out u1_7; replace u1_8 := Gv.bx HB.out u1_8; replace u1_9 := Gv.bx HB.out u1_9; replace u1_10 := Gv.bx HB.out u1_10; replace u1_11 := Gv.bx HB.out u1_11; replace u1_12 := Gv.bx HB.out u1_12; replace u1_13 := Gv.bx HB.out u1_13; replace u1_14 := Gv.bx HB.out u1_14; replace u1_15 := Gv.bx HB.out u1_15; replace p1 := eq_true p1; replace q1 := eq_true q1; have p4 : 0 ≤ (x9_2 : Int) := Gv.od; have q4 : x9_2 < (l0_1.length : Int) := Gv.od; obtain ⟨ad4, e4, u4_0, u4_1, u4_2, u4_3, u4_4, u4_5, u4_6, u4_7, u4_8, u4_9, u4_10, u4_11, u4_12, u4_13, u4_14, u4_15⟩ := at_T75 HR0_1.out x9_2 p4 q4
          (try rw [← Nbq62.out] at u4_0); obtain rfl : ad1 = ad4 := (by injection e4); replace u4_0 := Gv.bx HB.out u4_0; replace u4_1 := Gv.bx HB.out u4_1; replace u4_2 := Gv.bx HB.out u4_2; replace u4_3 := Gv.bx HB.out u4_3; replace u4_4 := Gv.bx HB.out u4_4; replace u4_5 := Gv.bx HB.out u4_5; replace u4_6 := Gv.bx HB.out u4_6; replace u4_7 := Gv.bx HB.out u4_7; replace u4_8 := Gv.bx HB.out u4_8; replace u4_9 := Gv.bx HB.out u4_9; replace u4_10 := Gv.bx HB.out u4_10; replace u4_11 := Gv.bx HB.out u4_11; replace u4_12 := Gv.bx HB.out u4_12; replace u4_13 := Gv.bx HB.out u4_13; replace u4_14 := Gv.bx HB.out u4_14; replace u4_15 := Gv.bx HB.out u4_15; replace p4 := eq_true p4; replace q4 := eq_true q4
          go_wp2_with (first | ((with_reducible refine gate_builtin (b := .append) (xs := #[.tmp 52, .tmp 58]) rfl ?_); at_builtin; refine Kd.R_append k75 (w0 := w) w.heap.size rfl (.tmp 52) (.tmp 58) 38 75 (.agg #[(.bool false), (.int .i64 0), (.int .i64 0), (.int .i64 0), (.int .i64 0), (.int .i64 0), (.int .i64 0), (.int .i64 0), (.int .i64 0), (.int .i64 0), (.int .i64 0), (.int .i64 0), (.int .i64 0), (.int .i64 0), (.int .i64 0), (.int .i64 0)]) 128 rfl Try.underlying38 info75 rfl (by decide) (by omega) u8 x8_2 (⟨true, (⟨(rd_T75 l0_1 x9_2).f1.f0, (⟨(⟨(rd_T75 l0_1 x9_2).f1.f1.f0.f0, (rd_T75 l0_1 x9_2).f1.f1.f0.f1, (rd_T75 l0_1 x9_2).f1.f1.f0.f2, (rd_T75 l0_1 x9_2).f1.f1.f0.f3, (rd_T75 l0_1 x9_2).f1.f1.f0.f4⟩ : S29), (⟨(rd_T75 l0_1 x9_2).f1.f1.f1.f0, (rd_T75 l0_1 x9_2).f1.f1.f1.f1, (rd_T75 l0_1 x9_2).f1.f1.f1.f2, (rd_T75 l0_1 x9_2).f1.f1.f1.f3, (rd_T75 l0_1 x9_2).f1.f1.f1.f4⟩ : S29), (rd_T75 l0_1 x9_2).f1.f1.f2, (rd_T75 l0_1 x9_2).f1.f1.f3, (rd_T75 l0_1 x9_2).f1.f1.f4⟩ : S31)⟩ : S33), (rd_T75 l0_1 x9_2).f2⟩ : S75) [.bool true, .int .i64 ((rd_T75 l0_1 x9_2).f1.f0), .int .i64 ((rd_T75 l0_1 x9_2).f1.f1.f0.f0), .int .i64 ((rd_T75 l0_1 x9_2).f1.f1.f0.f1), .int .i64 ((rd_T75 l0_1 x9_2).f1.f1.f0.f2), .int .i64 ((rd_T75 l0_1 x9_2).f1.f1.f0.f3), .int .i64 ((rd_T75 l0_1 x9_2).f1.f1.f0.f4), .int .i64 ((rd_T75 l0_1 x9_2).f1.f1.f1.f0), .int .i64 ((rd_T75 l0_1 x9_2).f1.f1.f1.f1), .int .i64 ((rd_T75 l0_1 x9_2).f1.f1.f1.f2), .int .i64 ((rd_T75 l0_1 x9_2).f1.f1.f1.f3), .int .i64 ((rd_T75 l0_1 x9_2).f1.f1.f1.f4), .int .i64 ((rd_T75 l0_1 x9_2).f1.f1.f2), .int .i64 ((rd_T75 l0_1 x9_2).f1.f1.f3), .int .i64 ((rd_T75 l0_1 x9_2).f1.f1.f4), .int .i64 ((rd_T75 l0_1 x9_2).f2)] (fun k_ => some k_ ≠ (u6 : Value).ownBlock) (fun _ => False) rfl rfl ?aP (fun _ hk => hk.elim) ?aF ?aO ?aB ?aS ?aL ?_; (case aP => exact k75_mkM _ _ _ (⟨true, (⟨(rd_T75 l0_1 x9_2).f1.f0, (⟨(⟨(rd_T75 l0_1 x9_2).f1.f1.f0.f0, (rd_T75 l0_1 x9_2).f1.f1.f0.f1, (rd_T75 l0_1 x9_2).f1.f1.f0.f2, (rd_T75 l0_1 x9_2).f1.f1.f0.f3, (rd_T75 l0_1 x9_2).f1.f1.f0.f4⟩ : S29), (⟨(rd_T75 l0_1 x9_2).f1.f1.f1.f0, (rd_T75 l0_1 x9_2).f1.f1.f1.f1, (rd_T75 l0_1 x9_2).f1.f1.f1.f2, (rd_T75 l0_1 x9_2).f1.f1.f1.f3, (rd_T75 l0_1 x9_2).f1.f1.f1.f4⟩ : S29), (rd_T75 l0_1 x9_2).f1.f1.f2, (rd_T75 l0_1 x9_2).f1.f1.f3, (rd_T75 l0_1 x9_2).f1.f1.f4⟩ : S31)⟩ : S33), (rd_T75 l0_1 x9_2).f2⟩ : S75)); (case aB => exact Gv.bw); (case aF => exact (fun k_ hk => Kd.fresh' (Kd.R_lt (Gv.kr HO_6.out)) k_ hk)); (case aO => exact (Gv.kr HO_8.out)); (case aS => exact (below_size Gv.bw)); (case aL => have := LMc64.out; omega); intro v17 w72 ho hb hg hat; rw [← Ny15.out] at ho; replace HO_6 := Gv.a0 (Kd.R_after (ok := (fun _ => True)) (by (with_reducible repeat (first | apply Kd.R_alloc | apply Kd.R_drewN | apply Kd.R_drew)); exact Kd.R_mono HO_6.out (fun _ hk => ⟨trivial, hk⟩)) hg hat); replace BK0 := Gv.a0 (blk_grown (g := gb0) (o := .cells #[.int .i64 a0_0, .slice (some ad1) l0_1.length c0_1] 40 (0, 0)) Gv.bk hg (Kd.R_ne HO_8.out BK0.out (by decide))); replace BK2 := Gv.a0 (blk_grown (g := gb2) (o := .cells #[.int .i64 a1_0, .int .i64 a1_1, .int .i64 a1_2, .int .i64 a1_3, .int .i64 a1_4, .int .i64 a1_5, .int .i64 a1_6, .int .i64 a1_7, .int .i64 a1_8, .int .i64 a1_9, .int .i64 a1_10, .int .i64 a1_11, .int .i64 a1_12, .int .i64 a1_13] 33 (0, 0)) Gv.bk hg (Kd.R_ne HO_8.out BK2.out (by decide))); replace BK3 := Gv.a0 (blk_grown (g := gb3) (o := .cells #[.int .i64 0, .slice none 0 0] 40 (0, 0)) Gv.bk hg (Kd.R_ne HO_8.out BK3.out (by decide))); replace BK5 := Gv.a0 (blk_grown (g := gb5) (o := .cells #[.int .i64 t9, u6] 40 (0, 0)) Gv.bk hg (Kd.R_ne HO_8.out BK5.out (by decide))); replace HB := Gv.a0 (hb); have HO18 := Gv.a0 (ho); clear HO_8 ho hb hg hat; have hnb73 := NB5_2.out; have hnc73 := NB2_5.out; have hnb74 := NB5_3.out; have hnc74 := NB3_5.out; have z75_0 : w72.cell? ⟨gb5, 0, none⟩ = some (.int .i64 t9) := (blk_cell BK5.out 0).trans rfl; have z75_1 : w72.cell? ⟨gb5, 1, none⟩ = some (u6) := (blk_cell BK5.out 1).trans rfl; have o75_0 := blk_frozen BK5.out 0; have o75_1 := blk_frozen BK5.out 1; have p66 : 0 ≤ (x9_2 : Int) := Gv.od; have q66 : (x9_2 : Int) < ((x6_2.length : Int) : Int) := Gv.od; obtain ⟨go66, co66, eo66, gb66, gl66, cl66, HG66⟩ := Kd.R_form HO_6.out (by omega); (first | cases eo66 | (injection eo66 with ea_ en_ ec_; (first | subst ea_ | (injection ea_ with ea_; subst ea_)); subst ec_; clear en_)); have GB66 := Gv.a0 gb66; have GG66 := Gv.a0 HG66; clear gb66 gl66 HG66; obtain ⟨ce66, hcl66, hM66, hcc66, hfr66⟩ := Kd.R_elem HO_6.out z75 (x9_2 : Int) p66 q66; obtain rfl := k75_openM hM66; have u66_0 := hcc66 0 _ rfl; have u66_1 := hcc66 1 _ rfl; have u66_2 := hcc66 2 _ rfl; have u66_3 := hcc66 3 _ rfl; have u66_4 := hcc66 4 _ rfl; have u66_5 := hcc66 5 _ rfl; have u66_6 := hcc66 6 _ rfl; have u66_7 := hcc66 7 _ rfl; have u66_8 := hcc66 8 _ rfl; have u66_9 := hcc66 9 _ rfl; have u66_10 := hcc66 10 _ rfl; have u66_11 := hcc66 11 _ rfl; have u66_12 := hcc66 12 _ rfl; have u66_13 := hcc66 13 _ rfl; have u66_14 := hcc66 14 _ rfl; have u66_15 := hcc66 15 _ rfl; have n66_0 := hfr66 0; have n66_1 := hfr66 1; have n66_2 := hfr66 2; have n66_3 := hfr66 3; have n66_4 := hfr66 4; have n66_5 := hfr66 5; have n66_6 := hfr66 6; have n66_7 := hfr66 7; have n66_8 := hfr66 8; have n66_9 := hfr66 9; have n66_10 := hfr66 10; have n66_11 := hfr66 11; have n66_12 := hfr66 12; have n66_13 := hfr66 13; have n66_14 := hfr66 14; have n66_15 := hfr66 15; (try simp only [show (k75).sz = 16 from rfl, Nat.mul_one, Nat.add_zero] at u66_0 u66_1 u66_2 u66_3 u66_4 u66_5 u66_6 u66_7 u66_8 u66_9 u66_10 u66_11 u66_12 u66_13 u66_14 u66_15 n66_0 n66_1 n66_2 n66_3 n66_4 n66_5 n66_6 n66_7 n66_8 n66_9 n66_10 n66_11 n66_12 n66_13 n66_14 n66_15); clear hcl66 hcc66 hfr66 hM66; replace p66 := eq_true p66; replace q66 := eq_true q66; have n_ := Gv.a0 (Kd.R_mono (ok' := (fun k_ => some k_ ≠ (v17 : Value).ownBlock)) HO_6.out (fun k_ hk => hk.2)); clear HO_6; have HO_6 := n_; clear n_; have HX76 := Gv.a0 (show Kd.R k75 75 w72 w.heap.size (fun k_ => some k_ ≠ (v17 : Value).ownBlock) (.slice (some ⟨go66, 0, none⟩) x6_2.length co66) x6_2 from (Gv.kr HO_6.out)); obtain ⟨ce76, hcl76, hM76, hcc76, hfr76⟩ := Kd.R_elem HX76.out z75 (x9_2 : Int) (Gv.od) (by have h_ : (x9_2 : Int) < ((x6_2.length : Int) : Int) := Gv.od; first | exact h_ | (have e_ := (Kd.R_reads' HO_6.out).1; omega) | simpa using h_); obtain rfl := k75_openM hM76; have HP76 := Kd.R_seg HX76.out (x9_2 : Int) (Gv.od) (by have h_ : (x9_2 : Int) < ((x6_2.length : Int) : Int) := Gv.od; first | exact h_ | (have e_ := (Kd.R_reads' HO_6.out).1; omega) | simpa using h_) (seg := [.bool false, .int .i64 0, .int .i64 0, .int .i64 0, .int .i64 0, .int .i64 0, .int .i64 0, .int .i64 0, .int .i64 0, .int .i64 0, .int .i64 0, .int .i64 0, .int .i64 0, .int .i64 0, .int .i64 0, .int .i64 0]) (j := 0) hcl76 hcc76 (show 16 ≤ 16 from by decide) (x' := (⟨false, (⟨0, (⟨(⟨0, 0, 0, 0, 0⟩ : S29), (⟨0, 0, 0, 0, 0⟩ : S29), 0, 0, 0⟩ : S31)⟩ : S33), 0⟩ : S75)) (k75_mkM _ _ _ (⟨false, (⟨0, (⟨(⟨0, 0, 0, 0, 0⟩ : S29), (⟨0, 0, 0, 0, 0⟩ : S29), 0, 0, 0⟩ : S31)⟩ : S33), 0⟩ : S75) ) (fun _ hk => hk); have u76_0 := hcc76 0 _ rfl; have n76_0 := hfr76 0; have u76_1 := hcc76 1 _ rfl; have n76_1 := hfr76 1; have u76_2 := hcc76 2 _ rfl; have n76_2 := hfr76 2; have u76_3 := hcc76 3 _ rfl; have n76_3 := hfr76 3; have u76_4 := hcc76 4 _ rfl; have n76_4 := hfr76 4; have u76_5 := hcc76 5 _ rfl; have n76_5 := hfr76 5; have u76_6 := hcc76 6 _ rfl; have n76_6 := hfr76 6; have u76_7 := hcc76 7 _ rfl; have n76_7 := hfr76 7; have u76_8 := hcc76 8 _ rfl; have n76_8 := hfr76 8; have u76_9 := hcc76 9 _ rfl; have n76_9 := hfr76 9; have u76_10 := hcc76 10 _ rfl; have n76_10 := hfr76 10; have u76_11 := hcc76 11 _ rfl; have n76_11 := hfr76 11; have u76_12 := hcc76 12 _ rfl; have n76_12 := hfr76 12; have u76_13 := hcc76 13 _ rfl; have n76_13 := hfr76 13; have u76_14 := hcc76 14 _ rfl; have n76_14 := hfr76 14; have u76_15 := hcc76 15 _ rfl; have n76_15 := hfr76 15; (try simp only [show (k75).sz = 16 from rfl, Nat.mul_one, Nat.add_zero] at u76_0 n76_0 u76_1 n76_1 u76_2 n76_2 u76_3 n76_3 u76_4 n76_4 u76_5 n76_5 u76_6 n76_6 u76_7 n76_7 u76_8 n76_8 u76_9 n76_9 u76_10 n76_10 u76_11 n76_11 u76_12 n76_12 u76_13 n76_13 u76_14 n76_14 u76_15 n76_15); clear hcl76 hcc76 hfr76 hM76) | ((with_reducible refine gate_store (t := 75) (p := 64) rfl ?_); refine store_event (t := 75) (p := 64) (v := ?vo_w77) (w1 := ((((((((((((((((w72.setCell ⟨go66, (x9_2 : Int).toNat * 16, none⟩ (.bool false)).setCell ⟨go66, (x9_2 : Int).toNat * 16 + 1, none⟩ (.int .i64 0)).setCell ⟨go66, (x9_2 : Int).toNat * 16 + 2, none⟩ (.int .i64 0)).setCell ⟨go66, (x9_2 : Int).toNat * 16 + 3, none⟩ (.int .i64 0)).setCell ⟨go66, (x9_2 : Int).toNat * 16 + 4, none⟩ (.int .i64 0)).setCell ⟨go66, (x9_2 : Int).toNat * 16 + 5, none⟩ (.int .i64 0)).setCell ⟨go66, (x9_2 : Int).toNat * 16 + 6, none⟩ (.int .i64 0)).setCell ⟨go66, (x9_2 : Int).toNat * 16 + 7, none⟩ (.int .i64 0)).setCell ⟨go66, (x9_2 : Int).toNat * 16 + 8, none⟩ (.int .i64 0)).setCell ⟨go66, (x9_2 : Int).toNat * 16 + 9, none⟩ (.int .i64 0)).setCell ⟨go66, (x9_2 : Int).toNat * 16 + 10, none⟩ (.int .i64 0)).setCell ⟨go66, (x9_2 : Int).toNat * 16 + 11, none⟩ (.int .i64 0)).setCell ⟨go66, (x9_2 : Int).toNat * 16 + 12, none⟩ (.int .i64 0)).setCell ⟨go66, (x9_2 : Int).toNat * 16 + 13, none⟩ (.int .i64 0)).setCell ⟨go66, (x9_2 : Int).toNat * 16 + 14, none⟩ (.int .i64 0)).setCell ⟨go66, (x9_2 : Int).toNat * 16 + 15, none⟩ (.int .i64 0))) ?hg ?ho ?hn ?hr ?_; (case ho => rfl); (case hg => rfl); (case hn => rfl); (case hr => first | (go_simp; done) | (go_simp; rfl)); intro w77 hw; have hg : w72.grownBy w77 (some go66) := (by rw [hw]; exact HP76.2); have hp_ : Kd.R k75 75 w77 w.heap.size (fun k_ => some k_ ≠ (v17 : Value).ownBlock) (.slice (some ⟨go66, 0, none⟩) x6_2.length co66) y16 := (by rw [hw, Ny16.out]; exact HP76.1); clear HP76; replace BK0 := Gv.a0 (blk_grown (g := gb0) (o := .cells #[.int .i64 a0_0, .slice (some ad1) l0_1.length c0_1] 40 (0, 0)) Gv.bk hg (Kd.R_ne HO_6.out BK0.out (by decide))); replace BK2 := Gv.a0 (blk_grown (g := gb2) (o := .cells #[.int .i64 a1_0, .int .i64 a1_1, .int .i64 a1_2, .int .i64 a1_3, .int .i64 a1_4, .int .i64 a1_5, .int .i64 a1_6, .int .i64 a1_7, .int .i64 a1_8, .int .i64 a1_9, .int .i64 a1_10, .int .i64 a1_11, .int .i64 a1_12, .int .i64 a1_13] 33 (0, 0)) Gv.bk hg (Kd.R_ne HO_6.out BK2.out (by decide))); replace BK3 := Gv.a0 (blk_grown (g := gb3) (o := .cells #[.int .i64 0, .slice none 0 0] 40 (0, 0)) Gv.bk hg (Kd.R_ne HO_6.out BK3.out (by decide))); replace BK5 := Gv.a0 (blk_grown (g := gb5) (o := .cells #[.int .i64 t9, .slice (some ⟨go66, 0, none⟩) x6_2.length co66] 40 (0, 0)) Gv.bk hg (Kd.R_ne HO_6.out BK5.out (by decide))); replace HO_6 := Gv.a0 (hp_); replace HO18 := Gv.a0 (Kd.R_after (v := (.slice (some ⟨go66, 0, none⟩) x6_2.length co66)) (v1 := (.slice (some ⟨go66, 0, none⟩) x6_2.length co66)) (ok := (fun _ => True)) (by (with_reducible repeat (first | apply Kd.R_alloc | apply Kd.R_drewN | apply Kd.R_drew)); exact Kd.R_mono HO18.out (fun _ hk => ⟨trivial, hk⟩)) hg (.inl rfl)); replace HB := Gv.a0 ((by rw [hw]; exact below_set (below_set (below_set (below_set (below_set (below_set (below_set (below_set (below_set (below_set (below_set (below_set (below_set (below_set (below_set (below_set (HB.out) GB66.out) GB66.out) GB66.out) GB66.out) GB66.out) GB66.out) GB66.out) GB66.out) GB66.out) GB66.out) GB66.out) GB66.out) GB66.out) GB66.out) GB66.out) GB66.out : Below w.heap.size w w77)); clear hg hw hp_; have z78_0 : w77.cell? ⟨gb0, 0, none⟩ = some (.int .i64 a0_0) := (blk_cell BK0.out 0).trans rfl; have z78_1 : w77.cell? ⟨gb0, 1, none⟩ = some (.slice (some ad1) l0_1.length c0_1) := (blk_cell BK0.out 1).trans rfl; have o78_0 := blk_frozen BK0.out 0; have o78_1 := blk_frozen BK0.out 1) | ((with_reducible refine Gv.gate_load (t := 33) rfl ?_); (try (refine gate_guard (by rfl) ?_; dsimp only)); refine wpList_load_row rfl 33 _ rfl gb2 rfl 33 _ _ _ (Gv.k01 BK2.out) Try.underlying33 rfl (by kernel_rfl) ?_) | ((with_reducible refine Gv.gate_load (t := 31) rfl ?_); (try (refine gate_guard (by rfl) ?_; dsimp only)); refine Gv.sub_event (g := gb2) 13 rfl rfl rfl (Gv.k01 BK2.out) Try.underlying31 rfl (by kernel_rfl) ?_) | ((with_reducible refine Gv.gate_load (t := 75) rfl ?_); refine Gv.load_event (cs := [_, _, _, _, _, _, _, _, _, _, _, _, _, _, _, _]) rfl rfl rfl ⟨u4_0, u4_1, u4_2, u4_3, u4_4, u4_5, u4_6, u4_7, u4_8, u4_9, u4_10, u4_11, u4_12, u4_13, u4_14, u4_15, trivial⟩ Try.underlying75 rfl (by kernel_rfl) ?_))
          go_roundg k2
          case measure => have := HJ2.out; have := HK2.out; omega
          case rel => exact ⟨(y15), (Int.tmod (wrap64 (x9_2 + 1)) (l0_1.length : Int)), (y16), (.slice (some ⟨go66, 0, none⟩) x6_2.length co66), Gv.rq, H', ⟨by have := HJ2.out; have := HK2.out; omega⟩, ⟨by (with_reducible repeat (first | apply Kd.R_alloc | apply Kd.R_drewN | apply Kd.R_drew)); exact Kd.R_mono HO18.out (fun _ hk => hk.2)⟩, ⟨Gv.kr HO_6.out⟩, ⟨by (with_reducible repeat (first | refine blk_drewN ?_ _ | refine blk_drew ?_ | refine blk_alloc ?_ _)); exact BK0.out⟩, ⟨by (with_reducible repeat (first | refine blk_drewN ?_ _ | refine blk_drew ?_ | refine blk_alloc ?_ _)); exact BK2.out⟩, ⟨by (with_reducible repeat (first | refine blk_drewN ?_ _ | refine blk_drew ?_ | refine blk_alloc ?_ _)); exact BK3.out⟩, ⟨by (with_reducible repeat (first | refine blk_drewN ?_ _ | refine blk_drew ?_ | refine blk_alloc ?_ _)); exact BK5.out⟩, ⟨Gv.bw⟩⟩
        ·replace c63 := Bool.eq_false_iff.mpr c63; subst c63; rw [if_neg (show ¬ (false = true) by decide)] at H
         (try dsimp only at H); have H' := Gv.a0 H; clear H; have hnb79 := NB0_2.out; have hnc79 := NB2_0.out; have hnb80 := NB0_3.out; have hnc80 := NB3_0.out; have hnb81 := NB0_5.out; have hnc81 := NB5_0.out; have z82_0 : wr.cell? ⟨gb0, 0, none⟩ = some (.int .i64 a0_0) := (blk_cell BK0.out 0).trans rfl; have z82_1 : wr.cell? ⟨gb0, 1, none⟩ = some (.slice A0_1 l0_1.length c0_1) := (blk_cell BK0.out 1).trans rfl; have o82_0 := blk_frozen BK0.out 0; have o82_1 := blk_frozen BK0.out 1; have p1 : 0 ≤ (x9_2 : Int) := Gv.od; have q1 : x9_2 < (l0_1.length : Int) := Gv.od; obtain ⟨ad1, e1, u1_0, u1_1, u1_2, u1_3, u1_4, u1_5, u1_6, u1_7, u1_8, u1_9, u1_10, u1_11, u1_12, u1_13, u1_14, u1_15⟩ := at_T75 HR0_1.out x9_2 p1 q1
         (try rw [← Nbq62.out] at u1_0); cases e1; replace u1_0 := Gv.bx HB.out u1_0; replace u1_1 := Gv.bx HB.out u1_1; replace u1_2 := Gv.bx HB.out u1_2; replace u1_3 := Gv.bx HB.out u1_3; replace u1_4 := Gv.bx HB.out u1_4; replace u1_5 := Gv.bx HB.out u1_5; replace u1_6 := Gv.bx HB.out u1_6; replace u1_7 := Gv.bx HB.out u1_7; replace u1_8 := Gv.bx HB.out u1_8; replace u1_9 := Gv.bx HB.out u1_9; replace u1_10 := Gv.bx HB.out u1_10; replace u1_11 := Gv.bx HB.out u1_11; replace u1_12 := Gv.bx HB.out u1_12; replace u1_13 := Gv.bx HB.out u1_13; replace u1_14 := Gv.bx HB.out u1_14; replace u1_15 := Gv.bx HB.out u1_15; replace p1 := eq_true p1; replace q1 := eq_true q1
         go_wp2_with (first | ((with_reducible refine Gv.gate_load (t := 33) rfl ?_); (try (refine gate_guard (by rfl) ?_; dsimp only)); refine wpList_load_row rfl 33 _ rfl gb2 rfl 33 _ _ _ (Gv.k01 BK2.out) Try.underlying33 rfl (by kernel_rfl) ?_) | ((with_reducible refine Gv.gate_load (t := 31) rfl ?_); (try (refine gate_guard (by rfl) ?_; dsimp only)); refine Gv.sub_event (g := gb2) 13 rfl rfl rfl (Gv.k01 BK2.out) Try.underlying31 rfl (by kernel_rfl) ?_))
         go_loopg [10] k2 (fun kq v10 w' => ∃ (x8_3 : List (S75)) (x10_3 : Int) (x6_3 : List (S75)) (u6 : Value), v10 = .int .i64 x10_3 ∧ Aside0 (spec_TableDrop.l1 kq x8_3 x10_3 t9 x6_3 = some (r1, r2, r3)) ∧ Aside0 (kq ≤ k2) ∧ Aside0 (Kd.R k75 75 w' w.heap.size (fun k_ => some k_ ≠ (u6 : Value).ownBlock) u8 x8_3) ∧ Aside0 (Kd.R k75 75 w' w.heap.size (fun k_ => some k_ ≠ (u8 : Value).ownBlock) u6 x6_3) ∧ Aside0 (w'.heap[gb0]? = some (.cells #[.int .i64 a0_0, (.slice (some ad1) l0_1.length c0_1)] 40 (0, 0))) ∧ Aside0 (w'.heap[gb2]? = some (.cells #[.int .i64 a1_0, .int .i64 a1_1, .int .i64 a1_2, .int .i64 a1_3, .int .i64 a1_4, .int .i64 a1_5, .int .i64 a1_6, .int .i64 a1_7, .int .i64 a1_8, .int .i64 a1_9, .int .i64 a1_10, .int .i64 a1_11, .int .i64 a1_12, .int .i64 a1_13] 33 (0, 0))) ∧ Aside0 (w'.heap[gb3]? = some (.cells #[.int .i64 0, (.slice none 0 0)] 40 (0, 0))) ∧ Aside0 (w'.heap[gb5]? = some (.cells #[.int .i64 t9, u6] 40 (0, 0))) ∧ Aside0 (Below w.heap.size w w'))
         case atStart => exact ⟨(x8_2), (0), (x6_2), (u6), Gv.rq, H', ⟨Nat.le_refl _⟩, ⟨Gv.kr HO_8.out⟩, ⟨Gv.kr HO_6.out⟩, ⟨by (with_reducible repeat (first | refine blk_drewN ?_ _ | refine blk_drew ?_ | refine blk_alloc ?_ _)); exact BK0.out⟩, ⟨by (with_reducible repeat (first | refine blk_drewN ?_ _ | refine blk_drew ?_ | refine blk_alloc ?_ _)); exact BK2.out⟩, ⟨by (with_reducible repeat (first | refine blk_drewN ?_ _ | refine blk_drew ?_ | refine blk_alloc ?_ _)); exact BK3.out⟩, ⟨by (with_reducible repeat (first | refine blk_drewN ?_ _ | refine blk_drew ?_ | refine blk_alloc ?_ _)); exact BK5.out⟩, ⟨Gv.bw⟩⟩
         case round =>
          clear H'
          try clear c1
          try clear c2
          try clear p2
          try clear c3
          try clear p3
          try clear q3
          try clear hx3
          try clear hf3
          try clear c4
          try clear c5
          try clear hx5
          try clear hf5
          try clear c6
          try clear p6
          try clear q6
          try clear hx6
          try clear hf6
          try clear c7
          try clear hx7
          try clear hf7
          try clear c8
          try clear c10
          try clear c11
          try clear c14
          try clear c17
          try clear c18
          try clear c21
          try clear c22
          try clear c23
          try clear c24
          try clear c26
          try clear c26b0
          try clear c27
          try clear c28
          try clear c30
          try clear p34
          try clear q34
          try clear hx34
          try clear c35
          try clear c35b0
          try clear c36
          try clear c36b0
          try clear c37
          try clear p37
          try clear q37
          try clear hx37
          try clear hf37
          try clear c38
          try clear c38b0
          try clear c38b1
          try clear c38b2
          try clear c39
          try clear c40
          try clear c42
          try clear c48
          try clear c49
          try clear c50
          try clear c54
          try clear c55
          try clear hx55
          try clear hf55
          try clear c60
          try clear c60b0
          try clear c61
          try clear c61b0
          try clear c62
          try clear q62
          try clear c63
          try clear c64
          try clear p64
          try clear c65
          try clear c65b0
          try clear c66
          try clear p66
          try clear q66
          try clear hx66
          try clear hf66
          try clear c67
          try clear c67b0
          try clear c67b1
          try clear c67b2
          try clear c68
          try clear c69
          try clear c70
          try clear c73
          try clear c74
          try clear c76
          try clear hx76
          try clear hf76
          try clear c79
          try clear c80
          try clear c81
          try clear z12_0 z12_1
          try clear z15_0 z15_1
          try clear z15_10 z15_11 z15_12 z15_13
          try clear z15_2 z15_3 z15_4 z15_5 z15_6 z15_7 z15_8 z15_9
          try clear z19_0 z19_1
          try clear z24_0 z24_1
          try clear z29_0 z29_1
          try clear z31_0 z31_1
          try clear z31_10 z31_11 z31_12 z31_13
          try clear z31_2 z31_3 z31_4 z31_5 z31_6 z31_7 z31_8 z31_9
          try clear z33_0 z33_1
          try clear z41_0 z41_1
          try clear z43_0 z43_1
          try clear z43_10 z43_11 z43_12 z43_13
          try clear z43_2 z43_3 z43_4 z43_5 z43_6 z43_7 z43_8 z43_9
          try clear z45_0 z45_1
          try clear z51_0 z51_1
          try clear z54_0 z54_1
          try clear z59_0 z59_1
          try clear z71_0 z71_1
          try clear z75_0 z75_1
          try clear z78_0 z78_1
          try clear z82_0 z82_1
          try clear o12_0 o12_1
          try clear o15_0 o15_1
          try clear o15_10 o15_11 o15_12 o15_13
          try clear o15_2 o15_3 o15_4 o15_5 o15_6 o15_7 o15_8 o15_9
          try clear o19_0 o19_1
          try clear o24_0 o24_1
          try clear o29_0 o29_1
          try clear o31_0 o31_1
          try clear o31_10 o31_11 o31_12 o31_13
          try clear o31_2 o31_3 o31_4 o31_5 o31_6 o31_7 o31_8 o31_9
          try clear o33_0 o33_1
          try clear o41_0 o41_1
          try clear o43_0 o43_1
          try clear o43_10 o43_11 o43_12 o43_13
          try clear o43_2 o43_3 o43_4 o43_5 o43_6 o43_7 o43_8 o43_9
          try clear o45_0 o45_1
          try clear o51_0 o51_1
          try clear o54_0 o54_1
          try clear o59_0 o59_1
          try clear o71_0 o71_1
          try clear o75_0 o75_1
          try clear o78_0 o78_1
          try clear o82_0 o82_1
          try clear u1_0
          try clear u1_1
          try clear u1_10
          try clear u1_11
          try clear u1_12
          try clear u1_13
          try clear u1_14
          try clear u1_15
          try clear u1_2
          try clear u1_3
          try clear u1_4
          try clear u1_5
          try clear u1_6
          try clear u1_7
          try clear u1_8
          try clear u1_9
          try clear u4_0
          try clear u4_1
          try clear u4_10
          try clear u4_11
          try clear u4_12
          try clear u4_13
          try clear u4_14
          try clear u4_15
          try clear u4_2
          try clear u4_3
          try clear u4_4
          try clear u4_5
          try clear u4_6
          try clear u4_7
          try clear u4_8
          try clear u4_9
          try clear u37_0
          try clear u37_1
          try clear u37_10
          try clear u37_11
          try clear u37_12
          try clear u37_13
          try clear u37_14
          try clear u37_15
          try clear u37_2
          try clear u37_3
          try clear u37_4
          try clear u37_5
          try clear u37_6
          try clear u37_7
          try clear u37_8
          try clear u37_9
          try clear u55_0
          try clear u55_1
          try clear u55_10
          try clear u55_11
          try clear u55_12
          try clear u55_13
          try clear u55_14
          try clear u55_15
          try clear u55_2
          try clear u55_3
          try clear u55_4
          try clear u55_5
          try clear u55_6
          try clear u55_7
          try clear u55_8
          try clear u55_9
          try clear u66_0
          try clear u66_1
          try clear u66_10
          try clear u66_11
          try clear u66_12
          try clear u66_13
          try clear u66_14
          try clear u66_15
          try clear u66_2
          try clear u66_3
          try clear u66_4
          try clear u66_5
          try clear u66_6
          try clear u66_7
          try clear u66_8
          try clear u66_9
          try clear u76_0
          try clear u76_1
          try clear u76_10
          try clear u76_11
          try clear u76_12
          try clear u76_13
          try clear u76_14
          try clear u76_15
          try clear u76_2
          try clear u76_3
          try clear u76_4
          try clear u76_5
          try clear u76_6
          try clear u76_7
          try clear u76_8
          try clear u76_9
          try clear p2
          try clear p3
          try clear p1
          try clear p4
          try clear p37
          try clear p6
          try clear p66
          try clear q3
          try clear q1
          try clear q4
          try clear q37
          try clear q66
          obtain ⟨x8_3, x10_3, x6_3, u6, rfl, HA, HK3, HO_8, HO_6, BK0, BK2, BK3, BK5, HB⟩ := hrel; cases gk with
          | zero => exact absurd HA.out (by simp [spec_TableDrop.l1])
          | succ k3 =>
           have H := HA.out; clear HA; simp only [spec_TableDrop.l1] at H
           by_cases c83 : x10_3 < (x8_3.length : Int)
           ·rw [if_pos c83] at H; have c83b0 := decide_eq_true c83; clear c83
            by_cases c84 : 0 ≤ x10_3
            rotate_left
            ·rw [if_neg c84] at H; cases H
            rw [if_pos c84] at H; have c84b0 := decide_eq_true c84; clear c84; replace H := Option.bind_eq_some_iff.mp H; obtain ⟨t21, A22, H⟩ := H
            (try dsimp only at H); have A85 := Gv.a0 A22; clear A22; have H' := Gv.a0 H; clear H; obtain ⟨Ao86, co86, eo86⟩ := Kd.R_slice HO_8.out; subst eo86
            try go_wp2
            replace HO_8 := Gv.a0 (Kd.R_drew HO_8.out); replace HO_6 := Gv.a0 (Kd.R_drew HO_6.out); replace BK0 := Gv.a0 (blk_drew BK0.out); replace BK2 := Gv.a0 (blk_drew BK2.out); replace BK3 := Gv.a0 (blk_drew BK3.out); replace BK5 := Gv.a0 (blk_drew BK5.out); replace HB := Gv.a0 (below_drew1 HB.out); have p7 : 0 ≤ (x10_3 : Int) := Gv.od; have q7 : x10_3 < (x8_3.length : Int) := Gv.od; obtain ⟨ad7, e7, u7_0, u7_1, u7_2, u7_3, u7_4, u7_5, u7_6, u7_7, u7_8, u7_9, u7_10, u7_11, u7_12, u7_13, u7_14, _⟩ := at_T75 (Kd.R_reads' HO_8.out).2.2 x10_3 p7 q7
            (try rw [← Nbq62.out] at u7_0); cases e7; replace p7 := eq_true p7; replace q7 := eq_true q7; have p12 : 0 ≤ (x10_3 : Int) := Gv.od; have q12 : x10_3 < (x8_3.length : Int) := Gv.od; obtain ⟨ad12, e12, u12_0, _, _, _, _, _, _, _, _, _, _, _, _, _, _, u12_15⟩ := at_T75 (Kd.R_reads' HO_8.out).2.2 x10_3 p12 q12
            (try rw [← Nbq62.out] at u12_0); obtain rfl : ad7 = ad12 := (by injection e12); replace p12 := eq_true p12; replace q12 := eq_true q12; obtain ⟨Ao88, co88, eo88⟩ := Kd.R_slice HO_6.out
            (first | subst eo88 | (injection eo88 with f1_ f2_ f3_; have f4_ := f1_.symm; have f5_ := f3_.symm; clear f1_ f2_ f3_; subst f4_; subst f5_)); refine start_ (n := 12) (S := fun w' => w'.cell? ⟨gb5, 0, none⟩ = some (.int .i64 t9) ∧ w'.cell? ⟨gb5, 1, none⟩ = some (.slice Ao88 x6_3.length co88) ∧ w'.cell? ⟨(ad7.add ((x10_3).toNat * 16)).block, (ad7.add ((x10_3).toNat * 16)).off + 1, none⟩ = some (.int .i64 ((rd_T75 x8_3 x10_3).f1.f0)) ∧ w'.cell? ⟨(ad7.add ((x10_3).toNat * 16)).block, (ad7.add ((x10_3).toNat * 16)).off + 2, none⟩ = some (.int .i64 ((rd_T75 x8_3 x10_3).f1.f1.f0.f0)) ∧ w'.cell? ⟨(ad7.add ((x10_3).toNat * 16)).block, (ad7.add ((x10_3).toNat * 16)).off + 3, none⟩ = some (.int .i64 ((rd_T75 x8_3 x10_3).f1.f1.f0.f1)) ∧ w'.cell? ⟨(ad7.add ((x10_3).toNat * 16)).block, (ad7.add ((x10_3).toNat * 16)).off + 4, none⟩ = some (.int .i64 ((rd_T75 x8_3 x10_3).f1.f1.f0.f2)) ∧ w'.cell? ⟨(ad7.add ((x10_3).toNat * 16)).block, (ad7.add ((x10_3).toNat * 16)).off + 5, none⟩ = some (.int .i64 ((rd_T75 x8_3 x10_3).f1.f1.f0.f3)) ∧ w'.cell? ⟨(ad7.add ((x10_3).toNat * 16)).block, (ad7.add ((x10_3).toNat * 16)).off + 6, none⟩ = some (.int .i64 ((rd_T75 x8_3 x10_3).f1.f1.f0.f4)) ∧ w'.cell? ⟨(ad7.add ((x10_3).toNat * 16)).block, (ad7.add ((x10_3).toNat * 16)).off + 7, none⟩ = some (.int .i64 ((rd_T75 x8_3 x10_3).f1.f1.f1.f0)) ∧ w'.cell? ⟨(ad7.add ((x10_3).toNat * 16)).block, (ad7.add ((x10_3).toNat * 16)).off + 8, none⟩ = some (.int .i64 ((rd_T75 x8_3 x10_3).f1.f1.f1.f1)) ∧ w'.cell? ⟨(ad7.add ((x10_3).toNat * 16)).block, (ad7.add ((x10_3).toNat * 16)).off + 9, none⟩ = some (.int .i64 ((rd_T75 x8_3 x10_3).f1.f1.f1.f2)) ∧ w'.cell? ⟨(ad7.add ((x10_3).toNat * 16)).block, (ad7.add ((x10_3).toNat * 16)).off + 10, none⟩ = some (.int .i64 ((rd_T75 x8_3 x10_3).f1.f1.f1.f3)) ∧ w'.cell? ⟨(ad7.add ((x10_3).toNat * 16)).block, (ad7.add ((x10_3).toNat * 16)).off + 11, none⟩ = some (.int .i64 ((rd_T75 x8_3 x10_3).f1.f1.f1.f4)) ∧ w'.cell? ⟨(ad7.add ((x10_3).toNat * 16)).block, (ad7.add ((x10_3).toNat * 16)).off + 12, none⟩ = some (.int .i64 ((rd_T75 x8_3 x10_3).f1.f1.f2)) ∧ w'.cell? ⟨(ad7.add ((x10_3).toNat * 16)).block, (ad7.add ((x10_3).toNat * 16)).off + 13, none⟩ = some (.int .i64 ((rd_T75 x8_3 x10_3).f1.f1.f3)) ∧ w'.cell? ⟨(ad7.add ((x10_3).toNat * 16)).block, (ad7.add ((x10_3).toNat * 16)).off + 14, none⟩ = some (.int .i64 ((rd_T75 x8_3 x10_3).f1.f1.f4)) ∧ w'.cell? ⟨(ad7.add ((x10_3).toNat * 16)).block, (ad7.add ((x10_3).toNat * 16)).off + 15, none⟩ = some (.int .i64 ((rd_T75 x8_3 x10_3).f2))) (ds := []) #[false, false, false, false, false, false, false, false, false, false, false, false] (by kernel_rfl) rfl rfl ⟨Gv.q BK5.out, Gv.q BK5.out, u7_1, u7_2, u7_3, u7_4, u7_5, u7_6, u7_7, u7_8, u7_9, u7_10, u7_11, u7_12, u7_13, u7_14, u12_15⟩ (fun hHeld => ?_); refine with_tabW spec_TableDrop.tab17 spec_TableDrop.bits17 (fun HT_ HW_ => ?_); generalize wr.drew = w87 at HO_8 HO_6 BK0 BK2 BK3 BK5 HB u7_0 u7_1 u7_10 u7_11 u7_12 u7_13 u7_14 u7_2 u7_3 u7_4 u7_5 u7_6 u7_7 u7_8 u7_9 u12_0 u12_15 hHeld ⊢
            refine Gv.pu 1 (some 72) HT_ ?_; refine Gv.pu 2 (some 73) HT_ ?_; refine Gv.pu 3 (some 74) HT_ ?_; refine Gv.pu 4 (some 75) HT_ ?_; refine Gv.pu 6 (some 77) HT_ ?_; refine Gv.pu 7 (some 78) HT_ ?_; refine Gv.pu 8 (some 79) HT_ ?_; refine Gv.pu 9 (some 80) HT_ ?_; refine take_ (i := 0) (N := some 71) (v := ?_) (a' := ?_) #[true, true, true, true, true, false, true, true, true, true, false, false] rfl rfl (take_ofW HT_.out HW_.out (by kernel_rfl)) (fun _ _ _ h => h) (Or.inl ⟨by rfl, ?_⟩) hHeld ?_ ?_; rotate_left
            ·rintro w' ⟨s0, s1, s2, s3, s4, s5, s6, s7, s8, s9, s10, s11, s12, s13, s14, s15, s16⟩
             first | ((refine Gv.load_run (t := 40) (A := ⟨gb5, 0, none⟩) (cs := [_, _, _, _, _, _, _, _, _, _, _, _, _, _, _, _, _]) (x := ?xx21_) ?ho21_ ?hx21_ ⟨s0, s1, s2, s3, s4, s5, s6, s7, s8, s9, s10, s11, s12, s13, s14, s15, s16, trivial⟩ Try.underlying40 rfl (by kernel_rfl)); (case ho21_ => rfl); (case hx21_ => rfl)) | (go_simp; with_reducible rfl)
            rotate_left
            ·simp only [Act.put, List.setIfInBounds_toArray, List.set_cons_zero, List.set_cons_succ, i64_w, i32_w]
             rfl
            refine take_ (i := 5) (N := some 76) (v := ?_) (a' := ?_) #[true, true, true, true, true, true, true, true, true, true, false, false] rfl rfl (take_ofW HT_.out HW_.out (by kernel_rfl)) (fun _ _ _ h => h) (Or.inl ⟨by rfl, ?_⟩) hHeld ?_ ?_; rotate_left
            ·rintro w' ⟨s0, s1, s2, s3, s4, s5, s6, s7, s8, s9, s10, s11, s12, s13, s14, s15, s16⟩
             first | ((refine Gv.load_run (t := 40) (A := ⟨gb5, 0, none⟩) (cs := [_, _, _, _, _, _, _, _, _, _, _, _, _, _, _, _, _]) (x := ?xx23_) ?ho23_ ?hx23_ ⟨s0, s1, s2, s3, s4, s5, s6, s7, s8, s9, s10, s11, s12, s13, s14, s15, s16, trivial⟩ Try.underlying40 rfl (by kernel_rfl)); (case ho23_ => rfl); (case hx23_ => rfl)) | (go_simp; with_reducible rfl)
            rotate_left
            ·simp only [Act.put, List.setIfInBounds_toArray, List.set_cons_zero, List.set_cons_succ, i64_w, i32_w]
             rfl
            refine take_ (i := 10) (N := some 81) (v := ?_) (a' := ?_) #[true, true, true, true, true, true, true, true, true, true, true, false] rfl rfl (take_ofW HT_.out HW_.out (by kernel_rfl)) (fun _ _ _ h => h) (Or.inl ⟨by rfl, ?_⟩) hHeld ?_ ?_; rotate_left
            ·rintro w' ⟨s0, s1, s2, s3, s4, s5, s6, s7, s8, s9, s10, s11, s12, s13, s14, s15, s16⟩
             first | ((refine Gv.load_run (t := 40) (A := ⟨gb5, 0, none⟩) (cs := [_, _, _, _, _, _, _, _, _, _, _, _, _, _, _, _, _]) (x := ?xx25_) ?ho25_ ?hx25_ ⟨s0, s1, s2, s3, s4, s5, s6, s7, s8, s9, s10, s11, s12, s13, s14, s15, s16, trivial⟩ Try.underlying40 rfl (by kernel_rfl)); (case ho25_ => rfl); (case hx25_ => rfl)) | (go_simp; with_reducible rfl)
            rotate_left
            ·simp only [Act.put, List.setIfInBounds_toArray, List.set_cons_zero, List.set_cons_succ, i64_w, i32_w]
             rfl
            refine one_ (i := 11) (N := some 82) #[true, true, true, true, true, true, true, true, true, true, true, true] rfl rfl (one_of HT_.out (by kernel_rfl)) (by decide) (fun K hK => ?_); refine goes_ Try.func60 (by kernel_rfl) rfl #[.agg #[.int .i64 t9, .slice Ao88 x6_3.length co88], .agg #[.int .i64 ((rd_T75 x8_3 x10_3).f1.f0), .int .i64 ((rd_T75 x8_3 x10_3).f1.f1.f0.f0), .int .i64 ((rd_T75 x8_3 x10_3).f1.f1.f0.f1), .int .i64 ((rd_T75 x8_3 x10_3).f1.f1.f0.f2), .int .i64 ((rd_T75 x8_3 x10_3).f1.f1.f0.f3), .int .i64 ((rd_T75 x8_3 x10_3).f1.f1.f0.f4), .int .i64 ((rd_T75 x8_3 x10_3).f1.f1.f1.f0), .int .i64 ((rd_T75 x8_3 x10_3).f1.f1.f1.f1), .int .i64 ((rd_T75 x8_3 x10_3).f1.f1.f1.f2), .int .i64 ((rd_T75 x8_3 x10_3).f1.f1.f1.f3), .int .i64 ((rd_T75 x8_3 x10_3).f1.f1.f1.f4), .int .i64 ((rd_T75 x8_3 x10_3).f1.f1.f2), .int .i64 ((rd_T75 x8_3 x10_3).f1.f1.f3), .int .i64 ((rd_T75 x8_3 x10_3).f1.f1.f4)], .int .i64 ((rd_T75 x8_3 x10_3).f2)] (by rfl) rfl rfl Gv.lm ?_
            with_reducible refine (spec_l11Into.calls k3 t9 (fun k_ => some k_ = (.slice Ao88 x6_3.length co88 : Value).ownBlock) (.slice Ao88 x6_3.length co88) x6_3 ((rd_T75 x8_3 x10_3).f1.f0) ((rd_T75 x8_3 x10_3).f1.f1.f0.f0) ((rd_T75 x8_3 x10_3).f1.f1.f0.f1) ((rd_T75 x8_3 x10_3).f1.f1.f0.f2) ((rd_T75 x8_3 x10_3).f1.f1.f0.f3) ((rd_T75 x8_3 x10_3).f1.f1.f0.f4) ((rd_T75 x8_3 x10_3).f1.f1.f1.f0) ((rd_T75 x8_3 x10_3).f1.f1.f1.f1) ((rd_T75 x8_3 x10_3).f1.f1.f1.f2) ((rd_T75 x8_3 x10_3).f1.f1.f1.f3) ((rd_T75 x8_3 x10_3).f1.f1.f1.f4) ((rd_T75 x8_3 x10_3).f1.f1.f2) ((rd_T75 x8_3 x10_3).f1.f1.f3) ((rd_T75 x8_3 x10_3).f1.f1.f4) ((rd_T75 x8_3 x10_3).f2) t21 w _ ?side1 ?side2 A85.out).mono ?_
            (case side1 => repeat (first | (with_reducible first | exact HB.out | apply below_alloc | apply pw_below_drewN | apply below_drew1 | refine below_set ?_ GE0.out | refine below_set ?_ GE2.out | refine below_set ?_ GE3.out | refine below_set ?_ GE5.out) | exact HB.out))
            (case side2 => exact Kd.R_tight rfl HO_6.out)
            rintro e w89 ⟨rfl, hy0, hb, hkp⟩; have HS2_ := cell_kept (hHeld.2.2.1) hkp (by first | (rw [add_block]; exact (fun hs_ => (((HO_8.out).1 _ rfl)) hs_)) | (show ¬ _; simp only [add_block]; exact (fun hs_ => (((HO_8.out).1 _ rfl)) hs_)) | exact (fun hs_ => (((HO_8.out).1 _ rfl)) hs_)); have HS3_ := cell_kept (hHeld.2.2.2.1) hkp (by first | (rw [add_block]; exact (fun hs_ => (((HO_8.out).1 _ rfl)) hs_)) | (show ¬ _; simp only [add_block]; exact (fun hs_ => (((HO_8.out).1 _ rfl)) hs_)) | exact (fun hs_ => (((HO_8.out).1 _ rfl)) hs_)); have HS4_ := cell_kept (hHeld.2.2.2.2.1) hkp (by first | (rw [add_block]; exact (fun hs_ => (((HO_8.out).1 _ rfl)) hs_)) | (show ¬ _; simp only [add_block]; exact (fun hs_ => (((HO_8.out).1 _ rfl)) hs_)) | exact (fun hs_ => (((HO_8.out).1 _ rfl)) hs_)); have HS5_ := cell_kept (hHeld.2.2.2.2.2.1) hkp (by first | (rw [add_block]; exact (fun hs_ => (((HO_8.out).1 _ rfl)) hs_)) | (show ¬ _; simp only [add_block]; exact (fun hs_ => (((HO_8.out).1 _ rfl)) hs_)) | exact (fun hs_ => (((HO_8.out).1 _ rfl)) hs_)); have HS6_ := cell_kept (hHeld.2.2.2.2.2.2.1) hkp (by first | (rw [add_block]; exact (fun hs_ => (((HO_8.out).1 _ rfl)) hs_)) | (show ¬ _; simp only [add_block]; exact (fun hs_ => (((HO_8.out).1 _ rfl)) hs_)) | exact (fun hs_ => (((HO_8.out).1 _ rfl)) hs_)); have HS7_ := cell_kept (hHeld.2.2.2.2.2.2.2.1) hkp (by first | (rw [add_block]; exact (fun hs_ => (((HO_8.out).1 _ rfl)) hs_)) | (show ¬ _; simp only [add_block]; exact (fun hs_ => (((HO_8.out).1 _ rfl)) hs_)) | exact (fun hs_ => (((HO_8.out).1 _ rfl)) hs_)); have HS8_ := cell_kept (hHeld.2.2.2.2.2.2.2.2.1) hkp (by first | (rw [add_block]; exact (fun hs_ => (((HO_8.out).1 _ rfl)) hs_)) | (show ¬ _; simp only [add_block]; exact (fun hs_ => (((HO_8.out).1 _ rfl)) hs_)) | exact (fun hs_ => (((HO_8.out).1 _ rfl)) hs_)); have HS9_ := cell_kept (hHeld.2.2.2.2.2.2.2.2.2.1) hkp (by first | (rw [add_block]; exact (fun hs_ => (((HO_8.out).1 _ rfl)) hs_)) | (show ¬ _; simp only [add_block]; exact (fun hs_ => (((HO_8.out).1 _ rfl)) hs_)) | exact (fun hs_ => (((HO_8.out).1 _ rfl)) hs_)); have HS10_ := cell_kept (hHeld.2.2.2.2.2.2.2.2.2.2.1) hkp (by first | (rw [add_block]; exact (fun hs_ => (((HO_8.out).1 _ rfl)) hs_)) | (show ¬ _; simp only [add_block]; exact (fun hs_ => (((HO_8.out).1 _ rfl)) hs_)) | exact (fun hs_ => (((HO_8.out).1 _ rfl)) hs_)); have HS11_ := cell_kept (hHeld.2.2.2.2.2.2.2.2.2.2.2.1) hkp (by first | (rw [add_block]; exact (fun hs_ => (((HO_8.out).1 _ rfl)) hs_)) | (show ¬ _; simp only [add_block]; exact (fun hs_ => (((HO_8.out).1 _ rfl)) hs_)) | exact (fun hs_ => (((HO_8.out).1 _ rfl)) hs_)); have HS12_ := cell_kept (hHeld.2.2.2.2.2.2.2.2.2.2.2.2.1) hkp (by first | (rw [add_block]; exact (fun hs_ => (((HO_8.out).1 _ rfl)) hs_)) | (show ¬ _; simp only [add_block]; exact (fun hs_ => (((HO_8.out).1 _ rfl)) hs_)) | exact (fun hs_ => (((HO_8.out).1 _ rfl)) hs_)); have HS13_ := cell_kept (hHeld.2.2.2.2.2.2.2.2.2.2.2.2.2.1) hkp (by first | (rw [add_block]; exact (fun hs_ => (((HO_8.out).1 _ rfl)) hs_)) | (show ¬ _; simp only [add_block]; exact (fun hs_ => (((HO_8.out).1 _ rfl)) hs_)) | exact (fun hs_ => (((HO_8.out).1 _ rfl)) hs_))
            have HS14_ := cell_kept (hHeld.2.2.2.2.2.2.2.2.2.2.2.2.2.2.1) hkp (by first | (rw [add_block]; exact (fun hs_ => (((HO_8.out).1 _ rfl)) hs_)) | (show ¬ _; simp only [add_block]; exact (fun hs_ => (((HO_8.out).1 _ rfl)) hs_)) | exact (fun hs_ => (((HO_8.out).1 _ rfl)) hs_)); have HS15_ := cell_kept (hHeld.2.2.2.2.2.2.2.2.2.2.2.2.2.2.2.1) hkp (by first | (rw [add_block]; exact (fun hs_ => (((HO_8.out).1 _ rfl)) hs_)) | (show ¬ _; simp only [add_block]; exact (fun hs_ => (((HO_8.out).1 _ rfl)) hs_)) | exact (fun hs_ => (((HO_8.out).1 _ rfl)) hs_)); have HS16_ := cell_kept (hHeld.2.2.2.2.2.2.2.2.2.2.2.2.2.2.2.2) hkp (by first | (rw [add_block]; exact (fun hs_ => (((HO_8.out).1 _ rfl)) hs_)) | (show ¬ _; simp only [add_block]; exact (fun hs_ => (((HO_8.out).1 _ rfl)) hs_)) | exact (fun hs_ => (((HO_8.out).1 _ rfl)) hs_)); refine ⟨_, rfl, ?_⟩; replace HO_8 := Gv.a0 (Kd.R_mono (ok' := fun k_ => some k_ ≠ (.slice Ao88 x6_3.length co88 : Value).ownBlock) (Kd.R_keptB (HO_8.out) hkp (fun k_ hk_ hs_ => (hk_) hs_)) (fun k_ hk_ => hk_.1)); replace BK0 := Gv.a0 (blk_kept Gv.bk hkp (fun hs_ => (fun e_ => (Kd.R_ne HO_6.out BK0.out (by decide)) e_) hs_)); replace BK2 := Gv.a0 (blk_kept Gv.bk hkp (fun hs_ => (fun e_ => (Kd.R_ne HO_6.out BK2.out (by decide)) e_) hs_)); replace BK3 := Gv.a0 (blk_kept Gv.bk hkp (fun hs_ => (fun e_ => (Kd.R_ne HO_6.out BK3.out (by decide)) e_) hs_)); replace BK5 := Gv.a0 (blk_kept Gv.bk hkp (fun hs_ => (fun e_ => (Kd.R_ne HO_6.out BK5.out (by decide)) e_) hs_)); replace HO_6 := Gv.a0 (Kd.R_reok rfl hy0 (fun k_ e_ => HO_6.out.1 k_ e_)); replace HB := Gv.a0 (hb)
            (try clear hb)
            (try clear hkp)
            (try clear hy0); refine hK.out _ _ ⟨Gv.q BK5.out, Gv.q BK5.out, HS2_, HS3_, HS4_, HS5_, HS6_, HS7_, HS8_, HS9_, HS10_, HS11_, HS12_, HS13_, HS14_, HS15_, HS16_⟩ (fun hHeld => ?_); clear hK K; refine norm_ (a' := ?_) ?_ ?_; rotate_left
            ·show Act.put _ (some 82) _ = _
             simp only [Act.put, List.setIfInBounds_toArray, List.set_cons_zero, List.set_cons_succ, i64_w, i32_w]
             rfl
            refine done_ (done_of HT_.out (by kernel_rfl)) ?_
            try go_wp2
            go_roundg k3
            case measure => have := HJ2.out; have := HK2.out; have := HK3.out; omega
            case rel => exact ⟨(x8_3), (wrap64 (x10_3 + 1)), (t21), (.slice Ao88 x6_3.length co88), Gv.rq, H', ⟨by have := HJ2.out; have := HK2.out; have := HK3.out; omega⟩, ⟨Gv.kr HO_8.out⟩, ⟨Gv.kr HO_6.out⟩, ⟨by (with_reducible repeat (first | refine blk_drewN ?_ _ | refine blk_drew ?_ | refine blk_alloc ?_ _)); exact BK0.out⟩, ⟨by (with_reducible repeat (first | refine blk_drewN ?_ _ | refine blk_drew ?_ | refine blk_alloc ?_ _)); exact BK2.out⟩, ⟨by (with_reducible repeat (first | refine blk_drewN ?_ _ | refine blk_drew ?_ | refine blk_alloc ?_ _)); exact BK3.out⟩, ⟨by (with_reducible repeat (first | refine blk_drewN ?_ _ | refine blk_drew ?_ | refine blk_alloc ?_ _)); exact BK5.out⟩, ⟨Gv.bw⟩⟩
           ·rw [if_neg c83] at H; have c83b0 := decide_eq_false c83; clear c83; simp only [Option.some.injEq, Prod.mk.injEq] at H; obtain ⟨rfl, rfl, rfl⟩ := H; obtain ⟨Ao90, co90, eo90⟩ := Kd.R_slice HO_8.out; subst eo90; have hnb91 := NB5_0.out; have hnc91 := NB0_5.out; have hnb92 := NB5_2.out; have hnc92 := NB2_5.out; have hnb93 := NB5_3.out; have hnc93 := NB3_5.out; have z94_0 : wr.cell? ⟨gb5, 0, none⟩ = some (.int .i64 t9) := (blk_cell BK5.out 0).trans rfl; have z94_1 : wr.cell? ⟨gb5, 1, none⟩ = some (u6) := (blk_cell BK5.out 1).trans rfl; have o94_0 := blk_frozen BK5.out 0; have o94_1 := blk_frozen BK5.out 1; have hnb95 := NB3_0.out; have hnc95 := NB0_3.out; have hnb96 := NB3_2.out; have hnc96 := NB2_3.out; have z97_0 : wr.cell? ⟨gb3, 0, none⟩ = some (.int .i64 0) := (blk_cell BK3.out 0).trans rfl; have z97_1 : wr.cell? ⟨gb3, 1, none⟩ = some (.slice none 0 0) := (blk_cell BK3.out 1).trans rfl; have o97_0 := blk_frozen BK3.out 0; have o97_1 := blk_frozen BK3.out 1; obtain ⟨Ao98, co98, eo98⟩ := Kd.R_slice HO_6.out; subst eo98
            go_wp2_with (first | ((with_reducible refine Gv.gate_load (t := 33) rfl ?_); (try (refine gate_guard (by rfl) ?_; dsimp only)); refine wpList_load_row rfl 33 _ rfl gb2 rfl 33 _ _ _ (Gv.k01 BK2.out) Try.underlying33 rfl (by kernel_rfl) ?_) | ((with_reducible refine Gv.gate_load (t := 31) rfl ?_); (try (refine gate_guard (by rfl) ?_; dsimp only)); refine Gv.sub_event (g := gb2) 13 rfl rfl rfl (Gv.k01 BK2.out) Try.underlying31 rfl (by kernel_rfl) ?_))
            refine bodyPost_ret (results_ct rfl _ _ gb3 40 #[.int .i64 t9, .slice Ao98 x6_3.length co98] (0, 0) _ rfl (by (with_reducible repeat (first | refine blk_drewN ?_ _ | refine blk_drew ?_ | refine blk_alloc ?_ _)); refine blk_put (cs := #[.int .i64 t9, .slice none 0 0]) ?_ 1 _ rfl; (with_reducible repeat (first | refine blk_drewN ?_ _ | refine blk_drew ?_ | refine blk_alloc ?_ _)); refine blk_put (cs := #[.int .i64 0, .slice none 0 0]) ?_ 0 _ rfl; (with_reducible repeat (first | refine blk_drewN ?_ _ | refine blk_drew ?_ | refine blk_alloc ?_ _)); exact BK3.out) Try.underlying40 rfl (by kernel_rfl)) rfl ?_; exact ⟨_, Gv.rt, by (with_reducible repeat (first | apply Kd.R_alloc | apply Kd.R_drewN | apply Kd.R_drew)); exact Kd.R_mono (Kd.R_far (p := ⟨gb3, 1, none⟩) (Kd.R_far (p := ⟨gb3, 0, none⟩) (Kd.R_types HO_6.out BK3.out (by decide)) (fun _ hk => hk.2) (.int .i64 t9)) (fun _ hk => hk.2) (.slice Ao98 x6_3.length co98)) (fun _ hk => trivial), Gv.bw⟩
/-! ### impl_within: function 44 -/
def impl_within.f (a0 : Int) (a1 : Int) (a2 : Int) : Option (Bool) := if a0 ≥ a1 then (some (decide (a0 ≤ a2))) else (some false)
set_option maxHeartbeats 8000000 in
set_option maxRecDepth 100000 in
theorem impl_within.calls (a0 : Int) (a1 : Int) (a2 : Int) (r : Bool) (w : World) (h : impl_within.f a0 a1 a2 = some r) :
  Calls Try.prog 44 #[.int .i64 a0, .int .i64 a1, .int .i64 a2] w fun e w' => e = .returned (.bool r) ∧ Drawn0 w w' := by
 unfold impl_within.f at h; have H := h; clear h
 by_cases c4 : a0 ≥ a1
 ·rw [if_pos c4] at H; have c4b0 : decide (a1 ≤ a0) = true := decide_eq_true c4; clear c4; obtain rfl := Option.some.inj H
  go_enter Try.func44, Try.ntmps44
  go_wp2
  go_ret
  exact ⟨by first | rfl | (simp; done) | (simp [Int.tdiv_eq_ediv_of_nonneg]; done) | (simp [*]; done), by repeat (first | exact Drawn0.refl _ | apply Drawn0.step)⟩
 ·rw [if_neg c4] at H; have c4b0 : decide (a1 ≤ a0) = false := decide_eq_false c4; clear c4; obtain rfl := Option.some.inj H
  go_enter Try.func44, Try.ntmps44
  go_wp2
  go_ret
  exact ⟨by first | rfl | (simp; done) | (simp [Int.tdiv_eq_ediv_of_nonneg]; done) | (simp [*]; done), by repeat (first | exact Drawn0.refl _ | apply Drawn0.step)⟩

/-! ### impl_isLong: function 90 -/
def impl_isLong.f (a0 : Int) : Option (Bool) := (impl_within.f a0 0 4294967295).bind fun t352 => (some t352)
set_option maxHeartbeats 8000000 in
set_option maxRecDepth 100000 in
theorem impl_isLong.calls (a0 : Int) (r : Bool) (w : World) (h : impl_isLong.f a0 = some r) :
  Calls Try.prog 90 #[.int .i64 a0] w fun e w' => e = .returned (.bool r) ∧ Drawn0 w w' := by
 unfold impl_isLong.f at h; have H := h; clear h; replace H := Option.bind_eq_some_iff.mp H; obtain ⟨t0, A20, H⟩ := H
 (try dsimp only at H); have A2 := Gv.a0 A20; clear A20; obtain rfl := Option.some.inj H
 go_enter Try.func90, Try.ntmps90
 go_wp2_with (first | ((with_reducible refine gate_callee (f := 44) rfl ?_); refine goesL_ (some 4) rfl rfl Try.func44 (by kernel_rfl) rfl #[.int .i64 a0, .int .i64 0, .int .i64 4294967295] rfl Gv.lm ?_; (with_reducible refine (impl_within.calls a0 0 4294967295 t0 _ A2.out).mono ?_); rintro e w' ⟨rfl, ⟨nd, rfl⟩⟩; refine ⟨_, rfl, ?_⟩))
 go_ret
 exact ⟨by first | rfl | (simp; done) | (simp [Int.tdiv_eq_ediv_of_nonneg]; done) | (simp [*]; done), by repeat (first | exact Drawn0.refl _ | apply Drawn0.step)⟩

/-! ### impl_AddrOk: function 81 -/
def impl_AddrOk.f (a0_0 : Int) (a0_1 : Int) (a0_2 : Int) (a0_3 : Int) (a0_4 : Int) : Option (Bool) := if a0_0 = 4 then (if a0_1 = 0 then (if a0_2 = 0 then (if a0_3 = 0 then ((impl_isLong.f a0_4).bind fun t354 => (some t354)) else (some false)) else (some false)) else (some false)) else (if a0_0 = 6 then ((impl_isLong.f a0_1).bind fun t355 => (if t355 = true then ((impl_isLong.f a0_2).bind fun t356 => (if t356 = true then ((impl_isLong.f a0_3).bind fun t357 => (if t357 = true then ((impl_isLong.f a0_4).bind fun t358 => (some t358)) else (some false))) else (some false))) else (some false))) else (some false))
set_option maxHeartbeats 8000000 in
set_option maxRecDepth 100000 in
theorem impl_AddrOk.calls (a0_0 : Int) (a0_1 : Int) (a0_2 : Int) (a0_3 : Int) (a0_4 : Int) (r : Bool) (w : World) (h : impl_AddrOk.f a0_0 a0_1 a0_2 a0_3 a0_4 = some r) :
  Calls Try.prog 81 #[.agg #[.int .i64 a0_0, .int .i64 a0_1, .int .i64 a0_2, .int .i64 a0_3, .int .i64 a0_4]] w fun e w' => e = .returned (.bool r) ∧ Below w.heap.size w w' := by
 have hu29 := Try.underlying29; have HB := Gv.a0 (Below.refl w.heap.size w); unfold impl_AddrOk.f at h; have H := h; clear h
 by_cases c2 : a0_0 = 4
 ·rw [if_pos c2] at H; have c2b0 : (a0_0 == 4) = true := beq_iff_eq.mpr c2; have c2b1 : (a0_0 != 4) = false := bne_eq_false_iff_eq.mpr c2; clear c2
  by_cases c3 : a0_1 = 0
  rotate_left
  ·rw [if_neg c3] at H; have c3b0 : (a0_1 == 0) = false := beq_eq_false_iff_ne.mpr c3; have c3b1 : (a0_1 != 0) = true := bne_iff_ne.mpr c3; obtain rfl := Option.some.inj H
   go_enter Try.func81, Try.ntmps81
   go_wp2_with (first | ((with_reducible refine gate_dst (N := 1) rfl ?_); refine Gv.bev 1 29 #[.int .i64 a0_0, .int .i64 a0_1, .int .i64 a0_2, .int .i64 a0_3, .int .i64 a0_4] ?_; intro gb0 hg w13 hbox hb; have BK0 := Gv.a0 (hbox); have GW0 := Gv.a0 ((Gv.ble hg Gv.bw : w.heap.size ≤ gb0)); have GE0 := GW0; replace HB := Gv.hb hb; clear hb hbox hg; obtain ⟨z14_0, z14_1, z14_2, z14_3, z14_4⟩ := Gv.c5 BK0.out; obtain ⟨o14_0, o14_1, o14_2, o14_3, o14_4⟩ := Gv.f5 BK0.out))
   go_ret
   exact ⟨Gv.rt, Gv.bw⟩
  rw [if_pos c3] at H; have c3b0 : (a0_1 == 0) = true := beq_iff_eq.mpr c3; have c3b1 : (a0_1 != 0) = false := bne_eq_false_iff_eq.mpr c3; clear c3
  by_cases c4 : a0_2 = 0
  rotate_left
  ·rw [if_neg c4] at H; have c4b0 : (a0_2 == 0) = false := beq_eq_false_iff_ne.mpr c4; have c4b1 : (a0_2 != 0) = true := bne_iff_ne.mpr c4; obtain rfl := Option.some.inj H
   go_enter Try.func81, Try.ntmps81
   go_wp2_with (first | ((with_reducible refine gate_dst (N := 1) rfl ?_); refine Gv.bev 1 29 #[.int .i64 a0_0, .int .i64 a0_1, .int .i64 a0_2, .int .i64 a0_3, .int .i64 a0_4] ?_; intro gb0 hg w11 hbox hb; have BK0 := Gv.a0 (hbox); have GW0 := Gv.a0 ((Gv.ble hg Gv.bw : w.heap.size ≤ gb0)); have GE0 := GW0; replace HB := Gv.hb hb; clear hb hbox hg; obtain ⟨z12_0, z12_1, z12_2, z12_3, z12_4⟩ := Gv.c5 BK0.out; obtain ⟨o12_0, o12_1, o12_2, o12_3, o12_4⟩ := Gv.f5 BK0.out))
   go_ret
   exact ⟨Gv.rt, Gv.bw⟩
  rw [if_pos c4] at H; have c4b0 : (a0_2 == 0) = true := beq_iff_eq.mpr c4; have c4b1 : (a0_2 != 0) = false := bne_eq_false_iff_eq.mpr c4; clear c4
  by_cases c5 : a0_3 = 0
  ·rw [if_pos c5] at H; have c5b0 : (a0_3 == 0) = true := beq_iff_eq.mpr c5; have c5b1 : (a0_3 != 0) = false := bne_eq_false_iff_eq.mpr c5; clear c5; replace H := Option.bind_eq_some_iff.mp H; obtain ⟨t5, A60, H⟩ := H
   (try dsimp only at H); have A6 := Gv.a0 A60; clear A60; obtain rfl := Option.some.inj H
   go_enter Try.func81, Try.ntmps81
   go_wp2_with (first | ((with_reducible refine gate_dst (N := 1) rfl ?_); refine Gv.bev 1 29 #[.int .i64 a0_0, .int .i64 a0_1, .int .i64 a0_2, .int .i64 a0_3, .int .i64 a0_4] ?_; intro gb0 hg w7 hbox hb; have BK0 := Gv.a0 (hbox); have GW0 := Gv.a0 ((Gv.ble hg Gv.bw : w.heap.size ≤ gb0)); have GE0 := GW0; replace HB := Gv.hb hb; clear hb hbox hg; obtain ⟨z8_0, z8_1, z8_2, z8_3, z8_4⟩ := Gv.c5 BK0.out; obtain ⟨o8_0, o8_1, o8_2, o8_3, o8_4⟩ := Gv.f5 BK0.out) | (go_at_call 90; (with_reducible refine (impl_isLong.calls a0_4 t5 _ A6.out).mono ?_); rintro e w' ⟨rfl, ⟨nd, rfl⟩⟩))
   go_ret
   exact ⟨Gv.rt, Gv.bw⟩
  ·rw [if_neg c5] at H; have c5b0 : (a0_3 == 0) = false := beq_eq_false_iff_ne.mpr c5; have c5b1 : (a0_3 != 0) = true := bne_iff_ne.mpr c5; obtain rfl := Option.some.inj H
   go_enter Try.func81, Try.ntmps81
   go_wp2_with (first | ((with_reducible refine gate_dst (N := 1) rfl ?_); refine Gv.bev 1 29 #[.int .i64 a0_0, .int .i64 a0_1, .int .i64 a0_2, .int .i64 a0_3, .int .i64 a0_4] ?_; intro gb0 hg w9 hbox hb; have BK0 := Gv.a0 (hbox); have GW0 := Gv.a0 ((Gv.ble hg Gv.bw : w.heap.size ≤ gb0)); have GE0 := GW0; replace HB := Gv.hb hb; clear hb hbox hg; obtain ⟨z10_0, z10_1, z10_2, z10_3, z10_4⟩ := Gv.c5 BK0.out; obtain ⟨o10_0, o10_1, o10_2, o10_3, o10_4⟩ := Gv.f5 BK0.out))
   go_ret
   exact ⟨Gv.rt, Gv.bw⟩
 ·rw [if_neg c2] at H; have c2b0 : (a0_0 == 4) = false := beq_eq_false_iff_ne.mpr c2; have c2b1 : (a0_0 != 4) = true := bne_iff_ne.mpr c2
  by_cases c15 : a0_0 = 6
  rotate_left
  ·rw [if_neg c15] at H; have c15b0 : (a0_0 == 6) = false := beq_eq_false_iff_ne.mpr c15; have c15b1 : (a0_0 != 6) = true := bne_iff_ne.mpr c15; obtain rfl := Option.some.inj H
   go_enter Try.func81, Try.ntmps81
   go_wp2_with (first | ((with_reducible refine gate_dst (N := 1) rfl ?_); refine Gv.bev 1 29 #[.int .i64 a0_0, .int .i64 a0_1, .int .i64 a0_2, .int .i64 a0_3, .int .i64 a0_4] ?_; intro gb0 hg w31 hbox hb; have BK0 := Gv.a0 (hbox); have GW0 := Gv.a0 ((Gv.ble hg Gv.bw : w.heap.size ≤ gb0)); have GE0 := GW0; replace HB := Gv.hb hb; clear hb hbox hg; obtain ⟨z32_0, z32_1, z32_2, z32_3, z32_4⟩ := Gv.c5 BK0.out; obtain ⟨o32_0, o32_1, o32_2, o32_3, o32_4⟩ := Gv.f5 BK0.out))
   go_ret
   exact ⟨Gv.rt, Gv.bw⟩

  rw [if_pos c15] at H; have c15b0 : (a0_0 == 6) = true := beq_iff_eq.mpr c15; have c15b1 : (a0_0 != 6) = false := bne_eq_false_iff_eq.mpr c15; clear c15; replace H := Option.bind_eq_some_iff.mp H; obtain ⟨t6, A1, H⟩ := H
  (try dsimp only at H); have A16 := Gv.a0 A1; clear A1
  by_cases c17 : t6 = true
  rotate_left
  ·replace c17 := Bool.eq_false_iff.mpr c17; subst c17; rw [if_neg (show ¬ (false = true) by decide)] at H
   (try dsimp only at H); obtain rfl := Option.some.inj H
   go_enter Try.func81, Try.ntmps81
   go_wp2_with (first | ((with_reducible refine gate_dst (N := 1) rfl ?_); refine Gv.bev 1 29 #[.int .i64 a0_0, .int .i64 a0_1, .int .i64 a0_2, .int .i64 a0_3, .int .i64 a0_4] ?_; intro gb0 hg w29 hbox hb; have BK0 := Gv.a0 (hbox); have GW0 := Gv.a0 ((Gv.ble hg Gv.bw : w.heap.size ≤ gb0)); have GE0 := GW0; replace HB := Gv.hb hb; clear hb hbox hg; obtain ⟨z30_0, z30_1, z30_2, z30_3, z30_4⟩ := Gv.c5 BK0.out; obtain ⟨o30_0, o30_1, o30_2, o30_3, o30_4⟩ := Gv.f5 BK0.out) | ((with_reducible refine gate_callee (f := 90) rfl ?_); refine goesL_ (some 29) rfl rfl Try.func90 (by kernel_rfl) rfl #[.int .i64 a0_1] rfl Gv.lm ?_; (with_reducible refine (impl_isLong.calls a0_1 false _ A16.out).mono ?_); rintro e w' ⟨rfl, ⟨nd, rfl⟩⟩; refine ⟨_, rfl, ?_⟩))
   go_ret
   exact ⟨Gv.rt, Gv.bw⟩
  subst c17; rw [if_pos rfl] at H
  (try dsimp only at H); replace H := Option.bind_eq_some_iff.mp H; obtain ⟨t7, A2, H⟩ := H
  (try dsimp only at H); have A18 := Gv.a0 A2; clear A2
  by_cases c19 : t7 = true
  rotate_left
  ·replace c19 := Bool.eq_false_iff.mpr c19; subst c19; rw [if_neg (show ¬ (false = true) by decide)] at H
   (try dsimp only at H); obtain rfl := Option.some.inj H
   go_enter Try.func81, Try.ntmps81
   go_wp2_with (first | ((with_reducible refine gate_dst (N := 1) rfl ?_); refine Gv.bev 1 29 #[.int .i64 a0_0, .int .i64 a0_1, .int .i64 a0_2, .int .i64 a0_3, .int .i64 a0_4] ?_; intro gb0 hg w27 hbox hb; have BK0 := Gv.a0 (hbox); have GW0 := Gv.a0 ((Gv.ble hg Gv.bw : w.heap.size ≤ gb0)); have GE0 := GW0; replace HB := Gv.hb hb; clear hb hbox hg; obtain ⟨z28_0, z28_1, z28_2, z28_3, z28_4⟩ := Gv.c5 BK0.out; obtain ⟨o28_0, o28_1, o28_2, o28_3, o28_4⟩ := Gv.f5 BK0.out) | ((with_reducible refine gate_callee (f := 90) rfl ?_); refine goesL_ (some 29) rfl rfl Try.func90 (by kernel_rfl) rfl #[.int .i64 a0_1] rfl Gv.lm ?_; (with_reducible refine (impl_isLong.calls a0_1 true _ A16.out).mono ?_); rintro e w' ⟨rfl, ⟨nd, rfl⟩⟩; refine ⟨_, rfl, ?_⟩) | (go_at_call 90; (with_reducible refine (impl_isLong.calls a0_2 false _ A18.out).mono ?_); rintro e w' ⟨rfl, ⟨nd, rfl⟩⟩))
   go_ret
   exact ⟨Gv.rt, Gv.bw⟩
  subst c19; rw [if_pos rfl] at H
  (try dsimp only at H); replace H := Option.bind_eq_some_iff.mp H; obtain ⟨t8, A3, H⟩ := H
  (try dsimp only at H); have A20 := Gv.a0 A3; clear A3
  by_cases c21 : t8 = true
  ·subst c21; rw [if_pos rfl] at H
   (try dsimp only at H); replace H := Option.bind_eq_some_iff.mp H; obtain ⟨t9, A4, H⟩ := H
   (try dsimp only at H); have A22 := Gv.a0 A4; clear A4; obtain rfl := Option.some.inj H
   go_enter Try.func81, Try.ntmps81
   go_wp2_with (first | ((with_reducible refine gate_dst (N := 1) rfl ?_); refine Gv.bev 1 29 #[.int .i64 a0_0, .int .i64 a0_1, .int .i64 a0_2, .int .i64 a0_3, .int .i64 a0_4] ?_; intro gb0 hg w23 hbox hb; have BK0 := Gv.a0 (hbox); have GW0 := Gv.a0 ((Gv.ble hg Gv.bw : w.heap.size ≤ gb0)); have GE0 := GW0; replace HB := Gv.hb hb; clear hb hbox hg; obtain ⟨z24_0, z24_1, z24_2, z24_3, z24_4⟩ := Gv.c5 BK0.out; obtain ⟨o24_0, o24_1, o24_2, o24_3, o24_4⟩ := Gv.f5 BK0.out) | ((with_reducible refine gate_callee (f := 90) rfl ?_); refine goesL_ (some 29) rfl rfl Try.func90 (by kernel_rfl) rfl #[.int .i64 a0_1] rfl Gv.lm ?_; (with_reducible refine (impl_isLong.calls a0_1 true _ A16.out).mono ?_); rintro e w' ⟨rfl, ⟨nd, rfl⟩⟩; refine ⟨_, rfl, ?_⟩) | (go_at_call 90; (with_reducible refine (impl_isLong.calls a0_2 true _ A18.out).mono ?_); rintro e w' ⟨rfl, ⟨nd, rfl⟩⟩) | (go_at_call 90; (with_reducible refine (impl_isLong.calls a0_3 true _ A20.out).mono ?_); rintro e w' ⟨rfl, ⟨nd, rfl⟩⟩) | (go_at_call 90; (with_reducible refine (impl_isLong.calls a0_4 t9 _ A22.out).mono ?_); rintro e w' ⟨rfl, ⟨nd, rfl⟩⟩))
   go_ret
   exact ⟨Gv.rt, Gv.bw⟩
  ·replace c21 := Bool.eq_false_iff.mpr c21; subst c21; rw [if_neg (show ¬ (false = true) by decide)] at H
   (try dsimp only at H); obtain rfl := Option.some.inj H
   go_enter Try.func81, Try.ntmps81
   go_wp2_with (first | ((with_reducible refine gate_dst (N := 1) rfl ?_); refine Gv.bev 1 29 #[.int .i64 a0_0, .int .i64 a0_1, .int .i64 a0_2, .int .i64 a0_3, .int .i64 a0_4] ?_; intro gb0 hg w25 hbox hb; have BK0 := Gv.a0 (hbox); have GW0 := Gv.a0 ((Gv.ble hg Gv.bw : w.heap.size ≤ gb0)); have GE0 := GW0; replace HB := Gv.hb hb; clear hb hbox hg; obtain ⟨z26_0, z26_1, z26_2, z26_3, z26_4⟩ := Gv.c5 BK0.out; obtain ⟨o26_0, o26_1, o26_2, o26_3, o26_4⟩ := Gv.f5 BK0.out) | ((with_reducible refine gate_callee (f := 90) rfl ?_); refine goesL_ (some 29) rfl rfl Try.func90 (by kernel_rfl) rfl #[.int .i64 a0_1] rfl Gv.lm ?_; (with_reducible refine (impl_isLong.calls a0_1 true _ A16.out).mono ?_); rintro e w' ⟨rfl, ⟨nd, rfl⟩⟩; refine ⟨_, rfl, ?_⟩) | (go_at_call 90; (with_reducible refine (impl_isLong.calls a0_2 true _ A18.out).mono ?_); rintro e w' ⟨rfl, ⟨nd, rfl⟩⟩) | (go_at_call 90; (with_reducible refine (impl_isLong.calls a0_3 false _ A20.out).mono ?_); rintro e w' ⟨rfl, ⟨nd, rfl⟩⟩))
   go_ret
   exact ⟨Gv.rt, Gv.bw⟩
/-! ### impl_areBoth: function 68 -/
def impl_areBoth.f (a0_0 : Int) (a0_1 : Int) (a0_2 : Int) (a0_3 : Int) (a0_4 : Int) (a1_0 : Int) (a1_1 : Int) (a1_2 : Int) (a1_3 : Int) (a1_4 : Int) : Option (Bool) := (impl_AddrOk.f a0_0 a0_1 a0_2 a0_3 a0_4).bind fun t361 => (if t361 = true then ((impl_AddrOk.f a1_0 a1_1 a1_2 a1_3 a1_4).bind fun t362 => (if t362 = true then (some (a0_0 == a1_0)) else (some false))) else (some false))
set_option maxHeartbeats 8000000 in
set_option maxRecDepth 100000 in
theorem impl_areBoth.calls (a0_0 : Int) (a0_1 : Int) (a0_2 : Int) (a0_3 : Int) (a0_4 : Int) (a1_0 : Int) (a1_1 : Int) (a1_2 : Int) (a1_3 : Int) (a1_4 : Int) (r : Bool) (w : World) (h : impl_areBoth.f a0_0 a0_1 a0_2 a0_3 a0_4 a1_0 a1_1 a1_2 a1_3 a1_4 = some r) :
  Calls Try.prog 68 #[.agg #[.int .i64 a0_0, .int .i64 a0_1, .int .i64 a0_2, .int .i64 a0_3, .int .i64 a0_4], .agg #[.int .i64 a1_0, .int .i64 a1_1, .int .i64 a1_2, .int .i64 a1_3, .int .i64 a1_4]] w fun e w' => e = .returned (.bool r) ∧ Below w.heap.size w w' := by
 have hu29 := Try.underlying29; have HB := Gv.a0 (Below.refl w.heap.size w); unfold impl_areBoth.f at h; have H := h; clear h; replace H := Option.bind_eq_some_iff.mp H; obtain ⟨t2, A30, H⟩ := H
 (try dsimp only at H); have A3 := Gv.a0 A30; clear A30
 by_cases c4 : t2 = true
 rotate_left
 ·replace c4 := Bool.eq_false_iff.mpr c4; subst c4; rw [if_neg (show ¬ (false = true) by decide)] at H
  (try dsimp only at H); obtain rfl := Option.some.inj H
  go_enter Try.func68, Try.ntmps68
  go_wp2_with (first | ((with_reducible refine gate_dst (N := 2) rfl ?_); refine Gv.bev 2 29 #[.int .i64 a0_0, .int .i64 a0_1, .int .i64 a0_2, .int .i64 a0_3, .int .i64 a0_4] ?_; intro gb0 hg w23 hbox hb; have BK0 := Gv.a0 (hbox); have GW0 := Gv.a0 ((Gv.ble hg Gv.bw : w.heap.size ≤ gb0)); have GE0 := GW0; replace HB := Gv.hb hb; clear hb hbox hg) | ((with_reducible refine gate_dst (N := 3) rfl ?_); refine Gv.bev 3 29 #[.int .i64 a1_0, .int .i64 a1_1, .int .i64 a1_2, .int .i64 a1_3, .int .i64 a1_4] ?_; intro gb1 hg w24 hbox hb; have BK1 := Gv.a0 (hbox); have GW1 := Gv.a0 ((Gv.ble hg Gv.bw : w.heap.size ≤ gb1)); have GE1 := GW1; replace HB := Gv.hb hb; have NB0_1 := Gv.a0 ((Gv.nlt hg (Gv.kb BK0.out) : gb0 ≠ gb1)); have NB1_0 := Gv.a0 ((Gv.ngt hg (Gv.kb BK0.out) : gb1 ≠ gb0)); replace BK0 := Gv.b1 BK0 hb; clear hb hbox hg; have hnb25 := NB0_1.out; have hnc25 := NB1_0.out; obtain ⟨z26_0, z26_1, z26_2, z26_3, z26_4⟩ := Gv.c5 BK0.out; obtain ⟨o26_0, o26_1, o26_2, o26_3, o26_4⟩ := Gv.f5 BK0.out) | ((with_reducible refine gate_callee (f := 81) rfl ?_); refine goesL_ (some 6) rfl rfl Try.func81 (by kernel_rfl) rfl #[.agg #[.int .i64 a0_0, .int .i64 a0_1, .int .i64 a0_2, .int .i64 a0_3, .int .i64 a0_4]] rfl Gv.lm ?_; (with_reducible refine (impl_AddrOk.calls a0_0 a0_1 a0_2 a0_3 a0_4 false _ A3.out).mono ?_); rintro e w27 ⟨rfl, hb⟩; refine ⟨_, rfl, ?_⟩; replace BK0 := Gv.b1 BK0 hb; replace BK1 := Gv.b1 BK1 hb; replace HB := Gv.hb hb; clear hb))
  go_ret
  exact ⟨Gv.rt, Gv.bw⟩

 subst c4; rw [if_pos rfl] at H
 (try dsimp only at H); replace H := Option.bind_eq_some_iff.mp H; obtain ⟨t3, A50, H⟩ := H
 (try dsimp only at H); have A5 := Gv.a0 A50; clear A50
 by_cases c6 : t3 = true
 ·subst c6; rw [if_pos rfl] at H
  (try dsimp only at H); obtain rfl := Option.some.inj H
  go_enter Try.func68, Try.ntmps68
  go_wp2_with (first | ((with_reducible refine gate_dst (N := 2) rfl ?_); refine Gv.bev 2 29 #[.int .i64 a0_0, .int .i64 a0_1, .int .i64 a0_2, .int .i64 a0_3, .int .i64 a0_4] ?_; intro gb0 hg w7 hbox hb; have BK0 := Gv.a0 (hbox); have GW0 := Gv.a0 ((Gv.ble hg Gv.bw : w.heap.size ≤ gb0)); have GE0 := GW0; replace HB := Gv.hb hb; clear hb hbox hg) | ((with_reducible refine gate_dst (N := 3) rfl ?_); refine Gv.bev 3 29 #[.int .i64 a1_0, .int .i64 a1_1, .int .i64 a1_2, .int .i64 a1_3, .int .i64 a1_4] ?_; intro gb1 hg w8 hbox hb; have BK1 := Gv.a0 (hbox); have GW1 := Gv.a0 ((Gv.ble hg Gv.bw : w.heap.size ≤ gb1)); have GE1 := GW1; replace HB := Gv.hb hb; have NB0_1 := Gv.a0 ((Gv.nlt hg (Gv.kb BK0.out) : gb0 ≠ gb1)); have NB1_0 := Gv.a0 ((Gv.ngt hg (Gv.kb BK0.out) : gb1 ≠ gb0)); replace BK0 := Gv.b1 BK0 hb; clear hb hbox hg; have hnb9 := NB0_1.out; have hnc9 := NB1_0.out; obtain ⟨z10_0, z10_1, z10_2, z10_3, z10_4⟩ := Gv.c5 BK0.out; obtain ⟨o10_0, o10_1, o10_2, o10_3, o10_4⟩ := Gv.f5 BK0.out) | ((with_reducible refine gate_callee (f := 81) rfl ?_); refine goesL_ (some 6) rfl rfl Try.func81 (by kernel_rfl) rfl #[.agg #[.int .i64 a0_0, .int .i64 a0_1, .int .i64 a0_2, .int .i64 a0_3, .int .i64 a0_4]] rfl Gv.lm ?_; (with_reducible refine (impl_AddrOk.calls a0_0 a0_1 a0_2 a0_3 a0_4 true _ A3.out).mono ?_); rintro e w11 ⟨rfl, hb⟩; refine ⟨_, rfl, ?_⟩; replace BK0 := Gv.b1 BK0 hb; replace BK1 := Gv.b1 BK1 hb; replace HB := Gv.hb hb; clear hb; obtain ⟨z12_0, z12_1, z12_2, z12_3, z12_4⟩ := Gv.c5 BK1.out; obtain ⟨o12_0, o12_1, o12_2, o12_3, o12_4⟩ := Gv.f5 BK1.out) | (go_at_call 81; (with_reducible refine (impl_AddrOk.calls a1_0 a1_1 a1_2 a1_3 a1_4 true _ A5.out).mono ?_); rintro e w13 ⟨rfl, hb⟩; replace BK0 := Gv.b1 BK0 hb; replace BK1 := Gv.b1 BK1 hb; replace HB := Gv.hb hb; clear hb; obtain ⟨z14_0, z14_1, z14_2, z14_3, z14_4⟩ := Gv.c5 BK0.out; obtain ⟨o14_0, o14_1, o14_2, o14_3, o14_4⟩ := Gv.f5 BK0.out; obtain ⟨z15_0, z15_1, z15_2, z15_3, z15_4⟩ := Gv.c5 BK1.out; obtain ⟨o15_0, o15_1, o15_2, o15_3, o15_4⟩ := Gv.f5 BK1.out))
  go_ret
  exact ⟨Gv.rt, Gv.bw⟩
 ·replace c6 := Bool.eq_false_iff.mpr c6; subst c6; rw [if_neg (show ¬ (false = true) by decide)] at H
  (try dsimp only at H); obtain rfl := Option.some.inj H
  go_enter Try.func68, Try.ntmps68
  go_wp2_with (first | ((with_reducible refine gate_dst (N := 2) rfl ?_); refine Gv.bev 2 29 #[.int .i64 a0_0, .int .i64 a0_1, .int .i64 a0_2, .int .i64 a0_3, .int .i64 a0_4] ?_; intro gb0 hg w16 hbox hb; have BK0 := Gv.a0 (hbox); have GW0 := Gv.a0 ((Gv.ble hg Gv.bw : w.heap.size ≤ gb0)); have GE0 := GW0; replace HB := Gv.hb hb; clear hb hbox hg) | ((with_reducible refine gate_dst (N := 3) rfl ?_); refine Gv.bev 3 29 #[.int .i64 a1_0, .int .i64 a1_1, .int .i64 a1_2, .int .i64 a1_3, .int .i64 a1_4] ?_; intro gb1 hg w17 hbox hb; have BK1 := Gv.a0 (hbox); have GW1 := Gv.a0 ((Gv.ble hg Gv.bw : w.heap.size ≤ gb1)); have GE1 := GW1; replace HB := Gv.hb hb; have NB0_1 := Gv.a0 ((Gv.nlt hg (Gv.kb BK0.out) : gb0 ≠ gb1)); have NB1_0 := Gv.a0 ((Gv.ngt hg (Gv.kb BK0.out) : gb1 ≠ gb0)); replace BK0 := Gv.b1 BK0 hb; clear hb hbox hg; have hnb18 := NB0_1.out; have hnc18 := NB1_0.out; obtain ⟨z19_0, z19_1, z19_2, z19_3, z19_4⟩ := Gv.c5 BK0.out; obtain ⟨o19_0, o19_1, o19_2, o19_3, o19_4⟩ := Gv.f5 BK0.out) | ((with_reducible refine gate_callee (f := 81) rfl ?_); refine goesL_ (some 6) rfl rfl Try.func81 (by kernel_rfl) rfl #[.agg #[.int .i64 a0_0, .int .i64 a0_1, .int .i64 a0_2, .int .i64 a0_3, .int .i64 a0_4]] rfl Gv.lm ?_; (with_reducible refine (impl_AddrOk.calls a0_0 a0_1 a0_2 a0_3 a0_4 true _ A3.out).mono ?_); rintro e w20 ⟨rfl, hb⟩; refine ⟨_, rfl, ?_⟩; replace BK0 := Gv.b1 BK0 hb; replace BK1 := Gv.b1 BK1 hb; replace HB := Gv.hb hb; clear hb; obtain ⟨z21_0, z21_1, z21_2, z21_3, z21_4⟩ := Gv.c5 BK1.out; obtain ⟨o21_0, o21_1, o21_2, o21_3, o21_4⟩ := Gv.f5 BK1.out) | (go_at_call 81; (with_reducible refine (impl_AddrOk.calls a1_0 a1_1 a1_2 a1_3 a1_4 false _ A5.out).mono ?_); rintro e w22 ⟨rfl, hb⟩; replace BK0 := Gv.b1 BK0 hb; replace BK1 := Gv.b1 BK1 hb; replace HB := Gv.hb hb; clear hb))
  go_ret
  exact ⟨Gv.rt, Gv.bw⟩
/-! ### impl_isByte: function 69 -/
def impl_isByte.f (a0 : Int) : Option (Bool) := (impl_within.f a0 0 255).bind fun t363 => (some t363)
set_option maxHeartbeats 8000000 in
set_option maxRecDepth 100000 in
theorem impl_isByte.calls (a0 : Int) (r : Bool) (w : World) (h : impl_isByte.f a0 = some r) :
  Calls Try.prog 69 #[.int .i64 a0] w fun e w' => e = .returned (.bool r) ∧ Drawn0 w w' := by
 unfold impl_isByte.f at h; have H := h; clear h; replace H := Option.bind_eq_some_iff.mp H; obtain ⟨t0, A20, H⟩ := H
 (try dsimp only at H); have A2 := Gv.a0 A20; clear A20; obtain rfl := Option.some.inj H
 go_enter Try.func69, Try.ntmps69
 go_wp2_with (first | ((with_reducible refine gate_callee (f := 44) rfl ?_); refine goesL_ (some 4) rfl rfl Try.func44 (by kernel_rfl) rfl #[.int .i64 a0, .int .i64 0, .int .i64 255] rfl Gv.lm ?_; (with_reducible refine (impl_within.calls a0 0 255 t0 _ A2.out).mono ?_); rintro e w' ⟨rfl, ⟨nd, rfl⟩⟩; refine ⟨_, rfl, ?_⟩))
 go_ret
 exact ⟨by first | rfl | (simp; done) | (simp [Int.tdiv_eq_ediv_of_nonneg]; done) | (simp [*]; done), by repeat (first | exact Drawn0.refl _ | apply Drawn0.step)⟩

/-! ### impl_isWord: function 82 -/
def impl_isWord.f (a0 : Int) : Option (Bool) := (impl_within.f a0 0 65535).bind fun t364 => (some t364)
set_option maxHeartbeats 8000000 in
set_option maxRecDepth 100000 in
theorem impl_isWord.calls (a0 : Int) (r : Bool) (w : World) (h : impl_isWord.f a0 = some r) :
  Calls Try.prog 82 #[.int .i64 a0] w fun e w' => e = .returned (.bool r) ∧ Drawn0 w w' := by
 unfold impl_isWord.f at h; have H := h; clear h; replace H := Option.bind_eq_some_iff.mp H; obtain ⟨t0, A20, H⟩ := H
 (try dsimp only at H); have A2 := Gv.a0 A20; clear A20; obtain rfl := Option.some.inj H
 go_enter Try.func82, Try.ntmps82
 go_wp2_with (first | ((with_reducible refine gate_callee (f := 44) rfl ?_); refine goesL_ (some 4) rfl rfl Try.func44 (by kernel_rfl) rfl #[.int .i64 a0, .int .i64 0, .int .i64 65535] rfl Gv.lm ?_; (with_reducible refine (impl_within.calls a0 0 65535 t0 _ A2.out).mono ?_); rintro e w' ⟨rfl, ⟨nd, rfl⟩⟩; refine ⟨_, rfl, ?_⟩))
 go_ret
 exact ⟨by first | rfl | (simp; done) | (simp [Int.tdiv_eq_ediv_of_nonneg]; done) | (simp [*]; done), by repeat (first | exact Drawn0.refl _ | apply Drawn0.step)⟩

/-! ### impl_areWords: function 70 -/
def impl_areWords.l0 : Nat → List Int → Int → Int → Option (Bool)
 | 0, _, _, _ => none
 | k + 1, x5, x6, x7 => if x7 < x6 then (if 0 ≤ x7 then (if x7 < (x5.length : Int) then ((impl_isWord.f (rd x5 x7)).bind fun t366 => (if t366 = true then (impl_areWords.l0 k x5 x6 (wrap64 (x7 + 1))) else (some false))) else (none)) else (none)) else (some true)
def impl_areWords.f (k : Nat) (l0 : List Int) : Option (Bool) := impl_areWords.l0 k l0 (l0.length : Int) 0
set_option maxHeartbeats 8000000 in
set_option maxRecDepth 100000 in
theorem impl_areWords.calls (k : Nat) (A0 : Option Addr) (c0 : Nat) (l0 : List Int) (r : Bool) (w : World) (hr0 : Kd.C (Kd.int .i64) w A0 l0.length l0) (hc0 : l0.length ≤ c0) (h : impl_areWords.f k l0 = some r) :
  Calls Try.prog 70 #[.slice A0 l0.length c0] w fun e w' => e = .returned (.bool r) ∧ Drawn0 w w' := by
 have HR0 := Gv.a0 hr0; have HC0 := Gv.a0 hc0; clear hr0 hc0; unfold impl_areWords.f at h; have H := h; clear h; have H' := Gv.a0 H; clear H
 go_enter Try.func70, Try.ntmps70
 go_wp2
 go_loopg [7] k (fun kq v7 w' => ∃ (x7_1 : Int), v7 = .int .i64 x7_1 ∧ Aside0 (impl_areWords.l0 kq l0 (l0.length : Int) x7_1 = some r) ∧ Aside0 (kq ≤ k) ∧ Drawn0 w w')
 case atStart => exact ⟨(0), Gv.rq, H', ⟨Nat.le_refl _⟩, by repeat (first | exact Drawn0.refl _ | apply Drawn0.step)⟩
 case round =>
  clear H'; obtain ⟨x7_1, rfl, HA, HK1, ⟨m1, rfl⟩⟩ := hrel; cases gk with
  | zero => exact absurd HA.out (by simp [impl_areWords.l0])
  | succ k1 =>
   have H := HA.out; clear HA; simp only [impl_areWords.l0] at H
   by_cases c2 : x7_1 < (l0.length : Int)
   rotate_left
   ·rw [if_neg c2] at H; have c2b0 := decide_eq_false c2; clear c2; obtain rfl := Option.some.inj H
    go_wp2
    go_ret
    exact ⟨by first | rfl | (simp; done) | (simp [Int.tdiv_eq_ediv_of_nonneg]; done) | (simp [*]; done), by repeat (first | exact Drawn0.refl _ | apply Drawn0.step)⟩

   rw [if_pos c2] at H; have c2b0 := decide_eq_true c2; clear c2
   by_cases c3 : 0 ≤ x7_1
   rotate_left
   ·rw [if_neg c3] at H; cases H
   rw [if_pos c3] at H; have c3b0 := decide_eq_true c3; clear c3
   by_cases c4 : x7_1 < (l0.length : Int)
   rotate_left
   ·rw [if_neg c4] at H; cases H
   rw [if_pos c4] at H; have c4b0 := decide_eq_true c4; clear c4; replace H := Option.bind_eq_some_iff.mp H; obtain ⟨t1, A50, H⟩ := H
   (try dsimp only at H); have A5 := Gv.a0 A50; clear A50
   by_cases c6 : t1 = true
   ·subst c6; rw [if_pos rfl] at H
    (try dsimp only at H); have H' := Gv.a0 H; clear H; have p0 : 0 ≤ (x7_1 : Int) := Gv.od; have q0 : x7_1 < (l0.length : Int) := Gv.od; obtain ⟨ad0, e0, u0_0⟩ := Kd.at_int HR0.out x7_1 p0 q0; cases e0; replace p0 := eq_true p0; replace q0 := eq_true q0
    go_wp2_with (first | ((with_reducible refine gate_callee (f := 82) rfl ?_); refine goesL_ (some 12) rfl rfl Try.func82 (by kernel_rfl) rfl #[.int .i64 (rd l0 x7_1)] rfl Gv.lm ?_; (with_reducible refine (impl_isWord.calls (rd l0 x7_1) true _ A5.out).mono ?_); rintro e w' ⟨rfl, ⟨nd, rfl⟩⟩; refine ⟨_, rfl, ?_⟩))
    go_roundg k1
    case measure => have := HK1.out; omega
    case rel => exact ⟨(wrap64 (x7_1 + 1)), Gv.rq, H', ⟨by have := HK1.out; omega⟩, by repeat (first | exact Drawn0.refl _ | apply Drawn0.step)⟩
   ·replace c6 := Bool.eq_false_iff.mpr c6; subst c6; rw [if_neg (show ¬ (false = true) by decide)] at H
    (try dsimp only at H); obtain rfl := Option.some.inj H; have p0 : 0 ≤ (x7_1 : Int) := Gv.od; have q0 : x7_1 < (l0.length : Int) := Gv.od; obtain ⟨ad0, e0, u0_0⟩ := Kd.at_int HR0.out x7_1 p0 q0; cases e0; replace p0 := eq_true p0; replace q0 := eq_true q0
    go_wp2_with (first | ((with_reducible refine gate_callee (f := 82) rfl ?_); refine goesL_ (some 12) rfl rfl Try.func82 (by kernel_rfl) rfl #[.int .i64 (rd l0 x7_1)] rfl Gv.lm ?_; (with_reducible refine (impl_isWord.calls (rd l0 x7_1) false _ A5.out).mono ?_); rintro e w' ⟨rfl, ⟨nd, rfl⟩⟩; refine ⟨_, rfl, ?_⟩))
    go_ret
    exact ⟨by first | rfl | (simp; done) | (simp [Int.tdiv_eq_ediv_of_nonneg]; done) | (simp [*]; done), by repeat (first | exact Drawn0.refl _ | apply Drawn0.step)⟩
/-! ### impl_KeyOk: function 45 -/
def impl_KeyOk.f (k : Nat) (a0_0 : Int) (a0_1 : Int) (a0_2 : Int) (a0_3 : Int) (a0_4 : Int) (a0_5 : Int) (a0_6 : Int) (a0_7 : Int) (a0_8 : Int) (a0_9 : Int) (a0_10 : Int) (a0_11 : Int) (a0_12 : Int) : Option (Bool) := (impl_areBoth.f a0_0 a0_1 a0_2 a0_3 a0_4 a0_5 a0_6 a0_7 a0_8 a0_9).bind fun t368 => (if t368 = true then ((impl_isByte.f a0_10).bind fun t369 => (if t369 = true then ((impl_areWords.f k (([a0_11, a0_12] : List Int))).bind fun t373 => (some t373)) else (some false))) else (some false))
set_option maxHeartbeats 8000000 in
set_option maxRecDepth 100000 in
theorem impl_KeyOk.calls (k : Nat) (a0_0 : Int) (a0_1 : Int) (a0_2 : Int) (a0_3 : Int) (a0_4 : Int) (a0_5 : Int) (a0_6 : Int) (a0_7 : Int) (a0_8 : Int) (a0_9 : Int) (a0_10 : Int) (a0_11 : Int) (a0_12 : Int) (r : Bool) (w : World) (h : impl_KeyOk.f k a0_0 a0_1 a0_2 a0_3 a0_4 a0_5 a0_6 a0_7 a0_8 a0_9 a0_10 a0_11 a0_12 = some r) :
  Calls Try.prog 45 #[.agg #[.int .i64 a0_0, .int .i64 a0_1, .int .i64 a0_2, .int .i64 a0_3, .int .i64 a0_4, .int .i64 a0_5, .int .i64 a0_6, .int .i64 a0_7, .int .i64 a0_8, .int .i64 a0_9, .int .i64 a0_10, .int .i64 a0_11, .int .i64 a0_12]] w fun e w' => e = .returned (.bool r) ∧ Below w.heap.size w w' := by
 have hu31 := Try.underlying31; have hu29 := Try.underlying29; have HB := Gv.a0 (Below.refl w.heap.size w); unfold impl_KeyOk.f at h; have H := h; clear h; replace H := Option.bind_eq_some_iff.mp H; obtain ⟨t4, A20, H⟩ := H
 (try dsimp only at H); have A2 := Gv.a0 A20; clear A20
 by_cases c3 : t4 = true
 rotate_left
 ·replace c3 := Bool.eq_false_iff.mpr c3; subst c3; rw [if_neg (show ¬ (false = true) by decide)] at H
  (try dsimp only at H); obtain rfl := Option.some.inj H
  go_enter Try.func45, Try.ntmps45
  go_wp2_with (first | ((with_reducible refine gate_dst (N := 1) rfl ?_); (try (refine gate_guard (by rfl) ?_; dsimp only)); refine Gv.bev 1 31 #[.int .i64 a0_0, .int .i64 a0_1, .int .i64 a0_2, .int .i64 a0_3, .int .i64 a0_4, .int .i64 a0_5, .int .i64 a0_6, .int .i64 a0_7, .int .i64 a0_8, .int .i64 a0_9, .int .i64 a0_10, .int .i64 a0_11, .int .i64 a0_12] ?_; intro gb0 hg w18 hbox hb; have BK0 := Gv.a0 (hbox); have GW0 := Gv.a0 ((Gv.ble hg Gv.bw : w.heap.size ≤ gb0)); have GE0 := GW0; replace HB := Gv.hb hb; clear hb hbox hg; obtain ⟨z19_0, z19_1, z19_2, z19_3, z19_4, z19_5, z19_6, z19_7, z19_8, z19_9, z19_10, z19_11, z19_12⟩ := Gv.c13 BK0.out; obtain ⟨o19_0, o19_1, o19_2, o19_3, o19_4, o19_5, o19_6, o19_7, o19_8, o19_9, o19_10, o19_11, o19_12⟩ := Gv.f13 BK0.out) | ((with_reducible refine gate_callee (f := 68) rfl ?_); refine goesL_ (some 7) rfl rfl Try.func68 (by kernel_rfl) rfl #[.agg #[.int .i64 a0_0, .int .i64 a0_1, .int .i64 a0_2, .int .i64 a0_3, .int .i64 a0_4], .agg #[.int .i64 a0_5, .int .i64 a0_6, .int .i64 a0_7, .int .i64 a0_8, .int .i64 a0_9]] rfl Gv.lm ?_; (with_reducible refine (impl_areBoth.calls a0_0 a0_1 a0_2 a0_3 a0_4 a0_5 a0_6 a0_7 a0_8 a0_9 false _ A2.out).mono ?_); rintro e w20 ⟨rfl, hb⟩; refine ⟨_, rfl, ?_⟩; replace BK0 := Gv.b1 BK0 hb; replace HB := Gv.hb hb; clear hb))
  go_ret
  exact ⟨Gv.rt, Gv.bw⟩

 subst c3; rw [if_pos rfl] at H
 (try dsimp only at H); replace H := Option.bind_eq_some_iff.mp H; obtain ⟨t5, A40, H⟩ := H
 (try dsimp only at H); have A4 := Gv.a0 A40; clear A40
 by_cases c5 : t5 = true
 ·subst c5; rw [if_pos rfl] at H
  (try dsimp only at H); obtain ⟨y1, hy1⟩ : ∃ y_ : List Int, y_ = (([a0_11, a0_12] : List Int)) := ⟨_, rfl⟩
  replace H : ((impl_areWords.f k y1).bind fun t2 => (some t2)) = some r := by first | (rw [hy1]; with_reducible exact H) | (have H2_ := (Option.bind_some _ _).symm.trans H; rw [hy1]; with_reducible exact H2_) | (have H2_ := (Option.bind_some _ _).symm.trans H; with_reducible exact H2_) | with_reducible exact H | (rw [hy1]; exact H) | exact H
  have Ny1 := Gv.a0 hy1; clear hy1; replace H := Option.bind_eq_some_iff.mp H; obtain ⟨t2, A60, H⟩ := H
  (try dsimp only at H); have A6 := Gv.a0 A60; clear A60; obtain rfl := Option.some.inj H
  go_enter Try.func45, Try.ntmps45
  go_wp2_with (first | ((with_reducible refine gate_dst (N := 1) rfl ?_); (try (refine gate_guard (by rfl) ?_; dsimp only)); refine Gv.bev 1 31 #[.int .i64 a0_0, .int .i64 a0_1, .int .i64 a0_2, .int .i64 a0_3, .int .i64 a0_4, .int .i64 a0_5, .int .i64 a0_6, .int .i64 a0_7, .int .i64 a0_8, .int .i64 a0_9, .int .i64 a0_10, .int .i64 a0_11, .int .i64 a0_12] ?_; intro gb0 hg w7 hbox hb; have BK0 := Gv.a0 (hbox); have GW0 := Gv.a0 ((Gv.ble hg Gv.bw : w.heap.size ≤ gb0)); have GE0 := GW0; replace HB := Gv.hb hb; clear hb hbox hg; obtain ⟨z8_0, z8_1, z8_2, z8_3, z8_4, z8_5, z8_6, z8_7, z8_8, z8_9, z8_10, z8_11, z8_12⟩ := Gv.c13 BK0.out; obtain ⟨o8_0, o8_1, o8_2, o8_3, o8_4, o8_5, o8_6, o8_7, o8_8, o8_9, o8_10, o8_11, o8_12⟩ := Gv.f13 BK0.out) | ((with_reducible refine gate_callee (f := 68) rfl ?_); refine goesL_ (some 7) rfl rfl Try.func68 (by kernel_rfl) rfl #[.agg #[.int .i64 a0_0, .int .i64 a0_1, .int .i64 a0_2, .int .i64 a0_3, .int .i64 a0_4], .agg #[.int .i64 a0_5, .int .i64 a0_6, .int .i64 a0_7, .int .i64 a0_8, .int .i64 a0_9]] rfl Gv.lm ?_; (with_reducible refine (impl_areBoth.calls a0_0 a0_1 a0_2 a0_3 a0_4 a0_5 a0_6 a0_7 a0_8 a0_9 true _ A2.out).mono ?_); rintro e w9 ⟨rfl, hb⟩; refine ⟨_, rfl, ?_⟩; replace BK0 := Gv.b1 BK0 hb; replace HB := Gv.hb hb; clear hb; obtain ⟨z10_0, z10_1, z10_2, z10_3, z10_4, z10_5, z10_6, z10_7, z10_8, z10_9, z10_10, z10_11, z10_12⟩ := Gv.c13 BK0.out; obtain ⟨o10_0, o10_1, o10_2, o10_3, o10_4, o10_5, o10_6, o10_7, o10_8, o10_9, o10_10, o10_11, o10_12⟩ := Gv.f13 BK0.out) | (go_at_call 69; (with_reducible refine (impl_isByte.calls a0_10 true _ A4.out).mono ?_); rintro e w' ⟨rfl, ⟨nd, rfl⟩⟩) | ((with_reducible refine gate_dst (N := 18) rfl ?_); (try (refine gate_guard (by rfl) ?_; dsimp only)); refine Kd.R_lit (Kd.int .i64) _ 3 ?hg (N := 18) ?hd (xs := ([a0_11, a0_12] : List Int)) (inner := [.int .i64 a0_11, .int .i64 a0_12]) (ok := fun _ => True) (okp := fun _ => True) ?hr ?hp (fun _ hk => hk) trivial (Below.refl _ _) (Nat.le_refl _) (by simp) ?_; (case hd => rfl); (case hg => rfl); (case hr => first | (go_simp; done) | (go_simp; rfl)); (case hp => exact (Reps.one (show Kd.M (Kd.int .i64) _ _ _ a0_11 [.int .i64 a0_11] from rfl) (Reps.one (show Kd.M (Kd.int .i64) _ _ _ a0_12 [.int .i64 a0_12] from rfl) (Reps.none _ _)))); intro v6 w11 ho12 hb hg_ hnew_; clear hg_ hnew_; (first | rw [← Ny1.out] at ho12 | (simp only [Int.reduceToNat] at ho12; rw [← Ny1.out] at ho12)); have HO3 := Gv.a0 (Kd.R_lower ho12 (below_size Gv.bw)); replace BK0 := Gv.b1 BK0 hb; replace HB := Gv.hb hb; clear hb ho12; obtain ⟨Ao13, co13, eo13⟩ := Kd.R_slice HO3.out; subst eo13) | (go_at_call 70; (with_reducible refine (impl_areWords.calls k _ _ y1 t2 _ ?side1 ?side2 A6.out).mono ?_); (case side1 => repeat (first | exact (Kd.R_reads' HO3.out).2.2 | (with_reducible refine Kd.C_alloc ?_ _) | (with_reducible refine Kd.C_drewN ?_ _) | (with_reducible refine Kd.C_drew ?_))); (case side2 => exact (Kd.R_reads' HO3.out).2.1); rintro e w' ⟨rfl, ⟨nd, rfl⟩⟩))
  go_ret
  exact ⟨Gv.rt, Gv.bw⟩
 ·replace c5 := Bool.eq_false_iff.mpr c5; subst c5; rw [if_neg (show ¬ (false = true) by decide)] at H
  (try dsimp only at H); obtain rfl := Option.some.inj H
  go_enter Try.func45, Try.ntmps45
  go_wp2_with (first | ((with_reducible refine gate_dst (N := 1) rfl ?_); (try (refine gate_guard (by rfl) ?_; dsimp only)); refine Gv.bev 1 31 #[.int .i64 a0_0, .int .i64 a0_1, .int .i64 a0_2, .int .i64 a0_3, .int .i64 a0_4, .int .i64 a0_5, .int .i64 a0_6, .int .i64 a0_7, .int .i64 a0_8, .int .i64 a0_9, .int .i64 a0_10, .int .i64 a0_11, .int .i64 a0_12] ?_; intro gb0 hg w14 hbox hb; have BK0 := Gv.a0 (hbox); have GW0 := Gv.a0 ((Gv.ble hg Gv.bw : w.heap.size ≤ gb0)); have GE0 := GW0; replace HB := Gv.hb hb; clear hb hbox hg; obtain ⟨z15_0, z15_1, z15_2, z15_3, z15_4, z15_5, z15_6, z15_7, z15_8, z15_9, z15_10, z15_11, z15_12⟩ := Gv.c13 BK0.out; obtain ⟨o15_0, o15_1, o15_2, o15_3, o15_4, o15_5, o15_6, o15_7, o15_8, o15_9, o15_10, o15_11, o15_12⟩ := Gv.f13 BK0.out) | ((with_reducible refine gate_callee (f := 68) rfl ?_); refine goesL_ (some 7) rfl rfl Try.func68 (by kernel_rfl) rfl #[.agg #[.int .i64 a0_0, .int .i64 a0_1, .int .i64 a0_2, .int .i64 a0_3, .int .i64 a0_4], .agg #[.int .i64 a0_5, .int .i64 a0_6, .int .i64 a0_7, .int .i64 a0_8, .int .i64 a0_9]] rfl Gv.lm ?_; (with_reducible refine (impl_areBoth.calls a0_0 a0_1 a0_2 a0_3 a0_4 a0_5 a0_6 a0_7 a0_8 a0_9 true _ A2.out).mono ?_); rintro e w16 ⟨rfl, hb⟩; refine ⟨_, rfl, ?_⟩; replace BK0 := Gv.b1 BK0 hb; replace HB := Gv.hb hb; clear hb; obtain ⟨z17_0, z17_1, z17_2, z17_3, z17_4, z17_5, z17_6, z17_7, z17_8, z17_9, z17_10, z17_11, z17_12⟩ := Gv.c13 BK0.out; obtain ⟨o17_0, o17_1, o17_2, o17_3, o17_4, o17_5, o17_6, o17_7, o17_8, o17_9, o17_10, o17_11, o17_12⟩ := Gv.f13 BK0.out) | (go_at_call 69; (with_reducible refine (impl_isByte.calls a0_10 false _ A4.out).mono ?_); rintro e w' ⟨rfl, ⟨nd, rfl⟩⟩))
  go_ret
  exact ⟨Gv.rt, Gv.bw⟩
/-! ### impl_FlowKeyOk: function 15 -/
def impl_FlowKeyOk.f (k : Nat) (a0_0 : Int) (a0_1 : Int) (a0_2 : Int) (a0_3 : Int) (a0_4 : Int) (a0_5 : Int) (a0_6 : Int) (a0_7 : Int) (a0_8 : Int) (a0_9 : Int) (a0_10 : Int) (a0_11 : Int) (a0_12 : Int) (a0_13 : Int) : Option (Bool) := (impl_within.f a0_0 1 8).bind fun t375 => (if t375 = true then ((impl_KeyOk.f k a0_1 a0_2 a0_3 a0_4 a0_5 a0_6 a0_7 a0_8 a0_9 a0_10 a0_11 a0_12 a0_13).bind fun t376 => (some t376)) else (some false))
set_option maxHeartbeats 8000000 in
set_option maxRecDepth 100000 in
theorem impl_FlowKeyOk.calls (k : Nat) (a0_0 : Int) (a0_1 : Int) (a0_2 : Int) (a0_3 : Int) (a0_4 : Int) (a0_5 : Int) (a0_6 : Int) (a0_7 : Int) (a0_8 : Int) (a0_9 : Int) (a0_10 : Int) (a0_11 : Int) (a0_12 : Int) (a0_13 : Int) (r : Bool) (w : World) (h : impl_FlowKeyOk.f k a0_0 a0_1 a0_2 a0_3 a0_4 a0_5 a0_6 a0_7 a0_8 a0_9 a0_10 a0_11 a0_12 a0_13 = some r) :
  Calls Try.prog 15 #[.agg #[.int .i64 a0_0, .int .i64 a0_1, .int .i64 a0_2, .int .i64 a0_3, .int .i64 a0_4, .int .i64 a0_5, .int .i64 a0_6, .int .i64 a0_7, .int .i64 a0_8, .int .i64 a0_9, .int .i64 a0_10, .int .i64 a0_11, .int .i64 a0_12, .int .i64 a0_13]] w fun e w' => e = .returned (.bool r) ∧ Below w.heap.size w w' := by
 have hu33 := Try.underlying33; have hu31 := Try.underlying31; have HB := Gv.a0 (Below.refl w.heap.size w); unfold impl_FlowKeyOk.f at h; have H := h; clear h; replace H := Option.bind_eq_some_iff.mp H; obtain ⟨t1, A20, H⟩ := H
 (try dsimp only at H); have A2 := Gv.a0 A20; clear A20
 by_cases c3 : t1 = true
 ·subst c3; rw [if_pos rfl] at H
  (try dsimp only at H); replace H := Option.bind_eq_some_iff.mp H; obtain ⟨t2, A40, H⟩ := H
  (try dsimp only at H); have A4 := Gv.a0 A40; clear A40; obtain rfl := Option.some.inj H
  go_enter Try.func15, Try.ntmps15
  go_wp2_with (first | ((with_reducible refine gate_dst (N := 1) rfl ?_); refine Gv.bev 1 33 #[.int .i64 a0_0, .int .i64 a0_1, .int .i64 a0_2, .int .i64 a0_3, .int .i64 a0_4, .int .i64 a0_5, .int .i64 a0_6, .int .i64 a0_7, .int .i64 a0_8, .int .i64 a0_9, .int .i64 a0_10, .int .i64 a0_11, .int .i64 a0_12, .int .i64 a0_13] ?_; intro gb0 hg w5 hbox hb; have BK0 := Gv.a0 (hbox); have GW0 := Gv.a0 ((Gv.ble hg Gv.bw : w.heap.size ≤ gb0)); have GE0 := GW0; replace HB := Gv.hb hb; clear hb hbox hg; obtain ⟨z6_0, z6_1, z6_2, z6_3, z6_4, z6_5, z6_6, z6_7, z6_8, z6_9, z6_10, z6_11, z6_12, z6_13⟩ := Gv.c14 BK0.out; obtain ⟨o6_0, o6_1, o6_2, o6_3, o6_4, o6_5, o6_6, o6_7, o6_8, o6_9, o6_10, o6_11, o6_12, o6_13⟩ := Gv.f14 BK0.out) | ((with_reducible refine gate_callee (f := 44) rfl ?_); refine goesL_ (some 5) rfl rfl Try.func44 (by kernel_rfl) rfl #[.int .i64 a0_0, .int .i64 1, .int .i64 8] rfl Gv.lm ?_; (with_reducible refine (impl_within.calls a0_0 1 8 true _ A2.out).mono ?_); rintro e w' ⟨rfl, ⟨nd, rfl⟩⟩; refine ⟨_, rfl, ?_⟩) | (go_at_call 45; (with_reducible refine (impl_KeyOk.calls k a0_1 a0_2 a0_3 a0_4 a0_5 a0_6 a0_7 a0_8 a0_9 a0_10 a0_11 a0_12 a0_13 t2 _ A4.out).mono ?_); rintro e w7 ⟨rfl, hb⟩; replace BK0 := Gv.b1 BK0 hb; replace HB := Gv.hb hb; clear hb))
  go_ret
  exact ⟨Gv.rt, Gv.bw⟩
 ·replace c3 := Bool.eq_false_iff.mpr c3; subst c3; rw [if_neg (show ¬ (false = true) by decide)] at H
  (try dsimp only at H); obtain rfl := Option.some.inj H
  go_enter Try.func15, Try.ntmps15
  go_wp2_with (first | ((with_reducible refine gate_dst (N := 1) rfl ?_); refine Gv.bev 1 33 #[.int .i64 a0_0, .int .i64 a0_1, .int .i64 a0_2, .int .i64 a0_3, .int .i64 a0_4, .int .i64 a0_5, .int .i64 a0_6, .int .i64 a0_7, .int .i64 a0_8, .int .i64 a0_9, .int .i64 a0_10, .int .i64 a0_11, .int .i64 a0_12, .int .i64 a0_13] ?_; intro gb0 hg w8 hbox hb; have BK0 := Gv.a0 (hbox); have GW0 := Gv.a0 ((Gv.ble hg Gv.bw : w.heap.size ≤ gb0)); have GE0 := GW0; replace HB := Gv.hb hb; clear hb hbox hg; obtain ⟨z9_0, z9_1, z9_2, z9_3, z9_4, z9_5, z9_6, z9_7, z9_8, z9_9, z9_10, z9_11, z9_12, z9_13⟩ := Gv.c14 BK0.out; obtain ⟨o9_0, o9_1, o9_2, o9_3, o9_4, o9_5, o9_6, o9_7, o9_8, o9_9, o9_10, o9_11, o9_12, o9_13⟩ := Gv.f14 BK0.out) | ((with_reducible refine gate_callee (f := 44) rfl ?_); refine goesL_ (some 5) rfl rfl Try.func44 (by kernel_rfl) rfl #[.int .i64 a0_0, .int .i64 1, .int .i64 8] rfl Gv.lm ?_; (with_reducible refine (impl_within.calls a0_0 1 8 false _ A2.out).mono ?_); rintro e w' ⟨rfl, ⟨nd, rfl⟩⟩; refine ⟨_, rfl, ?_⟩))
  go_ret
  exact ⟨Gv.rt, Gv.bw⟩

/-! ### impl_isCells: function 48 -/
def impl_isCells.f (a0 : Int) : Option (Bool) := if a0 = 4 then (some true) else (if a0 = 8 then (some true) else (if a0 = 16 then (some true) else (if a0 = 32 then (some true) else (some (a0 == 64)))))
set_option maxHeartbeats 8000000 in
set_option maxRecDepth 100000 in
theorem impl_isCells.calls (a0 : Int) (r : Bool) (w : World) (h : impl_isCells.f a0 = some r) :
  Calls Try.prog 48 #[.int .i64 a0] w fun e w' => e = .returned (.bool r) ∧ Drawn0 w w' := by
 unfold impl_isCells.f at h; have H := h; clear h
 by_cases c2 : a0 = 4
 ·rw [if_pos c2] at H; have c2b0 : (a0 == 4) = true := beq_iff_eq.mpr c2; have c2b1 : (a0 != 4) = false := bne_eq_false_iff_eq.mpr c2; clear c2; obtain rfl := Option.some.inj H
  go_enter Try.func48, Try.ntmps48
  go_wp2
  go_ret
  exact ⟨by first | rfl | (simp; done) | (simp [Int.tdiv_eq_ediv_of_nonneg]; done) | (simp [*]; done), by repeat (first | exact Drawn0.refl _ | apply Drawn0.step)⟩
 ·rw [if_neg c2] at H; have c2b0 : (a0 == 4) = false := beq_eq_false_iff_ne.mpr c2; have c2b1 : (a0 != 4) = true := bne_iff_ne.mpr c2
  by_cases c3 : a0 = 8
  ·rw [if_pos c3] at H; have c3b0 : (a0 == 8) = true := beq_iff_eq.mpr c3; have c3b1 : (a0 != 8) = false := bne_eq_false_iff_eq.mpr c3; clear c3; obtain rfl := Option.some.inj H
   go_enter Try.func48, Try.ntmps48
   go_wp2
   go_ret
   exact ⟨by first | rfl | (simp; done) | (simp [Int.tdiv_eq_ediv_of_nonneg]; done) | (simp [*]; done), by repeat (first | exact Drawn0.refl _ | apply Drawn0.step)⟩
  ·rw [if_neg c3] at H; have c3b0 : (a0 == 8) = false := beq_eq_false_iff_ne.mpr c3; have c3b1 : (a0 != 8) = true := bne_iff_ne.mpr c3
   by_cases c4 : a0 = 16
   ·rw [if_pos c4] at H; have c4b0 : (a0 == 16) = true := beq_iff_eq.mpr c4; have c4b1 : (a0 != 16) = false := bne_eq_false_iff_eq.mpr c4; clear c4; obtain rfl := Option.some.inj H
    go_enter Try.func48, Try.ntmps48
    go_wp2
    go_ret
    exact ⟨by first | rfl | (simp; done) | (simp [Int.tdiv_eq_ediv_of_nonneg]; done) | (simp [*]; done), by repeat (first | exact Drawn0.refl _ | apply Drawn0.step)⟩
   ·rw [if_neg c4] at H; have c4b0 : (a0 == 16) = false := beq_eq_false_iff_ne.mpr c4; have c4b1 : (a0 != 16) = true := bne_iff_ne.mpr c4
    by_cases c5 : a0 = 32
    ·rw [if_pos c5] at H; have c5b0 : (a0 == 32) = true := beq_iff_eq.mpr c5; have c5b1 : (a0 != 32) = false := bne_eq_false_iff_eq.mpr c5; clear c5; obtain rfl := Option.some.inj H
     go_enter Try.func48, Try.ntmps48
     go_wp2
     go_ret
     exact ⟨by first | rfl | (simp; done) | (simp [Int.tdiv_eq_ediv_of_nonneg]; done) | (simp [*]; done), by repeat (first | exact Drawn0.refl _ | apply Drawn0.step)⟩
    ·rw [if_neg c5] at H; have c5b0 : (a0 == 32) = false := beq_eq_false_iff_ne.mpr c5; have c5b1 : (a0 != 32) = true := bne_iff_ne.mpr c5; obtain rfl := Option.some.inj H
     go_enter Try.func48, Try.ntmps48
     go_wp2
     go_ret
     exact ⟨by first | rfl | (simp; done) | (simp [Int.tdiv_eq_ediv_of_nonneg]; done) | (simp [*]; done), by repeat (first | exact Drawn0.refl _ | apply Drawn0.step)⟩

/-! ### impl_Table_used: function 57 -/
def impl_Table_used.l0 : Nat → Int → List (S75) → Int → Int → Option (Int)
 | 0, _, _, _, _ => none
 | k + 1, x3, x7, x8, x9 => if x9 < x8 then (if 0 ≤ x9 then (if x9 < (x7.length : Int) then (if (rd_T75 x7 x9).f0 = true then (impl_Table_used.l0 k (wrap64 (x3 + 1)) x7 x8 (wrap64 (x9 + 1))) else (impl_Table_used.l0 k x3 x7 x8 (wrap64 (x9 + 1)))) else (none)) else (none)) else (some x3)
def impl_Table_used.f (k : Nat) (a0_0 : Int) (l0_1 : List (S75)) : Option (Int) := impl_Table_used.l0 k 0 l0_1 (l0_1.length : Int) 0
set_option maxHeartbeats 8000000 in
set_option maxRecDepth 100000 in
theorem impl_Table_used.calls (k : Nat) (a0_0 : Int) (A0_1 : Option Addr) (c0_1 : Nat) (l0_1 : List (S75)) (r : Int) (w : World) (hr0_1 : Kd.C k75 w A0_1 l0_1.length l0_1) (hc0_1 : l0_1.length ≤ c0_1) (h : impl_Table_used.f k a0_0 l0_1 = some r) :
  Calls Try.prog 57 #[.agg #[.int .i64 a0_0, .slice A0_1 l0_1.length c0_1]] w fun e w' => e = .returned (.int .i64 r) ∧ Below w.heap.size w w' := by
 have hu40 := Try.underlying40; have hu75 := Try.underlying75; have HR0_1 := Gv.a0 hr0_1; have HC0_1 := Gv.a0 hc0_1; clear hr0_1 hc0_1; have HB := Gv.a0 (Below.refl w.heap.size w); unfold impl_Table_used.f at h; have H := h; clear h; have H' := Gv.a0 H; clear H
 go_enter Try.func57, Try.ntmps57
 go_wp2_with (first | ((with_reducible refine gate_dst (N := 1) rfl ?_); refine Gv.bev 1 40 #[.int .i64 a0_0, .slice A0_1 l0_1.length c0_1] ?_; intro gb1 hg w2 hbox hb; have BK1 := Gv.a0 (hbox); have GW1 := Gv.a0 ((Gv.ble hg Gv.bw : w.heap.size ≤ gb1)); have GE1 := GW1; replace HB := Gv.hb hb; clear hb hbox hg; have z3_0 : w2.cell? ⟨gb1, 0, none⟩ = some (.int .i64 a0_0) := (blk_cell BK1.out 0).trans rfl; have z3_1 : w2.cell? ⟨gb1, 1, none⟩ = some (.slice A0_1 l0_1.length c0_1) := (blk_cell BK1.out 1).trans rfl; have o3_0 := blk_frozen BK1.out 0; have o3_1 := blk_frozen BK1.out 1))
 go_loopg [3, 9] k (fun kq v3 v9 w' => ∃ (x3_1 : Int) (x9_1 : Int), v3 = .int .i64 x3_1 ∧ v9 = .int .i64 x9_1 ∧ Aside0 (impl_Table_used.l0 kq x3_1 l0_1 (l0_1.length : Int) x9_1 = some r) ∧ Aside0 (kq ≤ k) ∧ Aside0 (w'.heap[gb1]? = some (.cells #[.int .i64 a0_0, (.slice A0_1 l0_1.length c0_1)] 40 (0, 0))) ∧ Aside0 (Below w.heap.size w w'))
 case atStart => exact ⟨(0), (0), Gv.rq, Gv.rq, H', ⟨Nat.le_refl _⟩, ⟨by (with_reducible repeat (first | refine blk_drewN ?_ _ | refine blk_drew ?_ | refine blk_alloc ?_ _)); exact BK1.out⟩, ⟨Gv.bw⟩⟩
 case round =>
  clear H'
  try clear p2
  try clear z3_0 z3_1
  try clear o3_0 o3_1
  obtain ⟨x3_1, x9_1, rfl, rfl, HA, HK1, BK1, HB⟩ := hrel; cases gk with
  | zero => exact absurd HA.out (by simp [impl_Table_used.l0])
  | succ k1 =>
   have H := HA.out; clear HA; simp only [impl_Table_used.l0] at H
   by_cases c4 : x9_1 < (l0_1.length : Int)
   rotate_left
   ·rw [if_neg c4] at H; have c4b0 := decide_eq_false c4; clear c4; obtain rfl := Option.some.inj H
    go_wp2
    go_ret
    exact ⟨Gv.rt, Gv.bw⟩

   rw [if_pos c4] at H; have c4b0 := decide_eq_true c4; clear c4
   by_cases c5 : 0 ≤ x9_1
   rotate_left
   ·rw [if_neg c5] at H; cases H
   rw [if_pos c5] at H; have c5b0 := decide_eq_true c5; clear c5
   by_cases c6 : x9_1 < (l0_1.length : Int)
   rotate_left
   ·rw [if_neg c6] at H; cases H
   rw [if_pos c6] at H; have c6b0 := decide_eq_true c6; clear c6; obtain ⟨bq7, hbq7⟩ : ∃ b_ : Bool, b_ = ((rd_T75 l0_1 x9_1).f0) := ⟨_, rfl⟩
   replace H : (if bq7 = true then (impl_Table_used.l0 k1 (wrap64 (x3_1 + 1)) l0_1 (l0_1.length : Int) (wrap64 (x9_1 + 1))) else (impl_Table_used.l0 k1 x3_1 l0_1 (l0_1.length : Int) (wrap64 (x9_1 + 1)))) = some r := by rw [← hbq7] at H; exact H
   have Nbq7 := Gv.a0 hbq7; clear hbq7
   by_cases c8 : bq7 = true
   ·subst c8; rw [if_pos rfl] at H
    (try dsimp only at H); have H' := Gv.a0 H; clear H; have p0 : 0 ≤ (x9_1 : Int) := Gv.od; have q0 : x9_1 < (l0_1.length : Int) := Gv.od; obtain ⟨ad0, e0, u0_0, u0_1, u0_2, u0_3, u0_4, u0_5, u0_6, u0_7, u0_8, u0_9, u0_10, u0_11, u0_12, u0_13, u0_14, u0_15⟩ := at_T75 HR0_1.out x9_1 p0 q0
    (try rw [← Nbq7.out] at u0_0); cases e0; replace u0_0 := Gv.bx HB.out u0_0; replace u0_1 := Gv.bx HB.out u0_1; replace u0_2 := Gv.bx HB.out u0_2; replace u0_3 := Gv.bx HB.out u0_3; replace u0_4 := Gv.bx HB.out u0_4; replace u0_5 := Gv.bx HB.out u0_5; replace u0_6 := Gv.bx HB.out u0_6; replace u0_7 := Gv.bx HB.out u0_7; replace u0_8 := Gv.bx HB.out u0_8; replace u0_9 := Gv.bx HB.out u0_9; replace u0_10 := Gv.bx HB.out u0_10; replace u0_11 := Gv.bx HB.out u0_11; replace u0_12 := Gv.bx HB.out u0_12; replace u0_13 := Gv.bx HB.out u0_13; replace u0_14 := Gv.bx HB.out u0_14; replace u0_15 := Gv.bx HB.out u0_15; replace p0 := eq_true p0; replace q0 := eq_true q0
    go_wp2_with (first | ((with_reducible refine gate_dst (N := 5) rfl ?_); refine Gv.bev 5 75 #[.bool false, .int .i64 0, .int .i64 0, .int .i64 0, .int .i64 0, .int .i64 0, .int .i64 0, .int .i64 0, .int .i64 0, .int .i64 0, .int .i64 0, .int .i64 0, .int .i64 0, .int .i64 0, .int .i64 0, .int .i64 0] ?_; intro gb2 hg w9 hbox hb; have BK2 := Gv.a0 (hbox); have GW2 := Gv.a0 ((Gv.ble hg Gv.bw : w.heap.size ≤ gb2)); have GE2 := GW2; replace HB := Gv.hb hb; have NB1_2 := Gv.a0 ((Gv.nlt hg (Gv.kb BK1.out) : gb1 ≠ gb2)); have NB2_1 := Gv.a0 ((Gv.ngt hg (Gv.kb BK1.out) : gb2 ≠ gb1)); replace BK1 := Gv.b1 BK1 hb; clear hb hbox hg; have hnb10 := NB2_1.out; have hnc10 := NB1_2.out; obtain ⟨z11_0, z11_1, z11_2, z11_3, z11_4, z11_5, z11_6, z11_7, z11_8, z11_9, z11_10, z11_11, z11_12, z11_13, z11_14, z11_15⟩ := Gv.c16 BK2.out; obtain ⟨o11_0, o11_1, o11_2, o11_3, o11_4, o11_5, o11_6, o11_7, o11_8, o11_9, o11_10, o11_11, o11_12, o11_13, o11_14, o11_15⟩ := Gv.f16 BK2.out))
    go_roundg k1
    case measure => have := HK1.out; omega
    case rel => exact ⟨(wrap64 (x3_1 + 1)), (wrap64 (x9_1 + 1)), Gv.rq, Gv.rq, H', ⟨by have := HK1.out; omega⟩, ⟨by (with_reducible repeat (first | refine blk_drewN ?_ _ | refine blk_drew ?_ | refine blk_alloc ?_ _)); refine blk_far ?_ NB1_2.out _; (with_reducible repeat (first | refine blk_drewN ?_ _ | refine blk_drew ?_ | refine blk_alloc ?_ _)); refine blk_far ?_ NB1_2.out _; (with_reducible repeat (first | refine blk_drewN ?_ _ | refine blk_drew ?_ | refine blk_alloc ?_ _)); refine blk_far ?_ NB1_2.out _; (with_reducible repeat (first | refine blk_drewN ?_ _ | refine blk_drew ?_ | refine blk_alloc ?_ _)); refine blk_far ?_ NB1_2.out _; (with_reducible repeat (first | refine blk_drewN ?_ _ | refine blk_drew ?_ | refine blk_alloc ?_ _)); refine blk_far ?_ NB1_2.out _; (with_reducible repeat (first | refine blk_drewN ?_ _ | refine blk_drew ?_ | refine blk_alloc ?_ _)); refine blk_far ?_ NB1_2.out _; (with_reducible repeat (first | refine blk_drewN ?_ _ | refine blk_drew ?_ | refine blk_alloc ?_ _)); refine blk_far ?_ NB1_2.out _; (with_reducible repeat (first | refine blk_drewN ?_ _ | refine blk_drew ?_ | refine blk_alloc ?_ _)); refine blk_far ?_ NB1_2.out _; (with_reducible repeat (first | refine blk_drewN ?_ _ | refine blk_drew ?_ | refine blk_alloc ?_ _)); refine blk_far ?_ NB1_2.out _; (with_reducible repeat (first | refine blk_drewN ?_ _ | refine blk_drew ?_ | refine blk_alloc ?_ _)); refine blk_far ?_ NB1_2.out _; (with_reducible repeat (first | refine blk_drewN ?_ _ | refine blk_drew ?_ | refine blk_alloc ?_ _)); refine blk_far ?_ NB1_2.out _; (with_reducible repeat (first | refine blk_drewN ?_ _ | refine blk_drew ?_ | refine blk_alloc ?_ _)); refine blk_far ?_ NB1_2.out _; (with_reducible repeat (first | refine blk_drewN ?_ _ | refine blk_drew ?_ | refine blk_alloc ?_ _)); refine blk_far ?_ NB1_2.out _; (with_reducible repeat (first | refine blk_drewN ?_ _ | refine blk_drew ?_ | refine blk_alloc ?_ _)); refine blk_far ?_ NB1_2.out _; (with_reducible repeat (first | refine blk_drewN ?_ _ | refine blk_drew ?_ | refine blk_alloc ?_ _)); refine blk_far ?_ NB1_2.out _; (with_reducible repeat (first | refine blk_drewN ?_ _ | refine blk_drew ?_ | refine blk_alloc ?_ _)); refine blk_far ?_ NB1_2.out _; (with_reducible repeat (first | refine blk_drewN ?_ _ | refine blk_drew ?_ | refine blk_alloc ?_ _)); exact BK1.out⟩, ⟨Gv.bw⟩⟩
   ·replace c8 := Bool.eq_false_iff.mpr c8; subst c8; rw [if_neg (show ¬ (false = true) by decide)] at H
    (try dsimp only at H); have H' := Gv.a0 H; clear H; have p0 : 0 ≤ (x9_1 : Int) := Gv.od; have q0 : x9_1 < (l0_1.length : Int) := Gv.od; obtain ⟨ad0, e0, u0_0, u0_1, u0_2, u0_3, u0_4, u0_5, u0_6, u0_7, u0_8, u0_9, u0_10, u0_11, u0_12, u0_13, u0_14, u0_15⟩ := at_T75 HR0_1.out x9_1 p0 q0
    (try rw [← Nbq7.out] at u0_0); cases e0; replace u0_0 := Gv.bx HB.out u0_0; replace u0_1 := Gv.bx HB.out u0_1; replace u0_2 := Gv.bx HB.out u0_2; replace u0_3 := Gv.bx HB.out u0_3; replace u0_4 := Gv.bx HB.out u0_4; replace u0_5 := Gv.bx HB.out u0_5; replace u0_6 := Gv.bx HB.out u0_6; replace u0_7 := Gv.bx HB.out u0_7; replace u0_8 := Gv.bx HB.out u0_8; replace u0_9 := Gv.bx HB.out u0_9; replace u0_10 := Gv.bx HB.out u0_10; replace u0_11 := Gv.bx HB.out u0_11; replace u0_12 := Gv.bx HB.out u0_12; replace u0_13 := Gv.bx HB.out u0_13; replace u0_14 := Gv.bx HB.out u0_14; replace u0_15 := Gv.bx HB.out u0_15; replace p0 := eq_true p0; replace q0 := eq_true q0
    go_wp2_with (first | ((with_reducible refine gate_dst (N := 5) rfl ?_); refine Gv.bev 5 75 #[.bool false, .int .i64 0, .int .i64 0, .int .i64 0, .int .i64 0, .int .i64 0, .int .i64 0, .int .i64 0, .int .i64 0, .int .i64 0, .int .i64 0, .int .i64 0, .int .i64 0, .int .i64 0, .int .i64 0, .int .i64 0] ?_; intro gb2 hg w12 hbox hb; have BK2 := Gv.a0 (hbox); have GW2 := Gv.a0 ((Gv.ble hg Gv.bw : w.heap.size ≤ gb2)); have GE2 := GW2; replace HB := Gv.hb hb; have NB1_2 := Gv.a0 ((Gv.nlt hg (Gv.kb BK1.out) : gb1 ≠ gb2)); have NB2_1 := Gv.a0 ((Gv.ngt hg (Gv.kb BK1.out) : gb2 ≠ gb1)); replace BK1 := Gv.b1 BK1 hb; clear hb hbox hg; have hnb13 := NB2_1.out; have hnc13 := NB1_2.out; obtain ⟨z14_0, z14_1, z14_2, z14_3, z14_4, z14_5, z14_6, z14_7, z14_8, z14_9, z14_10, z14_11, z14_12, z14_13, z14_14, z14_15⟩ := Gv.c16 BK2.out; obtain ⟨o14_0, o14_1, o14_2, o14_3, o14_4, o14_5, o14_6, o14_7, o14_8, o14_9, o14_10, o14_11, o14_12, o14_13, o14_14, o14_15⟩ := Gv.f16 BK2.out))
    go_roundg k1
    case measure => have := HK1.out; omega
    case rel => exact ⟨(x3_1), (wrap64 (x9_1 + 1)), Gv.rq, Gv.rq, H', ⟨by have := HK1.out; omega⟩, ⟨by (with_reducible repeat (first | refine blk_drewN ?_ _ | refine blk_drew ?_ | refine blk_alloc ?_ _)); refine blk_far ?_ NB1_2.out _; (with_reducible repeat (first | refine blk_drewN ?_ _ | refine blk_drew ?_ | refine blk_alloc ?_ _)); refine blk_far ?_ NB1_2.out _; (with_reducible repeat (first | refine blk_drewN ?_ _ | refine blk_drew ?_ | refine blk_alloc ?_ _)); refine blk_far ?_ NB1_2.out _; (with_reducible repeat (first | refine blk_drewN ?_ _ | refine blk_drew ?_ | refine blk_alloc ?_ _)); refine blk_far ?_ NB1_2.out _; (with_reducible repeat (first | refine blk_drewN ?_ _ | refine blk_drew ?_ | refine blk_alloc ?_ _)); refine blk_far ?_ NB1_2.out _; (with_reducible repeat (first | refine blk_drewN ?_ _ | refine blk_drew ?_ | refine blk_alloc ?_ _)); refine blk_far ?_ NB1_2.out _; (with_reducible repeat (first | refine blk_drewN ?_ _ | refine blk_drew ?_ | refine blk_alloc ?_ _)); refine blk_far ?_ NB1_2.out _; (with_reducible repeat (first | refine blk_drewN ?_ _ | refine blk_drew ?_ | refine blk_alloc ?_ _)); refine blk_far ?_ NB1_2.out _; (with_reducible repeat (first | refine blk_drewN ?_ _ | refine blk_drew ?_ | refine blk_alloc ?_ _)); refine blk_far ?_ NB1_2.out _; (with_reducible repeat (first | refine blk_drewN ?_ _ | refine blk_drew ?_ | refine blk_alloc ?_ _)); refine blk_far ?_ NB1_2.out _; (with_reducible repeat (first | refine blk_drewN ?_ _ | refine blk_drew ?_ | refine blk_alloc ?_ _)); refine blk_far ?_ NB1_2.out _; (with_reducible repeat (first | refine blk_drewN ?_ _ | refine blk_drew ?_ | refine blk_alloc ?_ _)); refine blk_far ?_ NB1_2.out _; (with_reducible repeat (first | refine blk_drewN ?_ _ | refine blk_drew ?_ | refine blk_alloc ?_ _)); refine blk_far ?_ NB1_2.out _; (with_reducible repeat (first | refine blk_drewN ?_ _ | refine blk_drew ?_ | refine blk_alloc ?_ _)); refine blk_far ?_ NB1_2.out _; (with_reducible repeat (first | refine blk_drewN ?_ _ | refine blk_drew ?_ | refine blk_alloc ?_ _)); refine blk_far ?_ NB1_2.out _; (with_reducible repeat (first | refine blk_drewN ?_ _ | refine blk_drew ?_ | refine blk_alloc ?_ _)); refine blk_far ?_ NB1_2.out _; (with_reducible repeat (first | refine blk_drewN ?_ _ | refine blk_drew ?_ | refine blk_alloc ?_ _)); exact BK1.out⟩, ⟨Gv.bw⟩⟩
/-! ### slices_Grow_byte_byte: function 85 -/
def slices_Grow_byte_byte.f (a0 : Int) : Option (List Int) := if 0 ≤ a0 ∧ a0 ≤ 1099511627776 then some ([] : List Int) else none
set_option maxHeartbeats 8000000 in
set_option maxRecDepth 100000 in
theorem slices_Grow_byte_byte.calls (a0 : Int) (r : List Int) (w : World) (h : slices_Grow_byte_byte.f a0 = some r) :
  Calls Try.prog 85 #[.slice none 0 0, .int .i64 a0] w fun e w' => ∃ v0_ : Value, e = .returned (v0_) ∧ Kd.R (Kd.int .u8) 5 w' w.heap.size (fun _ => True) v0_ r ∧ Below w.heap.size w w' := by
 unfold slices_Grow_byte_byte.f at h
 by_cases hn : 0 ≤ a0 ∧ a0 ≤ 1099511627776
 rotate_left
 ·rw [if_neg hn] at h; cases h
 rw [if_pos hn] at h; obtain rfl := Option.some.inj h; clear h
 by_cases h0 : a0 = 0
 ·subst h0
  go_enter Try.func85, Try.ntmps85
  go_wp2
  go_ret
  exact ⟨_, rfl, Kd.R_nil _ _ _ _ _, Below.refl _ w⟩
 obtain ⟨n, rfl⟩ : ∃ n : Nat, a0 = n := ⟨a0.toNat, by omega⟩
 have hi := info5; rw [Option.map_eq_some_iff] at hi; obtain ⟨i, hi, hz⟩ := hi; simp only [Prod.mk.injEq] at hz; obtain ⟨hz, hs, hb⟩ := hz; have hrz : ∀ ty, (Builtin.append_ #[68, 3] ty #[.slice none 0 0, .int .i64 (n : Int)]).run Try.prog w = _ := fun ty =>
  Lib.run_append_nil_zeros w 68 3 ty 5 i (.int .u8 0) .i64 .i64 Try.underlying68 Try.underlying3 hi hz n (by omega) (by omega) (by omega) (by rw [hb]; omega)
 have hG1 : n ≤ grownCap w n 0 5 := grownCap_ge w _ _ _; have hG2 : grownCap w n 0 5 ≤ maxLen := grownCap_le_maxLen w n 0 5 (by unfold maxLen; omega); obtain ⟨G, hG⟩ : ∃ G, G = grownCap w n 0 5 := ⟨_, rfl⟩
 rw [← hG] at hrz hG1 hG2; have h1 : ¬ ((n : Int) < 0) := by omega
 have h2 : wrap64 ((0 : Int) - 0) = 0 := by unfold wrap64; omega
 have h3 : wrap64 ((n : Int) - 0) = n := by unfold wrap64; omega
 have h4 : (n : Int) > 0 := by omega
 have hG63 : G ≤ 9223372036854775807 := by unfold maxLen at hG2; omega
 have hsz : (Builtin.zeroCells (Value.int .u8 0).cells n ++ Builtin.zeroCells (Value.int .u8 0).cells (G - n)).size = G * 1 := by
  rw [Array.size_append, size_zeroCells, size_zeroCells, show (Value.int .u8 0).cells.size = 1 from rfl]
  omega
 clear hG hz hs hb hi
 go_enter Try.func85, Try.ntmps85
 go_wp2_with (at_builtin; refine Lib.wpList_append_run _ rfl _ _ _ _ rfl _ _ rfl rfl _ _ (hrz _) ?_)
 go_ret
 refine ⟨_, rfl, ⟨fun _ _ => trivial, [], ⟨by simp, .inr ⟨w.heap.size, G, _, rfl, Nat.le_refl _, heap_alloc_new _ _, Nat.zero_le _, hG2, hsz, by simp⟩⟩, Reps.none _ _⟩, (below_alloc (below_drew1 (Below.refl _ w)) _)⟩

end Go.Proofs.Ytfnpodebjejhpaa.PTd
