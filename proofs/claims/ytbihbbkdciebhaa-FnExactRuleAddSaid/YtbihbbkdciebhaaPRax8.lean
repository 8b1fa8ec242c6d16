/- Plain Lean functions of a law's Go functions, their contracts, by a program of this session (wip/pr.py over the kit's print). -/
import Derived.Test.YtbihbbkdciebhaaPRax0
import Derived.Test.YtbihbbkdciebhaaPRax3
import Derived.Test.YtbihbbkdciebhaaPRax5
import Derived.Test.YtbihbbkdciebhaaPRax7
namespace Go.Proofs.Ytbihbbkdciebhaa.PRa
open Go.RowKit Go.Proofs.YtbihbbkdciebhaaW.PrintWords Go.Proofs.YtbihbbkdciebhaaW.PrintLast Go.Proofs.YtbihbbkdciebhaaW.PrintMore
attribute [local go_sem] max2_int min2_int max_two min_two max_three min_three max_four min_four   -- for this text's walks alone
set_option linter.unusedVariables false
set_option linter.unusedSimpArgs false

/-! ### impl_RuleAdd: function 27 -/
mutual
def impl_RuleAdd.j0 : Nat → List (S55) → Bool → Int → Int → Int → Int → Int → Int → Int → Int → Int → Int → Int → Int → Int → Int → Int → Int → Int → Int → Int → Int → Int → Option ((List (S55)) × Int)
 | 0, _, _, _, _, _, _, _, _, _, _, _, _, _, _, _, _, _, _, _, _, _, _, _ => none
 | k + 1, x0, x7, x399000, x399001, x399002, x399003, x399004, x399005, x399006, x399007, x399008, x399009, x399010, x399011, x399012, x399013, x399014, x399015, x399016, x399017, x399018, x399019, x399020 => if x7 = true then (some (([] : List (S55)), 1)) else ((impl_ruleAt.f x0 x399000).bind fun t401 => (if t401 ≥ 0 then (some (([] : List (S55)), 2)) else (if (x0.length : Int) = 32 then (some (([] : List (S55)), 3)) else (impl_RuleAdd.l0 k x0 0 x399000 x399001 x399002 x399003 x399004 x399005 x399006 x399007 x399008 x399009 x399010 x399011 x399012 x399013 x399014 x399015 x399016 x399017 x399018 x399019 x399020))))
def impl_RuleAdd.l0 : Nat → List (S55) → Int → Int → Int → Int → Int → Int → Int → Int → Int → Int → Int → Int → Int → Int → Int → Int → Int → Int → Int → Int → Int → Int → Option ((List (S55)) × Int)
 | 0, _, _, _, _, _, _, _, _, _, _, _, _, _, _, _, _, _, _, _, _, _, _, _ => none
 | k + 1, x0, x6, x399000, x399001, x399002, x399003, x399004, x399005, x399006, x399007, x399008, x399009, x399010, x399011, x399012, x399013, x399014, x399015, x399016, x399017, x399018, x399019, x399020 => if x6 < (x0.length : Int) then (if 0 ≤ x6 then (if ((rd_T55 x0 x6).f0) < x399000 then (impl_RuleAdd.l0 k x0 (wrap64 (x6 + 1)) x399000 x399001 x399002 x399003 x399004 x399005 x399006 x399007 x399008 x399009 x399010 x399011 x399012 x399013 x399014 x399015 x399016 x399017 x399018 x399019 x399020) else (if x6 ≤ (x0.length : Int) then ((impl_Rule_42.f k (([(x0.take (x6 : Int).toNat), (([(⟨x399000, (⟨(⟨x399001, x399002, x399003, x399004, x399005⟩ : S34), x399006⟩ : S53), (⟨(⟨x399007, x399008, x399009, x399010, x399011⟩ : S34), x399012⟩ : S53), x399013, x399014, x399015, x399016, x399017, x399018, x399019, x399020⟩ : S55)] : List (S55))), (x0.drop (x6 : Int).toNat)] : List (List (S55))))).bind fun t419 => (some (t419, 0))) else (none))) else (none)) else (if 0 ≤ x6 then (if x6 ≤ (x0.length : Int) then ((impl_Rule_42.f k (([(x0.take (x6 : Int).toNat), (([(⟨x399000, (⟨(⟨x399001, x399002, x399003, x399004, x399005⟩ : S34), x399006⟩ : S53), (⟨(⟨x399007, x399008, x399009, x399010, x399011⟩ : S34), x399012⟩ : S53), x399013, x399014, x399015, x399016, x399017, x399018, x399019, x399020⟩ : S55)] : List (S55))), (x0.drop (x6 : Int).toNat)] : List (List (S55))))).bind fun t438 => (some (t438, 0))) else (none)) else (none))
end
def impl_RuleAdd.f (k : Nat) (l0 : List (S55)) (a1_0 : Int) (a1_1 : Int) (a1_2 : Int) (a1_3 : Int) (a1_4 : Int) (a1_5 : Int) (a1_6 : Int) (a1_7 : Int) (a1_8 : Int) (a1_9 : Int) (a1_10 : Int) (a1_11 : Int) (a1_12 : Int) (a1_13 : Int) (a1_14 : Int) (a1_15 : Int) (a1_16 : Int) (a1_17 : Int) (a1_18 : Int) (a1_19 : Int) (a1_20 : Int) : Option ((List (S55)) × Int) := (impl_RulesOk.f k l0).bind fun t399 => (if t399 = true then ((impl_RuleOk.f k a1_0 a1_1 a1_2 a1_3 a1_4 a1_5 a1_6 a1_7 a1_8 a1_9 a1_10 a1_11 a1_12 a1_13 a1_14 a1_15 a1_16 a1_17 a1_18 a1_19 a1_20).bind fun t400 => (impl_RuleAdd.j0 k l0 (!t400) a1_0 a1_1 a1_2 a1_3 a1_4 a1_5 a1_6 a1_7 a1_8 a1_9 a1_10 a1_11 a1_12 a1_13 a1_14 a1_15 a1_16 a1_17 a1_18 a1_19 a1_20)) else (impl_RuleAdd.j0 k l0 true a1_0 a1_1 a1_2 a1_3 a1_4 a1_5 a1_6 a1_7 a1_8 a1_9 a1_10 a1_11 a1_12 a1_13 a1_14 a1_15 a1_16 a1_17 a1_18 a1_19 a1_20))
theorem impl_RuleAdd.mono_l : ∀ k, (∀ y0 y1 y2 y3 y4 y5 y6 y7 y8 y9 y10 y11 y12 y13 y14 y15 y16 y17 y18 y19 y20 y21 y22, LeO (impl_RuleAdd.j0 k y0 y1 y2 y3 y4 y5 y6 y7 y8 y9 y10 y11 y12 y13 y14 y15 y16 y17 y18 y19 y20 y21 y22) (impl_RuleAdd.j0 (k + 1) y0 y1 y2 y3 y4 y5 y6 y7 y8 y9 y10 y11 y12 y13 y14 y15 y16 y17 y18 y19 y20 y21 y22)) ∧ (∀ y0 y1 y2 y3 y4 y5 y6 y7 y8 y9 y10 y11 y12 y13 y14 y15 y16 y17 y18 y19 y20 y21 y22, LeO (impl_RuleAdd.l0 k y0 y1 y2 y3 y4 y5 y6 y7 y8 y9 y10 y11 y12 y13 y14 y15 y16 y17 y18 y19 y20 y21 y22) (impl_RuleAdd.l0 (k + 1) y0 y1 y2 y3 y4 y5 y6 y7 y8 y9 y10 y11 y12 y13 y14 y15 y16 y17 y18 y19 y20 y21 y22))
 | 0 => ⟨fun _ _ _ _ _ _ _ _ _ _ _ _ _ _ _ _ _ _ _ _ _ _ _ r h => by simp [impl_RuleAdd.j0] at h, fun _ _ _ _ _ _ _ _ _ _ _ _ _ _ _ _ _ _ _ _ _ _ _ r h => by simp [impl_RuleAdd.l0] at h⟩
 | k + 1 => by
  obtain ⟨ih0, ih1⟩ := impl_RuleAdd.mono_l k
  refine ⟨?_, ?_⟩
  ·intro y0 y1 y2 y3 y4 y5 y6 y7 y8 y9 y10 y11 y12 y13 y14 y15 y16 y17 y18 y19 y20 y21 y22
   unfold impl_RuleAdd.j0
   repeat' first
   | (with_reducible exact ih0 _ _ _ _ _ _ _ _ _ _ _ _ _ _ _ _ _ _ _ _ _ _ _)
   | (with_reducible exact ih1 _ _ _ _ _ _ _ _ _ _ _ _ _ _ _ _ _ _ _ _ _ _ _)
   | (with_reducible exact impl_RuleOk.mono _ _ _ _ _ _ _ _ _ _ _ _ _ _ _ _ _ _ _ _ _ _)
   | (with_reducible exact impl_Rule_42.mono _ _)
   | (with_reducible exact impl_RulesOk.mono _ _)
   | (with_reducible exact LeO.refl _)
   | (with_reducible exact LeO.none _)
   | (with_reducible refine LeO.ite ?_ ?_)
   | (with_reducible refine LeO.bind ?_ (fun _ => ?_))
   | exact ih0 _ _ _ _ _ _ _ _ _ _ _ _ _ _ _ _ _ _ _ _ _ _ _
   | exact ih1 _ _ _ _ _ _ _ _ _ _ _ _ _ _ _ _ _ _ _ _ _ _ _
   | exact impl_RuleOk.mono _ _ _ _ _ _ _ _ _ _ _ _ _ _ _ _ _ _ _ _ _ _
   | exact impl_Rule_42.mono _ _
   | exact impl_RulesOk.mono _ _
   | exact LeO.none _
   | refine LeO.ite ?_ ?_
   | refine LeO.bind ?_ (fun _ => ?_)
  ·intro y0 y1 y2 y3 y4 y5 y6 y7 y8 y9 y10 y11 y12 y13 y14 y15 y16 y17 y18 y19 y20 y21 y22
   unfold impl_RuleAdd.l0
   repeat' first
   | (with_reducible exact ih0 _ _ _ _ _ _ _ _ _ _ _ _ _ _ _ _ _ _ _ _ _ _ _)
   | (with_reducible exact ih1 _ _ _ _ _ _ _ _ _ _ _ _ _ _ _ _ _ _ _ _ _ _ _)
   | (with_reducible exact impl_RuleOk.mono _ _ _ _ _ _ _ _ _ _ _ _ _ _ _ _ _ _ _ _ _ _)
   | (with_reducible exact impl_Rule_42.mono _ _)
   | (with_reducible exact impl_RulesOk.mono _ _)
   | (with_reducible exact LeO.refl _)
   | (with_reducible exact LeO.none _)
   | (with_reducible refine LeO.ite ?_ ?_)
   | (with_reducible refine LeO.bind ?_ (fun _ => ?_))
   | exact ih0 _ _ _ _ _ _ _ _ _ _ _ _ _ _ _ _ _ _ _ _ _ _ _
   | exact ih1 _ _ _ _ _ _ _ _ _ _ _ _ _ _ _ _ _ _ _ _ _ _ _
   | exact impl_RuleOk.mono _ _ _ _ _ _ _ _ _ _ _ _ _ _ _ _ _ _ _ _ _ _
   | exact impl_Rule_42.mono _ _
   | exact impl_RulesOk.mono _ _
   | exact LeO.none _
   | refine LeO.ite ?_ ?_
   | refine LeO.bind ?_ (fun _ => ?_)
theorem impl_RuleAdd.mono : ∀ a0 a1 a2 a3 a4 a5 a6 a7 a8 a9 a10 a11 a12 a13 a14 a15 a16 a17 a18 a19 a20 a21 k, LeO (impl_RuleAdd.f k a0 a1 a2 a3 a4 a5 a6 a7 a8 a9 a10 a11 a12 a13 a14 a15 a16 a17 a18 a19 a20 a21) (impl_RuleAdd.f (k + 1) a0 a1 a2 a3 a4 a5 a6 a7 a8 a9 a10 a11 a12 a13 a14 a15 a16 a17 a18 a19 a20 a21) := by
 intro a0 a1 a2 a3 a4 a5 a6 a7 a8 a9 a10 a11 a12 a13 a14 a15 a16 a17 a18 a19 a20 a21 k
 obtain ⟨ih0, ih1⟩ := impl_RuleAdd.mono_l k
 unfold impl_RuleAdd.f
 repeat' first
   | (with_reducible exact ih0 _ _ _ _ _ _ _ _ _ _ _ _ _ _ _ _ _ _ _ _ _ _ _)
   | (with_reducible exact ih1 _ _ _ _ _ _ _ _ _ _ _ _ _ _ _ _ _ _ _ _ _ _ _)
   | (with_reducible exact impl_RuleOk.mono _ _ _ _ _ _ _ _ _ _ _ _ _ _ _ _ _ _ _ _ _ _)
   | (with_reducible exact impl_Rule_42.mono _ _)
   | (with_reducible exact impl_RulesOk.mono _ _)
   | (with_reducible exact LeO.refl _)
   | (with_reducible exact LeO.none _)
   | (with_reducible refine LeO.ite ?_ ?_)
   | (with_reducible refine LeO.bind ?_ (fun _ => ?_))
   | exact ih0 _ _ _ _ _ _ _ _ _ _ _ _ _ _ _ _ _ _ _ _ _ _ _
   | exact ih1 _ _ _ _ _ _ _ _ _ _ _ _ _ _ _ _ _ _ _ _ _ _ _
   | exact impl_RuleOk.mono _ _ _ _ _ _ _ _ _ _ _ _ _ _ _ _ _ _ _ _ _ _
   | exact impl_Rule_42.mono _ _
   | exact impl_RulesOk.mono _ _
   | exact LeO.none _
   | refine LeO.ite ?_ ?_
   | refine LeO.bind ?_ (fun _ => ?_)
def impl_RuleAdd.T8 : Bool × List (List Nat × List Nat) := (true, [([], []), ([], []), ([1], [1]), ([0, 2], [0, 2]), ([3], [3]), ([4], [4]), ([4], [4]), ([5, 6, 4], [4, 5, 6]), ([7, 4], [4, 7]), ([8, 4], [4, 8]), ([4], [4]), ([10, 4], [4, 10]), ([9, 11, 4], [4, 9, 11]), ([4, 12], [4, 12])])
def impl_RuleAdd.B8 : List Nat := [0, 0, 2, 7, 15, 31, 31, 127, 255, 511, 31, 1055, 4095, 8191]
theorem impl_RuleAdd.tab8 : rtab .any (opsOf Try.f27 8) = impl_RuleAdd.T8 := by kernel_rfl
theorem impl_RuleAdd.bits8 : waitsOk impl_RuleAdd.T8.2 impl_RuleAdd.B8 = true := by kernel_rfl
def impl_RuleAdd.T10 : Bool × List (List Nat × List Nat) := (true, [([], []), ([], []), ([0, 1], [0, 1]), ([], []), ([3], [3]), ([], []), ([], []), ([5, 6], [5, 6]), ([2, 4, 7], [2, 4, 7]), ([8], [8]), ([9, 9, 0, 1, 2, 3, 4, 5, 6, 7, 8, 9], [9]), ([10, 0, 1, 2, 3, 4, 5, 6, 7, 8, 9, 10], [])])
def impl_RuleAdd.B10 : List Nat := [0, 0, 3, 0, 8, 0, 0, 96, 255, 511, 1023, 2047]
theorem impl_RuleAdd.tab10 : rtab .any (opsOf Try.f27 10) = impl_RuleAdd.T10 := by kernel_rfl
theorem impl_RuleAdd.bits10 : waitsOk impl_RuleAdd.T10.2 impl_RuleAdd.B10 = true := by kernel_rfl
set_option maxHeartbeats 8000000 in
set_option maxRecDepth 100000 in
theorem impl_RuleAdd.calls (k : Nat) (P0_ : Nat → Prop) (A0 : Option Addr) (c0 : Nat) (l0 : List (S55)) (a1_0 : Int) (a1_1 : Int) (a1_2 : Int) (a1_3 : Int) (a1_4 : Int) (a1_5 : Int) (a1_6 : Int) (a1_7 : Int) (a1_8 : Int) (a1_9 : Int) (a1_10 : Int) (a1_11 : Int) (a1_12 : Int) (a1_13 : Int) (a1_14 : Int) (a1_15 : Int) (a1_16 : Int) (a1_17 : Int) (a1_18 : Int) (a1_19 : Int) (a1_20 : Int) (r1 : List (S55)) (r2 : Int) (w : World) (hs0 : Kd.V k55 55 w w.heap.size (fun k_ => P0_ k_) (.slice A0 l0.length c0) l0) (h : impl_RuleAdd.f k l0 a1_0 a1_1 a1_2 a1_3 a1_4 a1_5 a1_6 a1_7 a1_8 a1_9 a1_10 a1_11 a1_12 a1_13 a1_14 a1_15 a1_16 a1_17 a1_18 a1_19 a1_20 = some (r1, r2)) :
  Calls Try.prog 27 #[.slice A0 l0.length c0, .agg #[.int .i64 a1_0, .int .i64 a1_1, .int .i64 a1_2, .int .i64 a1_3, .int .i64 a1_4, .int .i64 a1_5, .int .i64 a1_6, .int .i64 a1_7, .int .i64 a1_8, .int .i64 a1_9, .int .i64 a1_10, .int .i64 a1_11, .int .i64 a1_12, .int .i64 a1_13, .int .i64 a1_14, .int .i64 a1_15, .int .i64 a1_16, .int .i64 a1_17, .int .i64 a1_18, .int .i64 a1_19, .int .i64 a1_20]] w fun e w' => ∃ v0_ : Value, e = .returned (.tuple #[v0_, .int .i64 r2]) ∧ Kd.R k55 55 w' w.heap.size (fun k_ => (w.heap.size ≤ k_)) v0_ r1 ∧ Below w.heap.size w w' := by
 have hu55 := Try.underlying55
 have HO0 := Gv.a0 (show Kd.V k55 55 w w.heap.size (fun k_ => (P0_ k_ ∨ w.heap.size ≤ k_)) (.slice A0 l0.length c0) l0 from Kd.V_mono hs0 (fun k_ hk => .inl hk))
 have HB := Gv.a0 (Below.refl w.heap.size w)
 have H : ((impl_RulesOk.f k l0).bind fun t399 => (if t399 = true then ((impl_RuleOk.f k a1_0 a1_1 a1_2 a1_3 a1_4 a1_5 a1_6 a1_7 a1_8 a1_9 a1_10 a1_11 a1_12 a1_13 a1_14 a1_15 a1_16 a1_17 a1_18 a1_19 a1_20).bind fun t400 => (impl_RuleAdd.j0 k l0 (!t400) a1_0 a1_1 a1_2 a1_3 a1_4 a1_5 a1_6 a1_7 a1_8 a1_9 a1_10 a1_11 a1_12 a1_13 a1_14 a1_15 a1_16 a1_17 a1_18 a1_19 a1_20)) else (impl_RuleAdd.j0 k l0 true a1_0 a1_1 a1_2 a1_3 a1_4 a1_5 a1_6 a1_7 a1_8 a1_9 a1_10 a1_11 a1_12 a1_13 a1_14 a1_15 a1_16 a1_17 a1_18 a1_19 a1_20))) = some (r1, r2) := h
 clear h
 have HC3 := Gv.a0 H
 clear H
 go_enter Try.func27, Try.ntmps27
 go_upto_region 1 with (first | ((with_reducible refine gate_dst (N := 3) rfl ?_); refine box_event ?hg (N := 3) ?hd (cs := #[.int .i64 a1_0, .int .i64 a1_1, .int .i64 a1_2, .int .i64 a1_3, .int .i64 a1_4, .int .i64 a1_5, .int .i64 a1_6, .int .i64 a1_7, .int .i64 a1_8, .int .i64 a1_9, .int .i64 a1_10, .int .i64 a1_11, .int .i64 a1_12, .int .i64 a1_13, .int .i64 a1_14, .int .i64 a1_15, .int .i64 a1_16, .int .i64 a1_17, .int .i64 a1_18, .int .i64 a1_19, .int .i64 a1_20]) (t := 55) ?hr ?_; (case hd => rfl); (case hg => rfl); (case hr => first | (go_simp; done) | (go_simp; rfl)); intro gb398 hg w4 hbox hb; have n0_ := Gv.a0 (Kd.V_below (Kd.V_elderB (by (with_reducible repeat (first | apply Kd.V_alloc | apply Kd.V_drewN | apply Kd.V_drew)); exact HO0.out) gb398 (Nat.le_of_eq hg.symm)) hb); have n1_ := Gv.a0 (below_step Gv.bw hb); have n2_ := Gv.a0 (hbox); have n3_ := Gv.a0 ((Gv.ble hg Gv.bw : w.heap.size ≤ gb398)); have n4_ := Gv.a0 ((Gv.ble hg Gv.bw : w.heap.size ≤ gb398)); clear HO0; clear HB; have HO0 := n0_; have HB := n1_; have BK398 := n2_; have GW398 := n3_; have GE398 := n4_; clear n0_ n1_ n2_ n3_ n4_; clear hb hbox hg) | ((with_reducible refine gate_store (t := 55) (p := 3) rfl ?_); refine Gv.store_event rfl rfl rfl rfl rfl (Gv.kb BK398.out) (by kernel_rfl) rfl (by simp; and_intros <;> rfl) ?_; intro w4s hbox hoth hbel; have n0_ := Gv.a0 (hbox); have n1_ := Gv.a0 (hbel w Gv.bw GE398.out); clear BK398 HB; have BK398 := n0_; have HB := n1_; clear n0_ n1_ hbox hoth hbel) | ((with_reducible refine Gv.gate_load (t := 55) rfl ?_); (try (refine gate_guard (by rfl) ?_; dsimp only)); refine wpList_load_row rfl 55 _ rfl gb398 rfl 55 _ _ _ (by first | exact Gv.kb0 BK398.out | exact Gv.kb1 (Gv.kb0 BK398.out)) Try.underlying55 rfl (by kernel_rfl) ?_))
 (try simp only [Act.put, List.setIfInBounds_toArray, List.set_cons_zero, List.set_cons_succ])
 go_cut [7] (fun v7 wc => ∃ (kq : Nat) (x7_2 : Bool), v7 = .bool x7_2 ∧ Aside0 (impl_RuleAdd.j0 kq l0 x7_2 a1_0 a1_1 a1_2 a1_3 a1_4 a1_5 a1_6 a1_7 a1_8 a1_9 a1_10 a1_11 a1_12 a1_13 a1_14 a1_15 a1_16 a1_17 a1_18 a1_19 a1_20 = some (r1, r2)) ∧ Aside0 (kq ≤ k) ∧ Aside0 (Kd.V k55 55 wc w.heap.size (fun k_ => (P0_ k_ ∨ w.heap.size ≤ k_) ∧ k_ ≠ gb398) (.slice A0 l0.length c0) l0) ∧ Aside0 (wc.heap[gb398]? = some (.cells #[.int .i64 a1_0, .int .i64 a1_1, .int .i64 a1_2, .int .i64 a1_3, .int .i64 a1_4, .int .i64 a1_5, .int .i64 a1_6, .int .i64 a1_7, .int .i64 a1_8, .int .i64 a1_9, .int .i64 a1_10, .int .i64 a1_11, .int .i64 a1_12, .int .i64 a1_13, .int .i64 a1_14, .int .i64 a1_15, .int .i64 a1_16, .int .i64 a1_17, .int .i64 a1_18, .int .i64 a1_19, .int .i64 a1_20] 55 (0, 0))) ∧ Aside0 (Below w.heap.size w wc))
 case first =>
  have H := HC3.out
  clear HC3
  replace H := Option.bind_eq_some_iff.mp H
  obtain ⟨t399, A50, H⟩ := H
  replace H : (if t399 = true then ((impl_RuleOk.f k a1_0 a1_1 a1_2 a1_3 a1_4 a1_5 a1_6 a1_7 a1_8 a1_9 a1_10 a1_11 a1_12 a1_13 a1_14 a1_15 a1_16 a1_17 a1_18 a1_19 a1_20).bind fun t400 => (impl_RuleAdd.j0 k l0 (!t400) a1_0 a1_1 a1_2 a1_3 a1_4 a1_5 a1_6 a1_7 a1_8 a1_9 a1_10 a1_11 a1_12 a1_13 a1_14 a1_15 a1_16 a1_17 a1_18 a1_19 a1_20)) else (impl_RuleAdd.j0 k l0 true a1_0 a1_1 a1_2 a1_3 a1_4 a1_5 a1_6 a1_7 a1_8 a1_9 a1_10 a1_11 a1_12 a1_13 a1_14 a1_15 a1_16 a1_17 a1_18 a1_19 a1_20)) = some (r1, r2) := H
  have A5 := Gv.a0 A50
  clear A50
  by_cases c6 : t399 = true
  ·subst c6
   have H1 : ((impl_RuleOk.f k a1_0 a1_1 a1_2 a1_3 a1_4 a1_5 a1_6 a1_7 a1_8 a1_9 a1_10 a1_11 a1_12 a1_13 a1_14 a1_15 a1_16 a1_17 a1_18 a1_19 a1_20).bind fun t400 => (impl_RuleAdd.j0 k l0 (!t400) a1_0 a1_1 a1_2 a1_3 a1_4 a1_5 a1_6 a1_7 a1_8 a1_9 a1_10 a1_11 a1_12 a1_13 a1_14 a1_15 a1_16 a1_17 a1_18 a1_19 a1_20)) = some (r1, r2) := by rw [if_pos rfl] at H; exact H
   clear H
   have H := H1
   clear H1
   replace H := Option.bind_eq_some_iff.mp H
   obtain ⟨t400, A70, H⟩ := H
   replace H : (impl_RuleAdd.j0 k l0 (!t400) a1_0 a1_1 a1_2 a1_3 a1_4 a1_5 a1_6 a1_7 a1_8 a1_9 a1_10 a1_11 a1_12 a1_13 a1_14 a1_15 a1_16 a1_17 a1_18 a1_19 a1_20) = some (r1, r2) := H
   have A7 := Gv.a0 A70
   clear A70
   have H' := Gv.a0 H
   clear H
   go_wp2_with (first | ((with_reducible refine gate_callee (f := 11) rfl ?_); refine goesL_ (some 9) rfl rfl Try.func11 (by kernel_rfl) rfl #[.slice A0 l0.length c0] rfl Gv.lm ?_; (with_reducible refine (impl_RulesOk.calls k _ _ l0 true _ ?side1 ?side2 A5.out).mono ?_); (case side1 => repeat (first | exact (Kd.V_reads' HO0.out).2.2 | (with_reducible refine Kd.C_alloc ?_ _) | (with_reducible refine Kd.C_drewN ?_ _) | (with_reducible refine Kd.C_drew ?_))); (case side2 => exact (Kd.V_reads' HO0.out).2.1); rintro e w8 ⟨rfl, hb⟩; refine ⟨_, rfl, ?_⟩; have n0_ := Gv.a0 (Kd.V_below (by (with_reducible repeat (first | apply Kd.V_alloc | apply Kd.V_drewN | apply Kd.V_drew)); exact HO0.out) hb); have n1_ := Gv.a0 (Gv.bb BK398.out hb); have n2_ := Gv.a0 (below_step Gv.bw hb); clear HO0; clear BK398; clear HB; have HO0 := n0_; have BK398 := n1_; have HB := n2_; clear n0_ n1_ n2_; (try clear hb); (try clear hb2); (try clear hk); (try clear hi); obtain ⟨hcz9_0, hcz9_1, hcz9_2, hcz9_3, hcz9_4, hcz9_5, hcz9_6, hcz9_7, hcz9_8, hcz9_9, hcz9_10, hcz9_11, hcz9_12, hcz9_13, hcz9_14, hcz9_15, hcz9_16, hcz9_17, hcz9_18, hcz9_19, hcz9_20⟩ := Gv.c21 BK398.out) | (go_at_call 29; (with_reducible refine (impl_RuleOk.calls k a1_0 a1_1 a1_2 a1_3 a1_4 a1_5 a1_6 a1_7 a1_8 a1_9 a1_10 a1_11 a1_12 a1_13 a1_14 a1_15 a1_16 a1_17 a1_18 a1_19 a1_20 t400 _ A7.out).mono ?_); rintro e w10 ⟨rfl, hb⟩; have n0_ := Gv.a0 (Kd.V_below (by (with_reducible repeat (first | apply Kd.V_alloc | apply Kd.V_drewN | apply Kd.V_drew)); exact HO0.out) hb); have n1_ := Gv.a0 (Gv.bb BK398.out hb); have n2_ := Gv.a0 (below_step Gv.bw hb); clear HO0; clear BK398; clear HB; have HO0 := n0_; have BK398 := n1_; have HB := n2_; clear n0_ n1_ n2_; (try clear hb); (try clear hb2); (try clear hk); (try clear hi)) | ((with_reducible refine Gv.gate_load (t := 55) rfl ?_); (try (refine gate_guard (by rfl) ?_; dsimp only)); refine wpList_load_row rfl 55 _ rfl gb398 rfl 55 _ _ _ (by first | exact Gv.kb0 BK398.out | exact Gv.kb1 (Gv.kb0 BK398.out)) Try.underlying55 rfl (by kernel_rfl) ?_))
   go_meet
   case rel => exact ⟨_, (!t400), Gv.rq, H', ⟨by first | omega | exact Nat.le_refl _⟩, ⟨by (with_reducible repeat (first | apply Kd.V_alloc | apply Kd.V_drewN | apply Kd.V_drew)); exact HO0.out⟩, ⟨by (with_reducible repeat (first | refine blk_drewN ?_ _ | refine blk_drew ?_ | refine blk_alloc ?_ _)); exact BK398.out⟩, ⟨Gv.bw⟩⟩
  ·replace c6 := Bool.eq_false_iff.mpr c6
   subst c6
   have H1 : (impl_RuleAdd.j0 k l0 true a1_0 a1_1 a1_2 a1_3 a1_4 a1_5 a1_6 a1_7 a1_8 a1_9 a1_10 a1_11 a1_12 a1_13 a1_14 a1_15 a1_16 a1_17 a1_18 a1_19 a1_20) = some (r1, r2) := by rw [if_neg (show ¬ (false = true) by decide)] at H; exact H
   clear H
   have H := H1
   clear H1
   have H' := Gv.a0 H
   clear H
   go_wp2_with (first | ((with_reducible refine gate_callee (f := 11) rfl ?_); refine goesL_ (some 9) rfl rfl Try.func11 (by kernel_rfl) rfl #[.slice A0 l0.length c0] rfl Gv.lm ?_; (with_reducible refine (impl_RulesOk.calls k _ _ l0 false _ ?side1 ?side2 A5.out).mono ?_); (case side1 => repeat (first | exact (Kd.V_reads' HO0.out).2.2 | (with_reducible refine Kd.C_alloc ?_ _) | (with_reducible refine Kd.C_drewN ?_ _) | (with_reducible refine Kd.C_drew ?_))); (case side2 => exact (Kd.V_reads' HO0.out).2.1); rintro e w11 ⟨rfl, hb⟩; refine ⟨_, rfl, ?_⟩; have n0_ := Gv.a0 (Kd.V_below (by (with_reducible repeat (first | apply Kd.V_alloc | apply Kd.V_drewN | apply Kd.V_drew)); exact HO0.out) hb); have n1_ := Gv.a0 (Gv.bb BK398.out hb); have n2_ := Gv.a0 (below_step Gv.bw hb); clear HO0; clear BK398; clear HB; have HO0 := n0_; have BK398 := n1_; have HB := n2_; clear n0_ n1_ n2_; (try clear hb); (try clear hb2); (try clear hk); (try clear hi)) | ((with_reducible refine Gv.gate_load (t := 55) rfl ?_); (try (refine gate_guard (by rfl) ?_; dsimp only)); refine wpList_load_row rfl 55 _ rfl gb398 rfl 55 _ _ _ (by first | exact Gv.kb0 BK398.out | exact Gv.kb1 (Gv.kb0 BK398.out)) Try.underlying55 rfl (by kernel_rfl) ?_))
   go_meet
   case rel => exact ⟨_, (true), Gv.rq, H', ⟨by first | omega | exact Nat.le_refl _⟩, ⟨by (with_reducible repeat (first | apply Kd.V_alloc | apply Kd.V_drewN | apply Kd.V_drew)); exact HO0.out⟩, ⟨by (with_reducible repeat (first | refine blk_drewN ?_ _ | refine blk_drew ?_ | refine blk_alloc ?_ _)); exact BK398.out⟩, ⟨Gv.bw⟩⟩
 case rest =>
  clear HC3
  try clear c1
  try clear c2
  try clear p2
  try clear c6
  try clear c11
  try clear hcz9_0 hcz9_1
  try clear hcz9_10 hcz9_11 hcz9_12 hcz9_13 hcz9_14 hcz9_15 hcz9_16 hcz9_17 hcz9_18 hcz9_19
  try clear hcz9_2
  try clear hcz9_20
  try clear hcz9_3 hcz9_4 hcz9_5 hcz9_6 hcz9_7 hcz9_8 hcz9_9
  obtain ⟨kq, x7_2, rfl, HA, HJ2, HO_0, BK398, HB⟩ := hcut
  cases kq with
  | zero => exact absurd HA.out (by simp [impl_RuleAdd.j0])
  | succ kj2 =>
   have H := HA.out
   clear HA
   simp only [impl_RuleAdd.j0] at H
   by_cases c12 : x7_2 = true
   ·subst c12
    have H1 : (some (([] : List (S55)), 1)) = some (r1, r2) := by rw [if_pos rfl] at H; exact H
    clear H
    have H := H1
    clear H1
    simp only [Option.some.injEq, Prod.mk.injEq] at H
    obtain ⟨rfl, rfl⟩ := H
    go_wp2_with (first | ((with_reducible refine Gv.gate_load (t := 55) rfl ?_); (try (refine gate_guard (by rfl) ?_; dsimp only)); refine wpList_load_row rfl 55 _ rfl gb398 rfl 55 _ _ _ (by first | exact Gv.kb0 BK398.out | exact Gv.kb1 (Gv.kb0 BK398.out)) Try.underlying55 rfl (by kernel_rfl) ?_))
    go_ret2
    exact ⟨_, Gv.rt, by first | exact Kd.R_nil _ _ _ _ _ | exact Kd.N_nil _ _ _ _ _ | exact Kd.V_nil _ _ _ _ _ | exact Kd.Q_nil _ _ _ _ _ | exact Kd.S_nil _ _ _ _ _, Gv.bw⟩
   ·replace c12 := Bool.eq_false_iff.mpr c12
    subst c12
    have H1 : ((impl_ruleAt.f l0 a1_0).bind fun t401 => (if t401 ≥ 0 then (some (([] : List (S55)), 2)) else (if (l0.length : Int) = 32 then (some (([] : List (S55)), 3)) else (impl_RuleAdd.l0 kj2 l0 0 a1_0 a1_1 a1_2 a1_3 a1_4 a1_5 a1_6 a1_7 a1_8 a1_9 a1_10 a1_11 a1_12 a1_13 a1_14 a1_15 a1_16 a1_17 a1_18 a1_19 a1_20)))) = some (r1, r2) := by rw [if_neg (show ¬ (false = true) by decide)] at H; exact H
    clear H
    have H := H1
    clear H1
    replace H := Option.bind_eq_some_iff.mp H
    obtain ⟨t401, A130, H⟩ := H
    replace H : (if t401 ≥ 0 then (some (([] : List (S55)), 2)) else (if (l0.length : Int) = 32 then (some (([] : List (S55)), 3)) else (impl_RuleAdd.l0 kj2 l0 0 a1_0 a1_1 a1_2 a1_3 a1_4 a1_5 a1_6 a1_7 a1_8 a1_9 a1_10 a1_11 a1_12 a1_13 a1_14 a1_15 a1_16 a1_17 a1_18 a1_19 a1_20))) = some (r1, r2) := H
    have A13 := Gv.a0 A130
    clear A130
    by_cases c14 : t401 ≥ 0
    ·rw [if_pos c14] at H
     have c14b0 : decide (0 ≤ t401) = true := decide_eq_true c14
     clear c14
     simp only [Option.some.injEq, Prod.mk.injEq] at H
     obtain ⟨rfl, rfl⟩ := H
     obtain ⟨hcz15_0, hcz15_1, hcz15_2, hcz15_3, hcz15_4, hcz15_5, hcz15_6, hcz15_7, hcz15_8, hcz15_9, hcz15_10, hcz15_11, hcz15_12, hcz15_13, hcz15_14, hcz15_15, hcz15_16, hcz15_17, hcz15_18, hcz15_19, hcz15_20⟩ := Gv.c21 BK398.out
     go_wp2_with (first | ((with_reducible refine gate_callee (f := 41) rfl ?_); refine goesL_ (some 20) rfl rfl Try.func41 (by kernel_rfl) rfl #[.slice A0 l0.length c0, .int .i64 a1_0] rfl Gv.lm ?_; (with_reducible refine (impl_ruleAt.calls _ _ l0 a1_0 t401 _ ?side1 ?side2 A13.out).mono ?_); (case side1 => repeat (first | exact (Kd.V_reads' HO_0.out).2.2 | (with_reducible refine Kd.C_alloc ?_ _) | (with_reducible refine Kd.C_drewN ?_ _) | (with_reducible refine Kd.C_drew ?_))); (case side2 => exact (Kd.V_reads' HO_0.out).2.1); rintro e w16 ⟨rfl, hb⟩; refine ⟨_, rfl, ?_⟩; have n0_ := Gv.a0 (Kd.V_below (by (with_reducible repeat (first | apply Kd.V_alloc | apply Kd.V_drewN | apply Kd.V_drew)); exact HO_0.out) hb); have n1_ := Gv.a0 (Gv.bb BK398.out hb); have n2_ := Gv.a0 (below_step Gv.bw hb); clear HO_0; clear BK398; clear HB; have HO_0 := n0_; have BK398 := n1_; have HB := n2_; clear n0_ n1_ n2_; (try clear hb); (try clear hb2); (try clear hk); (try clear hi)) | ((with_reducible refine Gv.gate_load (t := 55) rfl ?_); (try (refine gate_guard (by rfl) ?_; dsimp only)); refine wpList_load_row rfl 55 _ rfl gb398 rfl 55 _ _ _ (by first | exact Gv.kb0 BK398.out | exact Gv.kb1 (Gv.kb0 BK398.out)) Try.underlying55 rfl (by kernel_rfl) ?_))
     go_ret2
     exact ⟨_, Gv.rt, by first | exact Kd.R_nil _ _ _ _ _ | exact Kd.N_nil _ _ _ _ _ | exact Kd.V_nil _ _ _ _ _ | exact Kd.Q_nil _ _ _ _ _ | exact Kd.S_nil _ _ _ _ _, Gv.bw⟩
    ·rw [if_neg c14] at H
     have c14b0 : decide (0 ≤ t401) = false := decide_eq_false c14
     clear c14
     by_cases c17 : (l0.length : Int) = 32
     ·rw [if_pos c17] at H
      have c17b0 : ((l0.length : Int) == 32) = true := beq_iff_eq.mpr c17
      have c17b1 : ((l0.length : Int) != 32) = false := bne_eq_false_iff_eq.mpr c17
      clear c17
      simp only [Option.some.injEq, Prod.mk.injEq] at H
      obtain ⟨rfl, rfl⟩ := H
      obtain ⟨hcz18_0, hcz18_1, hcz18_2, hcz18_3, hcz18_4, hcz18_5, hcz18_6, hcz18_7, hcz18_8, hcz18_9, hcz18_10, hcz18_11, hcz18_12, hcz18_13, hcz18_14, hcz18_15, hcz18_16, hcz18_17, hcz18_18, hcz18_19, hcz18_20⟩ := Gv.c21 BK398.out
      go_wp2_with (first | ((with_reducible refine gate_callee (f := 41) rfl ?_); refine goesL_ (some 20) rfl rfl Try.func41 (by kernel_rfl) rfl #[.slice A0 l0.length c0, .int .i64 a1_0] rfl Gv.lm ?_; (with_reducible refine (impl_ruleAt.calls _ _ l0 a1_0 t401 _ ?side1 ?side2 A13.out).mono ?_); (case side1 => repeat (first | exact (Kd.V_reads' HO_0.out).2.2 | (with_reducible refine Kd.C_alloc ?_ _) | (with_reducible refine Kd.C_drewN ?_ _) | (with_reducible refine Kd.C_drew ?_))); (case side2 => exact (Kd.V_reads' HO_0.out).2.1); rintro e w19 ⟨rfl, hb⟩; refine ⟨_, rfl, ?_⟩; have n0_ := Gv.a0 (Kd.V_below (by (with_reducible repeat (first | apply Kd.V_alloc | apply Kd.V_drewN | apply Kd.V_drew)); exact HO_0.out) hb); have n1_ := Gv.a0 (Gv.bb BK398.out hb); have n2_ := Gv.a0 (below_step Gv.bw hb); clear HO_0; clear BK398; clear HB; have HO_0 := n0_; have BK398 := n1_; have HB := n2_; clear n0_ n1_ n2_; (try clear hb); (try clear hb2); (try clear hk); (try clear hi)) | ((with_reducible refine Gv.gate_load (t := 55) rfl ?_); (try (refine gate_guard (by rfl) ?_; dsimp only)); refine wpList_load_row rfl 55 _ rfl gb398 rfl 55 _ _ _ (by first | exact Gv.kb0 BK398.out | exact Gv.kb1 (Gv.kb0 BK398.out)) Try.underlying55 rfl (by kernel_rfl) ?_))
      go_ret2
      exact ⟨_, Gv.rt, by first | exact Kd.R_nil _ _ _ _ _ | exact Kd.N_nil _ _ _ _ _ | exact Kd.V_nil _ _ _ _ _ | exact Kd.Q_nil _ _ _ _ _ | exact Kd.S_nil _ _ _ _ _, Gv.bw⟩
     ·rw [if_neg c17] at H
      have c17b0 : ((l0.length : Int) == 32) = false := beq_eq_false_iff_ne.mpr c17
      have c17b1 : ((l0.length : Int) != 32) = true := bne_iff_ne.mpr c17
      have H' := Gv.a0 H
      clear H
      obtain ⟨hcz20_0, hcz20_1, hcz20_2, hcz20_3, hcz20_4, hcz20_5, hcz20_6, hcz20_7, hcz20_8, hcz20_9, hcz20_10, hcz20_11, hcz20_12, hcz20_13, hcz20_14, hcz20_15, hcz20_16, hcz20_17, hcz20_18, hcz20_19, hcz20_20⟩ := Gv.c21 BK398.out
      go_wp2_with (first | ((with_reducible refine gate_callee (f := 41) rfl ?_); refine goesL_ (some 20) rfl rfl Try.func41 (by kernel_rfl) rfl #[.slice A0 l0.length c0, .int .i64 a1_0] rfl Gv.lm ?_; (with_reducible refine (impl_ruleAt.calls _ _ l0 a1_0 t401 _ ?side1 ?side2 A13.out).mono ?_); (case side1 => repeat (first | exact (Kd.V_reads' HO_0.out).2.2 | (with_reducible refine Kd.C_alloc ?_ _) | (with_reducible refine Kd.C_drewN ?_ _) | (with_reducible refine Kd.C_drew ?_))); (case side2 => exact (Kd.V_reads' HO_0.out).2.1); rintro e w21 ⟨rfl, hb⟩; refine ⟨_, rfl, ?_⟩; have n0_ := Gv.a0 (Kd.V_below (by (with_reducible repeat (first | apply Kd.V_alloc | apply Kd.V_drewN | apply Kd.V_drew)); exact HO_0.out) hb); have n1_ := Gv.a0 (Gv.bb BK398.out hb); have n2_ := Gv.a0 (below_step Gv.bw hb); clear HO_0; clear BK398; clear HB; have HO_0 := n0_; have BK398 := n1_; have HB := n2_; clear n0_ n1_ n2_; (try clear hb); (try clear hb2); (try clear hk); (try clear hi)) | ((with_reducible refine Gv.gate_load (t := 55) rfl ?_); (try (refine gate_guard (by rfl) ?_; dsimp only)); refine wpList_load_row rfl 55 _ rfl gb398 rfl 55 _ _ _ (by first | exact Gv.kb0 BK398.out | exact Gv.kb1 (Gv.kb0 BK398.out)) Try.underlying55 rfl (by kernel_rfl) ?_))
      go_loopg [6] kj2 (fun kq v6 w' => ∃ (x6_2 : Int), v6 = .int .i64 x6_2 ∧ Aside0 (impl_RuleAdd.l0 kq l0 x6_2 a1_0 a1_1 a1_2 a1_3 a1_4 a1_5 a1_6 a1_7 a1_8 a1_9 a1_10 a1_11 a1_12 a1_13 a1_14 a1_15 a1_16 a1_17 a1_18 a1_19 a1_20 = some (r1, r2)) ∧ Aside0 (kq ≤ kj2) ∧ Aside0 (Kd.V k55 55 w' w.heap.size (fun k_ => (P0_ k_ ∨ w.heap.size ≤ k_) ∧ k_ ≠ gb398) (.slice A0 l0.length c0) l0) ∧ Aside0 (w'.heap[gb398]? = some (.cells #[.int .i64 a1_0, .int .i64 a1_1, .int .i64 a1_2, .int .i64 a1_3, .int .i64 a1_4, .int .i64 a1_5, .int .i64 a1_6, .int .i64 a1_7, .int .i64 a1_8, .int .i64 a1_9, .int .i64 a1_10, .int .i64 a1_11, .int .i64 a1_12, .int .i64 a1_13, .int .i64 a1_14, .int .i64 a1_15, .int .i64 a1_16, .int .i64 a1_17, .int .i64 a1_18, .int .i64 a1_19, .int .i64 a1_20] 55 (0, 0))) ∧ Aside0 (Below w.heap.size w w'))
      case atStart => exact ⟨(0), Gv.rq, H', ⟨Nat.le_refl _⟩, ⟨by (with_reducible repeat (first | apply Kd.V_alloc | apply Kd.V_drewN | apply Kd.V_drew)); exact HO_0.out⟩, ⟨by (with_reducible repeat (first | refine blk_drewN ?_ _ | refine blk_drew ?_ | refine blk_alloc ?_ _)); exact BK398.out⟩, ⟨Gv.bw⟩⟩
      case round =>
       clear H'
       try clear c1
       try clear c2
       try clear p2
       try clear c4
       try clear c6
       try clear c11
       try clear c12
       try clear c14
       try clear c14b0
       try clear c17
       try clear c17b0
       try clear c17b1
       try clear hcz15_0 hcz15_1
       try clear hcz15_10 hcz15_11 hcz15_12 hcz15_13 hcz15_14 hcz15_15 hcz15_16 hcz15_17 hcz15_18 hcz15_19
       try clear hcz15_2
       try clear hcz15_20
       try clear hcz15_3 hcz15_4 hcz15_5 hcz15_6 hcz15_7 hcz15_8 hcz15_9
       try clear hcz18_0 hcz18_1
       try clear hcz18_10 hcz18_11 hcz18_12 hcz18_13 hcz18_14 hcz18_15 hcz18_16 hcz18_17 hcz18_18 hcz18_19
       try clear hcz18_2
       try clear hcz18_20
       try clear hcz18_3 hcz18_4 hcz18_5 hcz18_6 hcz18_7 hcz18_8 hcz18_9
       try clear hcz20_0 hcz20_1
       try clear hcz20_10 hcz20_11 hcz20_12 hcz20_13 hcz20_14 hcz20_15 hcz20_16 hcz20_17 hcz20_18 hcz20_19
       try clear hcz20_2
       try clear hcz20_20
       try clear hcz20_3 hcz20_4 hcz20_5 hcz20_6 hcz20_7 hcz20_8 hcz20_9
       try clear hcz9_0 hcz9_1
       try clear hcz9_10 hcz9_11 hcz9_12 hcz9_13 hcz9_14 hcz9_15 hcz9_16 hcz9_17 hcz9_18 hcz9_19
       try clear hcz9_2
       try clear hcz9_20
       try clear hcz9_3 hcz9_4 hcz9_5 hcz9_6 hcz9_7 hcz9_8 hcz9_9
       try clear p2
       obtain ⟨x6_2, rfl, HA, HK2, HO_0, BK398, HB⟩ := hrel
       cases gk with
       | zero => exact absurd HA.out (by simp [impl_RuleAdd.l0])
       | succ k2 =>
        have H := HA.out
        clear HA
        simp only [impl_RuleAdd.l0] at H
        by_cases c22 : x6_2 < (l0.length : Int)
        ·rw [if_pos c22] at H
         have c22b0 : decide (x6_2 < (l0.length : Int)) = true := decide_eq_true c22
         clear c22
         by_cases c23 : 0 ≤ x6_2
         ·rw [if_pos c23] at H
          have c23b0 : decide (0 ≤ x6_2) = true := decide_eq_true c23
          clear c23
          by_cases c24 : ((rd_T55 l0 x6_2).f0) < a1_0
          ·rw [if_pos c24] at H
           have c24b0 : decide (((rd_T55 l0 x6_2).f0) < a1_0) = true := decide_eq_true c24
           clear c24
           have H' := Gv.a0 H
           clear H
           try go_wp2
           have n0_ := Gv.a0 (Kd.V_drew HO_0.out)
           have n1_ := Gv.a0 (blk_drew BK398.out)
           have n2_ := Gv.a0 (below_drew1 HB.out)
           clear HO_0
           clear BK398
           clear HB
           have HO_0 := n0_
           have BK398 := n1_
           have HB := n2_
           clear n0_ n1_ n2_
           have p402 : 0 ≤ (x6_2 : Int) := of_decide_eq_true (by first | (with_reducible assumption) | assumption)
           have q402 : x6_2 < (l0.length : Int) := of_decide_eq_true (by first | (with_reducible assumption) | assumption)
           obtain ⟨ad402, e402, hx402_0, _, _, _, _, _, _, _, _, _, _, _, _, _, _, _, _, _, _, _, _⟩ := at_T55 (Kd.V_reads' HO_0.out).2.2 x6_2 p402 q402
           cases e402
           replace p402 := eq_true p402
           replace q402 := eq_true q402
           refine start_ (n := 14) (S := fun w' => w'.cell? ⟨gb398, 0, none⟩ = some (.int .i64 a1_0) ∧ w'.cell? ⟨gb398, 1, none⟩ = some (.int .i64 a1_1) ∧ w'.cell? ⟨gb398, 2, none⟩ = some (.int .i64 a1_2) ∧ w'.cell? ⟨gb398, 3, none⟩ = some (.int .i64 a1_3) ∧ w'.cell? ⟨gb398, 4, none⟩ = some (.int .i64 a1_4) ∧ w'.cell? ⟨gb398, 5, none⟩ = some (.int .i64 a1_5) ∧ w'.cell? ⟨gb398, 6, none⟩ = some (.int .i64 a1_6) ∧ w'.cell? ⟨gb398, 7, none⟩ = some (.int .i64 a1_7) ∧ w'.cell? ⟨gb398, 8, none⟩ = some (.int .i64 a1_8) ∧ w'.cell? ⟨gb398, 9, none⟩ = some (.int .i64 a1_9) ∧ w'.cell? ⟨gb398, 10, none⟩ = some (.int .i64 a1_10) ∧ w'.cell? ⟨gb398, 11, none⟩ = some (.int .i64 a1_11) ∧ w'.cell? ⟨gb398, 12, none⟩ = some (.int .i64 a1_12) ∧ w'.cell? ⟨gb398, 13, none⟩ = some (.int .i64 a1_13) ∧ w'.cell? ⟨gb398, 14, none⟩ = some (.int .i64 a1_14) ∧ w'.cell? ⟨gb398, 15, none⟩ = some (.int .i64 a1_15) ∧ w'.cell? ⟨gb398, 16, none⟩ = some (.int .i64 a1_16) ∧ w'.cell? ⟨gb398, 17, none⟩ = some (.int .i64 a1_17) ∧ w'.cell? ⟨gb398, 18, none⟩ = some (.int .i64 a1_18) ∧ w'.cell? ⟨gb398, 19, none⟩ = some (.int .i64 a1_19) ∧ w'.cell? ⟨gb398, 20, none⟩ = some (.int .i64 a1_20) ∧ w'.cell? (ad402.add ((x6_2).toNat * 21)) = some (.int .i64 ((rd_T55 l0 x6_2).f0))) (ds := []) #[false, false, false, false, false, false, false, false, false, false, false, false, false, false] (by kernel_rfl) rfl rfl ⟨(blk_cell BK398.out 0).trans rfl, (blk_cell BK398.out 1).trans rfl, (blk_cell BK398.out 2).trans rfl, (blk_cell BK398.out 3).trans rfl, (blk_cell BK398.out 4).trans rfl, (blk_cell BK398.out 5).trans rfl, (blk_cell BK398.out 6).trans rfl, (blk_cell BK398.out 7).trans rfl, (blk_cell BK398.out 8).trans rfl, (blk_cell BK398.out 9).trans rfl, (blk_cell BK398.out 10).trans rfl, (blk_cell BK398.out 11).trans rfl, (blk_cell BK398.out 12).trans rfl, (blk_cell BK398.out 13).trans rfl, (blk_cell BK398.out 14).trans rfl, (blk_cell BK398.out 15).trans rfl, (blk_cell BK398.out 16).trans rfl, (blk_cell BK398.out 17).trans rfl, (blk_cell BK398.out 18).trans rfl, (blk_cell BK398.out 19).trans rfl, (blk_cell BK398.out 20).trans rfl, hx402_0⟩ (fun hHeld => ?_); refine with_tabW impl_RuleAdd.tab8 impl_RuleAdd.bits8 (fun HT_ HW_ => ?_)
           generalize wr.drew = w25 at HO_0 BK398 HB hx402_0 hHeld ⊢
           refine Gv.pu 0 (some 26) HT_ ?_
           refine Gv.pu 1 (some 27) HT_ ?_
           refine Gv.pu 2 (some 28) HT_ ?_
           refine Gv.pu 3 (some 29) HT_ ?_
           refine Gv.pu 4 (some 30) HT_ ?_
           refine Gv.pu 5 (some 31) HT_ ?_
           refine Gv.pu 6 (some 32) HT_ ?_
           refine Gv.pu 7 (some 33) HT_ ?_
           refine Gv.pu 8 (some 34) HT_ ?_
           refine Gv.pu 10 (some 36) HT_ ?_
           refine take_ (i := 9) (N := some 35) (v := ?_) (a' := ?_) #[true, true, true, true, true, true, true, true, true, true, true, false, false, false] rfl rfl (take_ofW HT_.out HW_.out (by kernel_rfl)) (fun _ _ _ h => h) (Or.inl ⟨by rfl, ?_⟩) hHeld ?_ ?_
           rotate_left
           ·rintro w' ⟨s0, s1, s2, s3, s4, s5, s6, s7, s8, s9, s10, s11, s12, s13, s14, s15, s16, s17, s18, s19, s20, s21⟩
            first | ((refine Gv.load_run (t := 55) (A := ⟨gb398, 0, none⟩) (cs := [_, _, _, _, _, _, _, _, _, _, _, _, _, _, _, _, _, _, _, _, _]) (x := ?xx39_) ?ho39_ ?hx39_ ⟨s0, s1, s2, s3, s4, s5, s6, s7, s8, s9, s10, s11, s12, s13, s14, s15, s16, s17, s18, s19, s20, trivial⟩ Try.underlying55 rfl (by kernel_rfl)); (case ho39_ => rfl); (case hx39_ => rfl)) | (go_simp; with_reducible rfl)
           rotate_left
           ·simp only [Act.put, List.setIfInBounds_toArray, List.set_cons_zero, List.set_cons_succ, i64_w, i32_w]
            rfl
           refine take_ (i := 11) (N := some 37) (v := ?_) (a' := ?_) #[true, true, true, true, true, true, true, true, true, true, true, true, false, false] rfl rfl (take_ofW HT_.out HW_.out (by kernel_rfl)) (fun _ _ _ h => h) (Or.inl ⟨by rfl, ?_⟩) hHeld ?_ ?_
           rotate_left
           ·rintro w' ⟨s0, s1, s2, s3, s4, s5, s6, s7, s8, s9, s10, s11, s12, s13, s14, s15, s16, s17, s18, s19, s20, s21⟩
            first | ((refine Gv.load_run (t := 55) (A := ⟨gb398, 0, none⟩) (cs := [_, _, _, _, _, _, _, _, _, _, _, _, _, _, _, _, _, _, _, _, _]) (x := ?xx41_) ?ho41_ ?hx41_ ⟨s0, s1, s2, s3, s4, s5, s6, s7, s8, s9, s10, s11, s12, s13, s14, s15, s16, s17, s18, s19, s20, trivial⟩ Try.underlying55 rfl (by kernel_rfl)); (case ho41_ => rfl); (case hx41_ => rfl)) | (go_simp; with_reducible rfl)
           rotate_left
           ·simp only [Act.put, List.setIfInBounds_toArray, List.set_cons_zero, List.set_cons_succ, i64_w, i32_w]
            rfl
           refine Gv.pu 12 (some 38) HT_ ?_
           refine Gv.pu 13 (some 39) HT_ ?_
           refine done_ (done_of HT_.out (by kernel_rfl)) ?_
           try go_wp2
           go_roundg k2
           case measure => have := HJ2.out; have := HK2.out; omega
           case rel => exact ⟨(wrap64 (x6_2 + 1)), Gv.rq, H', ⟨by have := HJ2.out; have := HK2.out; omega⟩, ⟨by (with_reducible repeat (first | apply Kd.V_alloc | apply Kd.V_drewN | apply Kd.V_drew)); exact HO_0.out⟩, ⟨by (with_reducible repeat (first | refine blk_drewN ?_ _ | refine blk_drew ?_ | refine blk_alloc ?_ _)); exact BK398.out⟩, ⟨Gv.bw⟩⟩
          ·rw [if_neg c24] at H
           have c24b0 : decide (((rd_T55 l0 x6_2).f0) < a1_0) = false := decide_eq_false c24
           clear c24
           have c26b0 := eq_true (of_decide_eq_true (by first | (with_reducible assumption) | assumption) : 0 ≤ x6_2)
           by_cases c27 : x6_2 ≤ (l0.length : Int)
           ·rw [if_pos c27] at H
            have c27b0 := eq_true c27
            have c27b1 : decide (x6_2 ≤ (l0.length : Int)) = true := decide_eq_true c27
            clear c27
            obtain ⟨y403, hy403⟩ : ∃ y_ : List (S55), y_ = (l0.take (x6_2 : Int).toNat) := ⟨_, rfl⟩
            replace H : ((impl_Rule_42.f k2 (([y403, (([(⟨a1_0, (⟨(⟨a1_1, a1_2, a1_3, a1_4, a1_5⟩ : S34), a1_6⟩ : S53), (⟨(⟨a1_7, a1_8, a1_9, a1_10, a1_11⟩ : S34), a1_12⟩ : S53), a1_13, a1_14, a1_15, a1_16, a1_17, a1_18, a1_19, a1_20⟩ : S55)] : List (S55))), (l0.drop (x6_2 : Int).toNat)] : List (List (S55))))).bind fun t419 => (some (t419, 0))) = some (r1, r2) := by first | (rw [hy403]; with_reducible exact H) | (have H2_ := (Option.bind_some _ _).symm.trans H; rw [hy403]; with_reducible exact H2_) | (have H2_ := (Option.bind_some _ _).symm.trans H; with_reducible exact H2_) | with_reducible exact H | (rw [hy403]; exact H) | exact H
            have Ny403 := Gv.a0 hy403
            clear hy403
            obtain ⟨y408, hy408⟩ : ∃ y_ : List (S55), y_ = (([(⟨a1_0, (⟨(⟨a1_1, a1_2, a1_3, a1_4, a1_5⟩ : S34), a1_6⟩ : S53), (⟨(⟨a1_7, a1_8, a1_9, a1_10, a1_11⟩ : S34), a1_12⟩ : S53), a1_13, a1_14, a1_15, a1_16, a1_17, a1_18, a1_19, a1_20⟩ : S55)] : List (S55))) := ⟨_, rfl⟩
            replace H : ((impl_Rule_42.f k2 (([y403, y408, (l0.drop (x6_2 : Int).toNat)] : List (List (S55))))).bind fun t419 => (some (t419, 0))) = some (r1, r2) := by first | (rw [hy408]; with_reducible exact H) | (have H2_ := (Option.bind_some _ _).symm.trans H; rw [hy408]; with_reducible exact H2_) | (have H2_ := (Option.bind_some _ _).symm.trans H; with_reducible exact H2_) | with_reducible exact H | (rw [hy408]; exact H) | exact H
            have Ny408 := Gv.a0 hy408
            clear hy408
            have c28b0 := eq_true (of_decide_eq_true (by first | (with_reducible assumption) | assumption) : 0 ≤ x6_2)
            have c29b0 := eq_true (of_decide_eq_true (by first | (with_reducible assumption) | assumption) : x6_2 ≤ (l0.length : Int))
            obtain ⟨y411, hy411⟩ : ∃ y_ : List (S55), y_ = (l0.drop (x6_2 : Int).toNat) := ⟨_, rfl⟩
            replace H : ((impl_Rule_42.f k2 (([y403, y408, y411] : List (List (S55))))).bind fun t419 => (some (t419, 0))) = some (r1, r2) := by first | (rw [hy411]; with_reducible exact H) | (have H2_ := (Option.bind_some _ _).symm.trans H; rw [hy411]; with_reducible exact H2_) | (have H2_ := (Option.bind_some _ _).symm.trans H; with_reducible exact H2_) | with_reducible exact H | (rw [hy411]; exact H) | exact H
            have Ny411 := Gv.a0 hy411
            clear hy411
            obtain ⟨y416, hy416⟩ : ∃ y_ : List (List (S55)), y_ = (([y403, y408, y411] : List (List (S55)))) := ⟨_, rfl⟩
            replace H : ((impl_Rule_42.f k2 y416).bind fun t419 => (some (t419, 0))) = some (r1, r2) := by first | (rw [hy416]; with_reducible exact H) | (have H2_ := (Option.bind_some _ _).symm.trans H; rw [hy416]; with_reducible exact H2_) | (have H2_ := (Option.bind_some _ _).symm.trans H; with_reducible exact H2_) | with_reducible exact H | (rw [hy416]; exact H) | exact H
            have Ny416 := Gv.a0 hy416
            clear hy416
            replace H := Option.bind_eq_some_iff.mp H
            obtain ⟨t419, A300, H⟩ := H
            replace H : (some (t419, 0)) = some (r1, r2) := H
            have A30 := Gv.a0 A300
            clear A300
            simp only [Option.some.injEq, Prod.mk.injEq] at H
            obtain ⟨rfl, rfl⟩ := H
            try go_wp2
            have n0_ := Gv.a0 (Kd.V_drew HO_0.out)
            have n1_ := Gv.a0 (blk_drew BK398.out)
            have n2_ := Gv.a0 (below_drew1 HB.out)
            clear HO_0
            clear BK398
            clear HB
            have HO_0 := n0_
            have BK398 := n1_
            have HB := n2_
            clear n0_ n1_ n2_
            have p402 : 0 ≤ (x6_2 : Int) := of_decide_eq_true (by first | (with_reducible assumption) | assumption)
            have q402 : x6_2 < (l0.length : Int) := of_decide_eq_true (by first | (with_reducible assumption) | assumption)
            obtain ⟨ad402, e402, hx402_0, _, _, _, _, _, _, _, _, _, _, _, _, _, _, _, _, _, _, _, _⟩ := at_T55 (Kd.V_reads' HO_0.out).2.2 x6_2 p402 q402
            cases e402
            replace p402 := eq_true p402
            replace q402 := eq_true q402
            refine start_ (n := 14) (S := fun w' => w'.cell? ⟨gb398, 0, none⟩ = some (.int .i64 a1_0) ∧ w'.cell? ⟨gb398, 1, none⟩ = some (.int .i64 a1_1) ∧ w'.cell? ⟨gb398, 2, none⟩ = some (.int .i64 a1_2) ∧ w'.cell? ⟨gb398, 3, none⟩ = some (.int .i64 a1_3) ∧ w'.cell? ⟨gb398, 4, none⟩ = some (.int .i64 a1_4) ∧ w'.cell? ⟨gb398, 5, none⟩ = some (.int .i64 a1_5) ∧ w'.cell? ⟨gb398, 6, none⟩ = some (.int .i64 a1_6) ∧ w'.cell? ⟨gb398, 7, none⟩ = some (.int .i64 a1_7) ∧ w'.cell? ⟨gb398, 8, none⟩ = some (.int .i64 a1_8) ∧ w'.cell? ⟨gb398, 9, none⟩ = some (.int .i64 a1_9) ∧ w'.cell? ⟨gb398, 10, none⟩ = some (.int .i64 a1_10) ∧ w'.cell? ⟨gb398, 11, none⟩ = some (.int .i64 a1_11) ∧ w'.cell? ⟨gb398, 12, none⟩ = some (.int .i64 a1_12) ∧ w'.cell? ⟨gb398, 13, none⟩ = some (.int .i64 a1_13) ∧ w'.cell? ⟨gb398, 14, none⟩ = some (.int .i64 a1_14) ∧ w'.cell? ⟨gb398, 15, none⟩ = some (.int .i64 a1_15) ∧ w'.cell? ⟨gb398, 16, none⟩ = some (.int .i64 a1_16) ∧ w'.cell? ⟨gb398, 17, none⟩ = some (.int .i64 a1_17) ∧ w'.cell? ⟨gb398, 18, none⟩ = some (.int .i64 a1_18) ∧ w'.cell? ⟨gb398, 19, none⟩ = some (.int .i64 a1_19) ∧ w'.cell? ⟨gb398, 20, none⟩ = some (.int .i64 a1_20) ∧ w'.cell? (ad402.add ((x6_2).toNat * 21)) = some (.int .i64 ((rd_T55 l0 x6_2).f0))) (ds := []) #[false, false, false, false, false, false, false, false, false, false, false, false, false, false] (by kernel_rfl) rfl rfl ⟨(blk_cell BK398.out 0).trans rfl, (blk_cell BK398.out 1).trans rfl, (blk_cell BK398.out 2).trans rfl, (blk_cell BK398.out 3).trans rfl, (blk_cell BK398.out 4).trans rfl, (blk_cell BK398.out 5).trans rfl, (blk_cell BK398.out 6).trans rfl, (blk_cell BK398.out 7).trans rfl, (blk_cell BK398.out 8).trans rfl, (blk_cell BK398.out 9).trans rfl, (blk_cell BK398.out 10).trans rfl, (blk_cell BK398.out 11).trans rfl, (blk_cell BK398.out 12).trans rfl, (blk_cell BK398.out 13).trans rfl, (blk_cell BK398.out 14).trans rfl, (blk_cell BK398.out 15).trans rfl, (blk_cell BK398.out 16).trans rfl, (blk_cell BK398.out 17).trans rfl, (blk_cell BK398.out 18).trans rfl, (blk_cell BK398.out 19).trans rfl, (blk_cell BK398.out 20).trans rfl, hx402_0⟩ (fun hHeld => ?_); refine with_tabW impl_RuleAdd.tab8 impl_RuleAdd.bits8 (fun HT_ HW_ => ?_)
            generalize wr.drew = w31 at HO_0 BK398 HB hx402_0 hHeld ⊢
            refine Gv.pu 0 (some 26) HT_ ?_
            refine Gv.pu 1 (some 27) HT_ ?_
            refine Gv.pu 2 (some 28) HT_ ?_
            refine Gv.pu 3 (some 29) HT_ ?_
            refine Gv.pu 4 (some 30) HT_ ?_
            refine Gv.pu 5 (some 31) HT_ ?_
            refine Gv.pu 6 (some 32) HT_ ?_
            refine Gv.pu 7 (some 33) HT_ ?_
            refine Gv.pu 8 (some 34) HT_ ?_
            refine Gv.pu 10 (some 36) HT_ ?_
            refine take_ (i := 9) (N := some 35) (v := ?_) (a' := ?_) #[true, true, true, true, true, true, true, true, true, true, true, false, false, false] rfl rfl (take_ofW HT_.out HW_.out (by kernel_rfl)) (fun _ _ _ h => h) (Or.inl ⟨by rfl, ?_⟩) hHeld ?_ ?_
            rotate_left
            ·rintro w' ⟨s0, s1, s2, s3, s4, s5, s6, s7, s8, s9, s10, s11, s12, s13, s14, s15, s16, s17, s18, s19, s20, s21⟩
             first | ((refine Gv.load_run (t := 55) (A := ⟨gb398, 0, none⟩) (cs := [_, _, _, _, _, _, _, _, _, _, _, _, _, _, _, _, _, _, _, _, _]) (x := ?xx43_) ?ho43_ ?hx43_ ⟨s0, s1, s2, s3, s4, s5, s6, s7, s8, s9, s10, s11, s12, s13, s14, s15, s16, s17, s18, s19, s20, trivial⟩ Try.underlying55 rfl (by kernel_rfl)); (case ho43_ => rfl); (case hx43_ => rfl)) | (go_simp; with_reducible rfl)
            rotate_left
            ·simp only [Act.put, List.setIfInBounds_toArray, List.set_cons_zero, List.set_cons_succ, i64_w, i32_w]
             rfl
            refine take_ (i := 11) (N := some 37) (v := ?_) (a' := ?_) #[true, true, true, true, true, true, true, true, true, true, true, true, false, false] rfl rfl (take_ofW HT_.out HW_.out (by kernel_rfl)) (fun _ _ _ h => h) (Or.inl ⟨by rfl, ?_⟩) hHeld ?_ ?_
            rotate_left
            ·rintro w' ⟨s0, s1, s2, s3, s4, s5, s6, s7, s8, s9, s10, s11, s12, s13, s14, s15, s16, s17, s18, s19, s20, s21⟩
             first | ((refine Gv.load_run (t := 55) (A := ⟨gb398, 0, none⟩) (cs := [_, _, _, _, _, _, _, _, _, _, _, _, _, _, _, _, _, _, _, _, _]) (x := ?xx45_) ?ho45_ ?hx45_ ⟨s0, s1, s2, s3, s4, s5, s6, s7, s8, s9, s10, s11, s12, s13, s14, s15, s16, s17, s18, s19, s20, trivial⟩ Try.underlying55 rfl (by kernel_rfl)); (case ho45_ => rfl); (case hx45_ => rfl)) | (go_simp; with_reducible rfl)
            rotate_left
            ·simp only [Act.put, List.setIfInBounds_toArray, List.set_cons_zero, List.set_cons_succ, i64_w, i32_w]
             rfl
            refine Gv.pu 12 (some 38) HT_ ?_
            refine Gv.pu 13 (some 39) HT_ ?_
            refine done_ (done_of HT_.out (by kernel_rfl)) ?_
            try go_wp2
            have n0_ := Gv.a0 (Kd.V_drew HO_0.out)
            have n1_ := Gv.a0 (blk_drew BK398.out)
            have n2_ := Gv.a0 (below_drew1 HB.out)
            clear HO_0
            clear BK398
            clear HB
            have HO_0 := n0_
            have BK398 := n1_
            have HB := n2_
            clear n0_ n1_ n2_
            have q33 : (x6_2 : Int) ≤ ((l0.length : Int) : Int) := of_decide_eq_true (by first | (with_reducible assumption) | assumption)
            obtain ⟨i033, hi033, _, hsz33, _⟩ := info_parts info55
            have hroom33 : l0.length ≤ c0 := (Kd.V_reads' HO_0.out).2.1
            have hC33 : Kd.F k55 _ _ (some ad402) l0.length l0 := (Kd.V_at (base := w.heap.size) HO_0.out).2.2
            have hcut33 := cut_to (P := Try.prog) 25 55 .i64 Try.underlying25 hi033 (some ad402) l0.length c0 x6_2 (of_decide_eq_true (by first | (with_reducible assumption) | assumption)) q33 hroom33
            have hr33 := Kd.F_take (m := (x6_2 : Int).toNat) hC33 (by omega)
            have hy33 : y403.length = (x6_2 : Int).toNat := (by rw [Ny403.out, List.length_take]; omega)
            rw [← Ny403.out] at hr33
            rw [← hy33] at hcut33
            have HO407 := Gv.a0 (show Kd.V k55 55 _ w.heap.size _ (.slice (some ad402) y403.length c0) y403 from Kd.V_mk (by omega) hr33)
            have HC407 := Gv.a0 (show y403.length ≤ c0 from by omega)
            clear hr33 hC33 hroom33 hi033 hsz33
            have KY33 := Gv.a0 hy33
            clear hy33
            replace q33 := eq_true q33
            have q34 : (x6_2 : Int) ≤ ((l0.length : Int) : Int) := of_decide_eq_true (by first | (with_reducible assumption) | assumption)
            obtain ⟨i034, hi034, _, hsz34, _⟩ := info_parts info55
            have hroom34 : l0.length ≤ c0 := (Kd.V_reads' HO_0.out).2.1
            have hC34 : Kd.F k55 _ _ (some ad402) l0.length l0 := (Kd.V_at (base := w.heap.size) HO_0.out).2.2
            have q034 : (0 : Int) ≤ (x6_2 : Int) := of_decide_eq_true (by first | (with_reducible assumption) | assumption)
            have hcut34 := cut_from (P := Try.prog) 25 55 .i64 Try.underlying25 hi034 21 hsz34 (some ad402) l0.length c0 x6_2 q034 q34
            have hr34 := Kd.F_cut (m := (x6_2 : Int).toNat) (c := c0) hC34 (by omega) hroom34
            obtain ⟨A34, hA34⟩ : ∃ A1, A1 = (if c0 = (x6_2 : Int).toNat then (some ad402) else ((some ad402) : Option Addr).map (·.add ((x6_2 : Int).toNat * 21))) := ⟨_, rfl⟩
            obtain ⟨c34, hc34⟩ : ∃ c1, c1 = c0 - (x6_2 : Int).toNat := ⟨_, rfl⟩
            have hy34 : y411.length = l0.length - (x6_2 : Int).toNat := (by rw [Ny411.out, List.length_drop] <;> omega)
            rw [show (l0).drop (x6_2 : Int).toNat = y411 from Ny411.out.symm] at hr34
            replace hr34 : Kd.F k55 _ _ A34 y411.length y411 := (by rw [hA34]; exact hr34)
            rw [← hy34, ← hA34, ← hc34] at hcut34
            have HO415 := Gv.a0 (show Kd.V k55 55 _ w.heap.size _ (.slice A34 y411.length c34) y411 from Kd.V_mk (by rw [hy34, hc34]; exact Nat.sub_le_sub_right hroom34 _) hr34)
            have HC415 := Gv.a0 (show y411.length ≤ c34 from by rw [hy34, hc34]; exact Nat.sub_le_sub_right hroom34 _)
            clear hr34 hC34 hroom34 hi034 hsz34 hc34
            have KY34 := Gv.a0 hy34
            have KA34 := Gv.a0 hA34
            clear hy34 hA34
            replace q34 := eq_true q34
            refine start_ (n := 12) (S := fun w' => w'.cell? ⟨gb398, 0, none⟩ = some (.int .i64 a1_0) ∧ w'.cell? ⟨gb398, 1, none⟩ = some (.int .i64 a1_1) ∧ w'.cell? ⟨gb398, 2, none⟩ = some (.int .i64 a1_2) ∧ w'.cell? ⟨gb398, 3, none⟩ = some (.int .i64 a1_3) ∧ w'.cell? ⟨gb398, 4, none⟩ = some (.int .i64 a1_4) ∧ w'.cell? ⟨gb398, 5, none⟩ = some (.int .i64 a1_5) ∧ w'.cell? ⟨gb398, 6, none⟩ = some (.int .i64 a1_6) ∧ w'.cell? ⟨gb398, 7, none⟩ = some (.int .i64 a1_7) ∧ w'.cell? ⟨gb398, 8, none⟩ = some (.int .i64 a1_8) ∧ w'.cell? ⟨gb398, 9, none⟩ = some (.int .i64 a1_9) ∧ w'.cell? ⟨gb398, 10, none⟩ = some (.int .i64 a1_10) ∧ w'.cell? ⟨gb398, 11, none⟩ = some (.int .i64 a1_11) ∧ w'.cell? ⟨gb398, 12, none⟩ = some (.int .i64 a1_12) ∧ w'.cell? ⟨gb398, 13, none⟩ = some (.int .i64 a1_13) ∧ w'.cell? ⟨gb398, 14, none⟩ = some (.int .i64 a1_14) ∧ w'.cell? ⟨gb398, 15, none⟩ = some (.int .i64 a1_15) ∧ w'.cell? ⟨gb398, 16, none⟩ = some (.int .i64 a1_16) ∧ w'.cell? ⟨gb398, 17, none⟩ = some (.int .i64 a1_17) ∧ w'.cell? ⟨gb398, 18, none⟩ = some (.int .i64 a1_18) ∧ w'.cell? ⟨gb398, 19, none⟩ = some (.int .i64 a1_19) ∧ w'.cell? ⟨gb398, 20, none⟩ = some (.int .i64 a1_20)) (ds := []) #[false, false, false, false, false, false, false, false, false, false, false, false] (by kernel_rfl) rfl rfl ⟨(blk_cell BK398.out 0).trans rfl, (blk_cell BK398.out 1).trans rfl, (blk_cell BK398.out 2).trans rfl, (blk_cell BK398.out 3).trans rfl, (blk_cell BK398.out 4).trans rfl, (blk_cell BK398.out 5).trans rfl, (blk_cell BK398.out 6).trans rfl, (blk_cell BK398.out 7).trans rfl, (blk_cell BK398.out 8).trans rfl, (blk_cell BK398.out 9).trans rfl, (blk_cell BK398.out 10).trans rfl, (blk_cell BK398.out 11).trans rfl, (blk_cell BK398.out 12).trans rfl, (blk_cell BK398.out 13).trans rfl, (blk_cell BK398.out 14).trans rfl, (blk_cell BK398.out 15).trans rfl, (blk_cell BK398.out 16).trans rfl, (blk_cell BK398.out 17).trans rfl, (blk_cell BK398.out 18).trans rfl, (blk_cell BK398.out 19).trans rfl, (blk_cell BK398.out 20).trans rfl⟩ (fun hHeld => ?_); refine with_tabW impl_RuleAdd.tab10 impl_RuleAdd.bits10 (fun HT_ HW_ => ?_)
            generalize w31.drew = w32 at HO_0 BK398 HB HO407 HO415 hHeld ⊢
            refine Gv.pu 0 (some 42) HT_ ?_
            refine Gv.pu 1 (some 43) HT_ ?_
            refine Gv.pu 2 (some 44) HT_ ?_
            refine Gv.pu 5 (some 47) HT_ ?_
            refine Gv.pu 6 (some 48) HT_ ?_
            refine Gv.pu 7 (some 49) HT_ ?_
            refine take_ (i := 3) (N := some 45) (v := ?_) (a' := ?_) #[true, true, true, true, false, true, true, true, false, false, false, false] rfl rfl (take_ofW HT_.out HW_.out (by kernel_rfl)) (fun _ _ _ h => h) (Or.inl ⟨by rfl, ?_⟩) hHeld ?_ ?_
            rotate_left
            ·rintro w' ⟨s0, s1, s2, s3, s4, s5, s6, s7, s8, s9, s10, s11, s12, s13, s14, s15, s16, s17, s18, s19, s20⟩
             first | ((refine Gv.load_run (t := 55) (A := ⟨gb398, 0, none⟩) (cs := [_, _, _, _, _, _, _, _, _, _, _, _, _, _, _, _, _, _, _, _, _]) (x := ?xx47_) ?ho47_ ?hx47_ ⟨s0, s1, s2, s3, s4, s5, s6, s7, s8, s9, s10, s11, s12, s13, s14, s15, s16, s17, s18, s19, s20, trivial⟩ Try.underlying55 rfl (by kernel_rfl)); (case ho47_ => rfl); (case hx47_ => rfl)) | (go_simp; with_reducible rfl)
            rotate_left
            ·simp only [Act.put, List.setIfInBounds_toArray, List.set_cons_zero, List.set_cons_succ, i64_w, i32_w]
             rfl
            refine one_ (i := 4) (N := some 46) #[true, true, true, true, true, true, true, true, false, false, false, false] rfl rfl (one_of HT_.out (by kernel_rfl)) (by decide) (fun K hK => ?_)
            refine Kd.R_lit_step k55 _ 55 ?hg (N := 46) ?hd (xs := ([(⟨a1_0, (⟨(⟨a1_1, a1_2, a1_3, a1_4, a1_5⟩ : S34), a1_6⟩ : S53), (⟨(⟨a1_7, a1_8, a1_9, a1_10, a1_11⟩ : S34), a1_12⟩ : S53), a1_13, a1_14, a1_15, a1_16, a1_17, a1_18, a1_19, a1_20⟩ : S55)] : List (S55))) (inner := [.int .i64 a1_0, .int .i64 a1_1, .int .i64 a1_2, .int .i64 a1_3, .int .i64 a1_4, .int .i64 a1_5, .int .i64 a1_6, .int .i64 a1_7, .int .i64 a1_8, .int .i64 a1_9, .int .i64 a1_10, .int .i64 a1_11, .int .i64 a1_12, .int .i64 a1_13, .int .i64 a1_14, .int .i64 a1_15, .int .i64 a1_16, .int .i64 a1_17, .int .i64 a1_18, .int .i64 a1_19, .int .i64 a1_20]) (ok := fun _ => True) (okp := fun _ => True) ?hr ?hp (fun _ hk => hk) trivial (Below.refl _ _) (Nat.le_refl _) (by simp) ?_; (case hd => rfl); (case hg => rfl); (case hr => first | (go_simp; done) | (go_simp; rfl)); (case hp => exact (Reps.front (show Kd.M k55 _ _ _ (⟨a1_0, (⟨(⟨a1_1, a1_2, a1_3, a1_4, a1_5⟩ : S34), a1_6⟩ : S53), (⟨(⟨a1_7, a1_8, a1_9, a1_10, a1_11⟩ : S34), a1_12⟩ : S53), a1_13, a1_14, a1_15, a1_16, a1_17, a1_18, a1_19, a1_20⟩ : S55) [.int .i64 a1_0, .int .i64 a1_1, .int .i64 a1_2, .int .i64 a1_3, .int .i64 a1_4, .int .i64 a1_5, .int .i64 a1_6, .int .i64 a1_7, .int .i64 a1_8, .int .i64 a1_9, .int .i64 a1_10, .int .i64 a1_11, .int .i64 a1_12, .int .i64 a1_13, .int .i64 a1_14, .int .i64 a1_15, .int .i64 a1_16, .int .i64 a1_17, .int .i64 a1_18, .int .i64 a1_19, .int .i64 a1_20] from (k55_mkM _ _ _ (⟨a1_0, (⟨(⟨a1_1, a1_2, a1_3, a1_4, a1_5⟩ : S34), a1_6⟩ : S53), (⟨(⟨a1_7, a1_8, a1_9, a1_10, a1_11⟩ : S34), a1_12⟩ : S53), a1_13, a1_14, a1_15, a1_16, a1_17, a1_18, a1_19, a1_20⟩ : S55) )) rfl (Reps.none _ _) rfl))
            intro v409 w35 ho36 hb hg_ hnew_
            clear hg_ hnew_
            (first | rw [← Ny408.out] at ho36 | (simp only [Int.reduceToNat] at ho36; rw [← Ny408.out] at ho36))
            have n0_ := Gv.a0 (Kd.V_elder' (by (with_reducible repeat (first | apply Kd.V_alloc | apply Kd.V_drewN | apply Kd.V_drew)); exact HO_0.out) (Kd.R_base ho36) hb)
            have n1_ := Gv.a0 (Kd.V_elder' (by (with_reducible repeat (first | apply Kd.V_alloc | apply Kd.V_drewN | apply Kd.V_drew)); exact HO407.out) (Kd.R_base ho36) hb)
            have n2_ := Gv.a0 (Kd.V_elder' (by (with_reducible repeat (first | apply Kd.V_alloc | apply Kd.V_drewN | apply Kd.V_drew)); exact HO415.out) (Kd.R_base ho36) hb)
            have n3_ := Gv.a0 (Kd.R_lower (Kd.R_newB (Kd.R_newM (M := fun k_ => (w.heap.size ≤ k_)) ho36 (below_size Gv.bw) (fun k_ h_ => h_)) (g := gb398) (o := .cells #[.int .i64 a1_0, .int .i64 a1_1, .int .i64 a1_2, .int .i64 a1_3, .int .i64 a1_4, .int .i64 a1_5, .int .i64 a1_6, .int .i64 a1_7, .int .i64 a1_8, .int .i64 a1_9, .int .i64 a1_10, .int .i64 a1_11, .int .i64 a1_12, .int .i64 a1_13, .int .i64 a1_14, .int .i64 a1_15, .int .i64 a1_16, .int .i64 a1_17, .int .i64 a1_18, .int .i64 a1_19, .int .i64 a1_20] 55 (0, 0)) Gv.bk) (below_size Gv.bw))
            have n4_ := Gv.a0 (Gv.bb BK398.out hb)
            have n5_ := Gv.a0 (below_step Gv.bw hb)
            clear HO_0
            clear HO407
            clear HO415
            clear BK398
            clear HB
            have HO_0 := n0_
            have HO407 := n1_
            have HO415 := n2_
            have HO410 := n3_
            have BK398 := n4_
            have HB := n5_
            clear n0_ n1_ n2_ n3_ n4_ n5_
            clear hb ho36
            obtain ⟨Ao37, co37, eo37⟩ := Kd.R_slice HO410.out
            (first | subst eo37 | (injection eo37 with f1_ f2_ f3_; have f4_ := f1_.symm; have f5_ := f3_.symm; clear f1_ f2_ f3_; subst f4_; subst f5_))
            refine hK.out _ _ ⟨(blk_cell BK398.out 0).trans rfl, (blk_cell BK398.out 1).trans rfl, (blk_cell BK398.out 2).trans rfl, (blk_cell BK398.out 3).trans rfl, (blk_cell BK398.out 4).trans rfl, (blk_cell BK398.out 5).trans rfl, (blk_cell BK398.out 6).trans rfl, (blk_cell BK398.out 7).trans rfl, (blk_cell BK398.out 8).trans rfl, (blk_cell BK398.out 9).trans rfl, (blk_cell BK398.out 10).trans rfl, (blk_cell BK398.out 11).trans rfl, (blk_cell BK398.out 12).trans rfl, (blk_cell BK398.out 13).trans rfl, (blk_cell BK398.out 14).trans rfl, (blk_cell BK398.out 15).trans rfl, (blk_cell BK398.out 16).trans rfl, (blk_cell BK398.out 17).trans rfl, (blk_cell BK398.out 18).trans rfl, (blk_cell BK398.out 19).trans rfl, (blk_cell BK398.out 20).trans rfl⟩ (fun hHeld => ?_)
            clear hK K
            refine norm_ (a' := ?_) ?_ ?_
            rotate_left
            ·show Act.put _ (some 46) _ = _
             simp only [Act.put, List.setIfInBounds_toArray, List.set_cons_zero, List.set_cons_succ, i64_w, i32_w]
             rfl
            refine one_ (i := 8) (N := some 50) #[true, true, true, true, true, true, true, true, true, false, false, false] rfl rfl (one_of HT_.out (by kernel_rfl)) (by decide) (fun K hK => ?_)
            refine Kd.N_lit_step (Kd.slice 55 k55) _ 25 ?hg (N' := 50) ?hd (xs := ([y403, y408, y411] : List (List (S55)))) (inner := [.slice (some ad402) y403.length c0, .slice Ao37 y408.length co37, .slice A34 y411.length c34]) (ok := (fun k_ => (P0_ k_ ∨ w.heap.size ≤ k_) ∧ k_ ≠ gb398)) (okp := (fun k_ => (P0_ k_ ∨ w.heap.size ≤ k_) ∧ k_ ≠ gb398)) ?hr ?hp (fun _ hk => hk) ((show ∀ k_, w35.heap.size ≤ k_ → (fun k_ => (P0_ k_ ∨ w.heap.size ≤ k_) ∧ k_ ≠ gb398) k_ from fun k_ hk => ⟨(.inr (Nat.le_trans (below_size Gv.bw) hk)), Kd.freshB (g := gb398) (o := .cells #[.int .i64 a1_0, .int .i64 a1_1, .int .i64 a1_2, .int .i64 a1_3, .int .i64 a1_4, .int .i64 a1_5, .int .i64 a1_6, .int .i64 a1_7, .int .i64 a1_8, .int .i64 a1_9, .int .i64 a1_10, .int .i64 a1_11, .int .i64 a1_12, .int .i64 a1_13, .int .i64 a1_14, .int .i64 a1_15, .int .i64 a1_16, .int .i64 a1_17, .int .i64 a1_18, .int .i64 a1_19, .int .i64 a1_20] 55 (0, 0)) Gv.bk k_ hk⟩) _ (Nat.le_refl _)) (Below.refl _ _) (Nat.le_refl _) (by simp) ?_; (case hd => rfl); (case hg => rfl); (case hr => first | (go_simp; done) | (go_simp; rfl)); (case hp => exact (Reps.one (show Kd.FK (Kd.slice 55 k55) _ _ y403 [.slice (some ad402) y403.length c0] from (Kd.FK_slice_mk (Kd.V_reads' (Kd.V_mono (ok' := (fun k_ => (P0_ k_ ∨ w.heap.size ≤ k_) ∧ k_ ≠ gb398)) (HO407.out) (fun k_ hk => ⟨hk.1.1, hk.1.2⟩))).2.1 (Kd.V_F (Kd.V_mono (ok' := (fun k_ => (P0_ k_ ∨ w.heap.size ≤ k_) ∧ k_ ≠ gb398)) (HO407.out) (fun k_ hk => ⟨hk.1.1, hk.1.2⟩))))) (Reps.one (show Kd.FK (Kd.slice 55 k55) _ _ y408 [.slice Ao37 y408.length co37] from (Kd.FK_slice_mk (Kd.R_reads' (Kd.R_mono (ok' := (fun k_ => (P0_ k_ ∨ w.heap.size ≤ k_) ∧ k_ ≠ gb398)) (HO410.out) (fun k_ hk => ⟨(.inr (hk.1.1)), hk.2⟩))).2.1 (Kd.R_F (Kd.R_mono (ok' := (fun k_ => (P0_ k_ ∨ w.heap.size ≤ k_) ∧ k_ ≠ gb398)) (HO410.out) (fun k_ hk => ⟨(.inr (hk.1.1)), hk.2⟩))))) (Reps.one (show Kd.FK (Kd.slice 55 k55) _ _ y411 [.slice A34 y411.length c34] from (Kd.FK_slice_mk (Kd.V_reads' (Kd.V_mono (ok' := (fun k_ => (P0_ k_ ∨ w.heap.size ≤ k_) ∧ k_ ≠ gb398)) (HO415.out) (fun k_ hk => ⟨hk.1.1, hk.1.2⟩))).2.1 (Kd.V_F (Kd.V_mono (ok' := (fun k_ => (P0_ k_ ∨ w.heap.size ≤ k_) ∧ k_ ≠ gb398)) (HO415.out) (fun k_ hk => ⟨hk.1.1, hk.1.2⟩))))) (Reps.none _ _)))))
            intro v417 w38 ho39 hb hg_ hnew_
            clear hg_ hnew_
            (first | rw [← Ny416.out] at ho39 | (simp only [Int.reduceToNat] at ho39; rw [← Ny416.out] at ho39))
            have n0_ := Gv.a0 (Kd.V_elder' (by (with_reducible repeat (first | apply Kd.V_alloc | apply Kd.V_drewN | apply Kd.V_drew)); exact HO_0.out) (Kd.N_base ho39) hb)
            have n1_ := Gv.a0 (Kd.V_elder' (by (with_reducible repeat (first | apply Kd.V_alloc | apply Kd.V_drewN | apply Kd.V_drew)); exact HO407.out) (Kd.N_base ho39) hb)
            have n2_ := Gv.a0 (Kd.V_elder' (by (with_reducible repeat (first | apply Kd.V_alloc | apply Kd.V_drewN | apply Kd.V_drew)); exact HO415.out) (Kd.N_base ho39) hb)
            have n3_ := Gv.a0 (Kd.N_lower ho39 (below_size Gv.bw))
            have n4_ := Gv.a0 (Gv.bb BK398.out hb)
            have n5_ := Gv.a0 (below_step Gv.bw hb)
            clear HO_0
            clear HO407
            clear HO415
            clear BK398
            clear HB
            clear HO410
            have HO_0 := n0_
            have HO407 := n1_
            have HO415 := n2_
            have HO418 := n3_
            have BK398 := n4_
            have HB := n5_
            clear n0_ n1_ n2_ n3_ n4_ n5_
            clear hb ho39
            obtain ⟨Ao40, co40, eo40⟩ := Kd.N_slice HO418.out
            (first | subst eo40 | (injection eo40 with f1_ f2_ f3_; have f4_ := f1_.symm; have f5_ := f3_.symm; clear f1_ f2_ f3_; subst f4_; subst f5_))
            refine hK.out _ _ ⟨(blk_cell BK398.out 0).trans rfl, (blk_cell BK398.out 1).trans rfl, (blk_cell BK398.out 2).trans rfl, (blk_cell BK398.out 3).trans rfl, (blk_cell BK398.out 4).trans rfl, (blk_cell BK398.out 5).trans rfl, (blk_cell BK398.out 6).trans rfl, (blk_cell BK398.out 7).trans rfl, (blk_cell BK398.out 8).trans rfl, (blk_cell BK398.out 9).trans rfl, (blk_cell BK398.out 10).trans rfl, (blk_cell BK398.out 11).trans rfl, (blk_cell BK398.out 12).trans rfl, (blk_cell BK398.out 13).trans rfl, (blk_cell BK398.out 14).trans rfl, (blk_cell BK398.out 15).trans rfl, (blk_cell BK398.out 16).trans rfl, (blk_cell BK398.out 17).trans rfl, (blk_cell BK398.out 18).trans rfl, (blk_cell BK398.out 19).trans rfl, (blk_cell BK398.out 20).trans rfl⟩ (fun hHeld => ?_)
            clear hK K
            refine norm_ (a' := ?_) ?_ ?_
            rotate_left
            ·show Act.put _ (some 50) _ = _
             simp only [Act.put, List.setIfInBounds_toArray, List.set_cons_zero, List.set_cons_succ, i64_w, i32_w]
             rfl
            refine one_ (i := 9) (N := some 51) #[true, true, true, true, true, true, true, true, true, true, false, false] rfl rfl (one_of HT_.out (by kernel_rfl)) (by decide) (fun K hK => ?_)
            refine goes_ Try.func42 (by kernel_rfl) rfl #[.slice Ao40 y416.length co40] (by rfl) rfl rfl Gv.lm ?_
            with_reducible refine (impl_Rule_42.calls k2 _ _ y416 t419 _ ?side1 ?side2 A30.out).mono ?_
            (case side1 => repeat (first | exact (Kd.N_reads' HO418.out).2.2 | (with_reducible refine Kd.C_alloc ?_ _) | (with_reducible refine Kd.C_drewN ?_ _) | (with_reducible refine Kd.C_drew ?_)))
            (case side2 => exact (Kd.N_reads' HO418.out).2.1)
            rintro e w41 ⟨v420, rfl, ho0, hb⟩
            refine ⟨_, rfl, ?_⟩
            have n0_ := Gv.a0 (Kd.V_elder' (by (with_reducible repeat (first | apply Kd.V_alloc | apply Kd.V_drewN | apply Kd.V_drew)); exact HO_0.out) (Kd.R_base ho0) hb)
            have n1_ := Gv.a0 (Kd.V_elder' (by (with_reducible repeat (first | apply Kd.V_alloc | apply Kd.V_drewN | apply Kd.V_drew)); exact HO407.out) (Kd.R_base ho0) hb)
            have n2_ := Gv.a0 (Kd.V_elder' (by (with_reducible repeat (first | apply Kd.V_alloc | apply Kd.V_drewN | apply Kd.V_drew)); exact HO415.out) (Kd.R_base ho0) hb)
            have n3_ := Gv.a0 (Kd.N_elder' (by (with_reducible repeat (first | apply Kd.N_alloc | apply Kd.N_drewN | apply Kd.N_drew)); exact HO418.out) (Kd.R_base ho0) hb)
            have n4_ := Gv.a0 (Kd.R_lower (Kd.R_newB (Kd.R_newM (M := fun k_ => (w.heap.size ≤ k_)) ho0 (below_size Gv.bw) (fun k_ h_ => h_)) (g := gb398) (o := .cells #[.int .i64 a1_0, .int .i64 a1_1, .int .i64 a1_2, .int .i64 a1_3, .int .i64 a1_4, .int .i64 a1_5, .int .i64 a1_6, .int .i64 a1_7, .int .i64 a1_8, .int .i64 a1_9, .int .i64 a1_10, .int .i64 a1_11, .int .i64 a1_12, .int .i64 a1_13, .int .i64 a1_14, .int .i64 a1_15, .int .i64 a1_16, .int .i64 a1_17, .int .i64 a1_18, .int .i64 a1_19, .int .i64 a1_20] 55 (0, 0)) Gv.bk) (below_size Gv.bw))
            have n5_ := Gv.a0 (Gv.bb BK398.out hb)
            have n6_ := Gv.a0 (below_step Gv.bw hb)
            clear HO_0
            clear HO407
            clear HO415
            clear HO418
            clear BK398
            clear HB
            have HO_0 := n0_
            have HO407 := n1_
            have HO415 := n2_
            have HO418 := n3_
            have HO421 := n4_
            have BK398 := n5_
            have HB := n6_
            clear n0_ n1_ n2_ n3_ n4_ n5_ n6_
            (try clear hb)
            (try clear hb2)
            (try clear hk)
            (try clear hi)
            (try clear ho0)
            refine hK.out _ _ ⟨(blk_cell BK398.out 0).trans rfl, (blk_cell BK398.out 1).trans rfl, (blk_cell BK398.out 2).trans rfl, (blk_cell BK398.out 3).trans rfl, (blk_cell BK398.out 4).trans rfl, (blk_cell BK398.out 5).trans rfl, (blk_cell BK398.out 6).trans rfl, (blk_cell BK398.out 7).trans rfl, (blk_cell BK398.out 8).trans rfl, (blk_cell BK398.out 9).trans rfl, (blk_cell BK398.out 10).trans rfl, (blk_cell BK398.out 11).trans rfl, (blk_cell BK398.out 12).trans rfl, (blk_cell BK398.out 13).trans rfl, (blk_cell BK398.out 14).trans rfl, (blk_cell BK398.out 15).trans rfl, (blk_cell BK398.out 16).trans rfl, (blk_cell BK398.out 17).trans rfl, (blk_cell BK398.out 18).trans rfl, (blk_cell BK398.out 19).trans rfl, (blk_cell BK398.out 20).trans rfl⟩ (fun hHeld => ?_)
            clear hK K
            refine norm_ (a' := ?_) ?_ ?_
            rotate_left
            ·show Act.put _ (some 51) _ = _
             simp only [Act.put, List.setIfInBounds_toArray, List.set_cons_zero, List.set_cons_succ, i64_w, i32_w]
             rfl
            refine Gv.pu 10 (some 4) HT_ ?_
            refine Gv.pu 11 (some 5) HT_ ?_
            refine done_ (done_of HT_.out (by kernel_rfl)) ?_
            try go_wp2
            go_ret2
            exact ⟨_, Gv.rt, by (with_reducible repeat (first | apply Kd.R_alloc | apply Kd.R_drewN | apply Kd.R_drew)); exact Kd.R_mono HO421.out (fun _ hk => hk.1.1), Gv.bw⟩
           ·rw [if_neg c27] at H
            exact absurd H (by simp)
         ·rw [if_neg c23] at H
          exact absurd H (by simp)
        ·rw [if_neg c22] at H
         have c22b0 : decide (x6_2 < (l0.length : Int)) = false := decide_eq_false c22
         clear c22
         by_cases c42 : 0 ≤ x6_2
         ·rw [if_pos c42] at H
          have c42b0 := eq_true c42
          have c42b1 : decide (0 ≤ x6_2) = true := decide_eq_true c42
          clear c42
          by_cases c43 : x6_2 ≤ (l0.length : Int)
          ·rw [if_pos c43] at H
           have c43b0 := eq_true c43
           have c43b1 : decide (x6_2 ≤ (l0.length : Int)) = true := decide_eq_true c43
           clear c43
           obtain ⟨y422, hy422⟩ : ∃ y_ : List (S55), y_ = (l0.take (x6_2 : Int).toNat) := ⟨_, rfl⟩
           replace H : ((impl_Rule_42.f k2 (([y422, (([(⟨a1_0, (⟨(⟨a1_1, a1_2, a1_3, a1_4, a1_5⟩ : S34), a1_6⟩ : S53), (⟨(⟨a1_7, a1_8, a1_9, a1_10, a1_11⟩ : S34), a1_12⟩ : S53), a1_13, a1_14, a1_15, a1_16, a1_17, a1_18, a1_19, a1_20⟩ : S55)] : List (S55))), (l0.drop (x6_2 : Int).toNat)] : List (List (S55))))).bind fun t438 => (some (t438, 0))) = some (r1, r2) := by first | (rw [hy422]; with_reducible exact H) | (have H2_ := (Option.bind_some _ _).symm.trans H; rw [hy422]; with_reducible exact H2_) | (have H2_ := (Option.bind_some _ _).symm.trans H; with_reducible exact H2_) | with_reducible exact H | (rw [hy422]; exact H) | exact H
           have Ny422 := Gv.a0 hy422
           clear hy422
           obtain ⟨y427, hy427⟩ : ∃ y_ : List (S55), y_ = (([(⟨a1_0, (⟨(⟨a1_1, a1_2, a1_3, a1_4, a1_5⟩ : S34), a1_6⟩ : S53), (⟨(⟨a1_7, a1_8, a1_9, a1_10, a1_11⟩ : S34), a1_12⟩ : S53), a1_13, a1_14, a1_15, a1_16, a1_17, a1_18, a1_19, a1_20⟩ : S55)] : List (S55))) := ⟨_, rfl⟩
           replace H : ((impl_Rule_42.f k2 (([y422, y427, (l0.drop (x6_2 : Int).toNat)] : List (List (S55))))).bind fun t438 => (some (t438, 0))) = some (r1, r2) := by first | (rw [hy427]; with_reducible exact H) | (have H2_ := (Option.bind_some _ _).symm.trans H; rw [hy427]; with_reducible exact H2_) | (have H2_ := (Option.bind_some _ _).symm.trans H; with_reducible exact H2_) | with_reducible exact H | (rw [hy427]; exact H) | exact H
           have Ny427 := Gv.a0 hy427
           clear hy427
           have c44b0 := eq_true (of_decide_eq_true (by first | (with_reducible assumption) | assumption) : 0 ≤ x6_2)
           have c45b0 := eq_true (of_decide_eq_true (by first | (with_reducible assumption) | assumption) : x6_2 ≤ (l0.length : Int))
           obtain ⟨y430, hy430⟩ : ∃ y_ : List (S55), y_ = (l0.drop (x6_2 : Int).toNat) := ⟨_, rfl⟩
           replace H : ((impl_Rule_42.f k2 (([y422, y427, y430] : List (List (S55))))).bind fun t438 => (some (t438, 0))) = some (r1, r2) := by first | (rw [hy430]; with_reducible exact H) | (have H2_ := (Option.bind_some _ _).symm.trans H; rw [hy430]; with_reducible exact H2_) | (have H2_ := (Option.bind_some _ _).symm.trans H; with_reducible exact H2_) | with_reducible exact H | (rw [hy430]; exact H) | exact H
           have Ny430 := Gv.a0 hy430
           clear hy430
           obtain ⟨y435, hy435⟩ : ∃ y_ : List (List (S55)), y_ = (([y422, y427, y430] : List (List (S55)))) := ⟨_, rfl⟩
           replace H : ((impl_Rule_42.f k2 y435).bind fun t438 => (some (t438, 0))) = some (r1, r2) := by first | (rw [hy435]; with_reducible exact H) | (have H2_ := (Option.bind_some _ _).symm.trans H; rw [hy435]; with_reducible exact H2_) | (have H2_ := (Option.bind_some _ _).symm.trans H; with_reducible exact H2_) | with_reducible exact H | (rw [hy435]; exact H) | exact H
           have Ny435 := Gv.a0 hy435
           clear hy435
           replace H := Option.bind_eq_some_iff.mp H
           obtain ⟨t438, A460, H⟩ := H
           replace H : (some (t438, 0)) = some (r1, r2) := H
           have A46 := Gv.a0 A460
           clear A460
           simp only [Option.some.injEq, Prod.mk.injEq] at H
           obtain ⟨rfl, rfl⟩ := H
           try go_wp2
           have n0_ := Gv.a0 (Kd.V_drew HO_0.out)
           have n1_ := Gv.a0 (blk_drew BK398.out)
           have n2_ := Gv.a0 (below_drew1 HB.out)
           clear HO_0
           clear BK398
           clear HB
           have HO_0 := n0_
           have BK398 := n1_
           have HB := n2_
           clear n0_ n1_ n2_
           refine start_ (n := 14) (S := fun w' => True) (ds := []) #[false, false, false, false, false, false, false, false, false, false, false, false, false, false] (by kernel_rfl) rfl rfl trivial (fun hHeld => ?_); refine with_tabW impl_RuleAdd.tab8 impl_RuleAdd.bits8 (fun HT_ HW_ => ?_)
           generalize wr.drew = w47 at HO_0 BK398 HB hHeld ⊢
           refine Gv.pu 0 (some 26) HT_ ?_
           refine Gv.pu 1 (some 27) HT_ ?_
           refine Gv.pu 2 (some 28) HT_ ?_
           refine Gv.pu 3 (some 29) HT_ ?_
           refine Gv.pu 4 (some 30) HT_ ?_
           refine Gv.pn 5 (some 31) HT_ ?_
           refine Gv.pn 6 (some 32) HT_ ?_
           refine Gv.pn 7 (some 33) HT_ ?_
           refine Gv.pn 8 (some 34) HT_ ?_
           refine Gv.pn 9 (some 35) HT_ ?_
           refine Gv.pn 10 (some 36) HT_ ?_
           refine Gv.pn 11 (some 37) HT_ ?_
           refine Gv.pn 12 (some 38) HT_ ?_
           refine Gv.pu 13 (some 39) HT_ ?_
           refine done_ (done_of HT_.out (by kernel_rfl)) ?_
           try go_wp2
           have n0_ := Gv.a0 (Kd.V_drew HO_0.out)
           have n1_ := Gv.a0 (blk_drew BK398.out)
           have n2_ := Gv.a0 (below_drew1 HB.out)
           clear HO_0
           clear BK398
           clear HB
           have HO_0 := n0_
           have BK398 := n1_
           have HB := n2_
           clear n0_ n1_ n2_
           have q49 : (x6_2 : Int) ≤ ((l0.length : Int) : Int) := of_decide_eq_true (by first | (with_reducible assumption) | assumption)
           obtain ⟨i049, hi049, _, hsz49, _⟩ := info_parts info55
           have hroom49 : l0.length ≤ c0 := (Kd.V_reads' HO_0.out).2.1
           have hC49 : Kd.F k55 _ _ A0 l0.length l0 := (Kd.V_at (base := w.heap.size) HO_0.out).2.2
           have hcut49 := cut_to (P := Try.prog) 25 55 .i64 Try.underlying25 hi049 A0 l0.length c0 x6_2 (of_decide_eq_true (by first | (with_reducible assumption) | assumption)) q49 hroom49
           have hr49 := Kd.F_take (m := (x6_2 : Int).toNat) hC49 (by omega)
           have hy49 : y422.length = (x6_2 : Int).toNat := (by rw [Ny422.out, List.length_take]; omega)
           rw [← Ny422.out] at hr49
           rw [← hy49] at hcut49
           have HO426 := Gv.a0 (show Kd.V k55 55 _ w.heap.size _ (.slice A0 y422.length c0) y422 from Kd.V_mk (by omega) hr49)
           have HC426 := Gv.a0 (show y422.length ≤ c0 from by omega)
           clear hr49 hC49 hroom49 hi049 hsz49
           have KY49 := Gv.a0 hy49
           clear hy49
           replace q49 := eq_true q49
           have q50 : (x6_2 : Int) ≤ ((l0.length : Int) : Int) := of_decide_eq_true (by first | (with_reducible assumption) | assumption)
           obtain ⟨i050, hi050, _, hsz50, _⟩ := info_parts info55
           have hroom50 : l0.length ≤ c0 := (Kd.V_reads' HO_0.out).2.1
           have hC50 : Kd.F k55 _ _ A0 l0.length l0 := (Kd.V_at (base := w.heap.size) HO_0.out).2.2
           have q050 : (0 : Int) ≤ (x6_2 : Int) := of_decide_eq_true (by first | (with_reducible assumption) | assumption)
           have hcut50 := cut_from (P := Try.prog) 25 55 .i64 Try.underlying25 hi050 21 hsz50 A0 l0.length c0 x6_2 q050 q50
           have hr50 := Kd.F_cut (m := (x6_2 : Int).toNat) (c := c0) hC50 (by omega) hroom50
           obtain ⟨A50, hA50⟩ : ∃ A1, A1 = (if c0 = (x6_2 : Int).toNat then A0 else (A0 : Option Addr).map (·.add ((x6_2 : Int).toNat * 21))) := ⟨_, rfl⟩
           obtain ⟨c50, hc50⟩ : ∃ c1, c1 = c0 - (x6_2 : Int).toNat := ⟨_, rfl⟩
           have hy50 : y430.length = l0.length - (x6_2 : Int).toNat := (by rw [Ny430.out, List.length_drop] <;> omega)
           rw [show (l0).drop (x6_2 : Int).toNat = y430 from Ny430.out.symm] at hr50
           replace hr50 : Kd.F k55 _ _ A50 y430.length y430 := (by rw [hA50]; exact hr50)
           rw [← hy50, ← hA50, ← hc50] at hcut50
           have HO434 := Gv.a0 (show Kd.V k55 55 _ w.heap.size _ (.slice A50 y430.length c50) y430 from Kd.V_mk (by rw [hy50, hc50]; exact Nat.sub_le_sub_right hroom50 _) hr50)
           have HC434 := Gv.a0 (show y430.length ≤ c50 from by rw [hy50, hc50]; exact Nat.sub_le_sub_right hroom50 _)
           clear hr50 hC50 hroom50 hi050 hsz50 hc50
           have KY50 := Gv.a0 hy50
           have KA50 := Gv.a0 hA50
           clear hy50 hA50
           replace q50 := eq_true q50
           refine start_ (n := 12) (S := fun w' => w'.cell? ⟨gb398, 0, none⟩ = some (.int .i64 a1_0) ∧ w'.cell? ⟨gb398, 1, none⟩ = some (.int .i64 a1_1) ∧ w'.cell? ⟨gb398, 2, none⟩ = some (.int .i64 a1_2) ∧ w'.cell? ⟨gb398, 3, none⟩ = some (.int .i64 a1_3) ∧ w'.cell? ⟨gb398, 4, none⟩ = some (.int .i64 a1_4) ∧ w'.cell? ⟨gb398, 5, none⟩ = some (.int .i64 a1_5) ∧ w'.cell? ⟨gb398, 6, none⟩ = some (.int .i64 a1_6) ∧ w'.cell? ⟨gb398, 7, none⟩ = some (.int .i64 a1_7) ∧ w'.cell? ⟨gb398, 8, none⟩ = some (.int .i64 a1_8) ∧ w'.cell? ⟨gb398, 9, none⟩ = some (.int .i64 a1_9) ∧ w'.cell? ⟨gb398, 10, none⟩ = some (.int .i64 a1_10) ∧ w'.cell? ⟨gb398, 11, none⟩ = some (.int .i64 a1_11) ∧ w'.cell? ⟨gb398, 12, none⟩ = some (.int .i64 a1_12) ∧ w'.cell? ⟨gb398, 13, none⟩ = some (.int .i64 a1_13) ∧ w'.cell? ⟨gb398, 14, none⟩ = some (.int .i64 a1_14) ∧ w'.cell? ⟨gb398, 15, none⟩ = some (.int .i64 a1_15) ∧ w'.cell? ⟨gb398, 16, none⟩ = some (.int .i64 a1_16) ∧ w'.cell? ⟨gb398, 17, none⟩ = some (.int .i64 a1_17) ∧ w'.cell? ⟨gb398, 18, none⟩ = some (.int .i64 a1_18) ∧ w'.cell? ⟨gb398, 19, none⟩ = some (.int .i64 a1_19) ∧ w'.cell? ⟨gb398, 20, none⟩ = some (.int .i64 a1_20)) (ds := []) #[false, false, false, false, false, false, false, false, false, false, false, false] (by kernel_rfl) rfl rfl ⟨(blk_cell BK398.out 0).trans rfl, (blk_cell BK398.out 1).trans rfl, (blk_cell BK398.out 2).trans rfl, (blk_cell BK398.out 3).trans rfl, (blk_cell BK398.out 4).trans rfl, (blk_cell BK398.out 5).trans rfl, (blk_cell BK398.out 6).trans rfl, (blk_cell BK398.out 7).trans rfl, (blk_cell BK398.out 8).trans rfl, (blk_cell BK398.out 9).trans rfl, (blk_cell BK398.out 10).trans rfl, (blk_cell BK398.out 11).trans rfl, (blk_cell BK398.out 12).trans rfl, (blk_cell BK398.out 13).trans rfl, (blk_cell BK398.out 14).trans rfl, (blk_cell BK398.out 15).trans rfl, (blk_cell BK398.out 16).trans rfl, (blk_cell BK398.out 17).trans rfl, (blk_cell BK398.out 18).trans rfl, (blk_cell BK398.out 19).trans rfl, (blk_cell BK398.out 20).trans rfl⟩ (fun hHeld => ?_); refine with_tabW impl_RuleAdd.tab10 impl_RuleAdd.bits10 (fun HT_ HW_ => ?_)
           generalize w47.drew = w48 at HO_0 BK398 HB HO426 HO434 hHeld ⊢
           refine Gv.pu 0 (some 42) HT_ ?_
           refine Gv.pu 1 (some 43) HT_ ?_
           refine Gv.pu 2 (some 44) HT_ ?_
           refine Gv.pu 5 (some 47) HT_ ?_
           refine Gv.pu 6 (some 48) HT_ ?_
           refine Gv.pu 7 (some 49) HT_ ?_
           refine take_ (i := 3) (N := some 45) (v := ?_) (a' := ?_) #[true, true, true, true, false, true, true, true, false, false, false, false] rfl rfl (take_ofW HT_.out HW_.out (by kernel_rfl)) (fun _ _ _ h => h) (Or.inl ⟨by rfl, ?_⟩) hHeld ?_ ?_
           rotate_left
           ·rintro w' ⟨s0, s1, s2, s3, s4, s5, s6, s7, s8, s9, s10, s11, s12, s13, s14, s15, s16, s17, s18, s19, s20⟩
            first | ((refine Gv.load_run (t := 55) (A := ⟨gb398, 0, none⟩) (cs := [_, _, _, _, _, _, _, _, _, _, _, _, _, _, _, _, _, _, _, _, _]) (x := ?xx49_) ?ho49_ ?hx49_ ⟨s0, s1, s2, s3, s4, s5, s6, s7, s8, s9, s10, s11, s12, s13, s14, s15, s16, s17, s18, s19, s20, trivial⟩ Try.underlying55 rfl (by kernel_rfl)); (case ho49_ => rfl); (case hx49_ => rfl)) | (go_simp; with_reducible rfl)
           rotate_left
           ·simp only [Act.put, List.setIfInBounds_toArray, List.set_cons_zero, List.set_cons_succ, i64_w, i32_w]
            rfl
           refine one_ (i := 4) (N := some 46) #[true, true, true, true, true, true, true, true, false, false, false, false] rfl rfl (one_of HT_.out (by kernel_rfl)) (by decide) (fun K hK => ?_)
           refine Kd.R_lit_step k55 _ 55 ?hg (N := 46) ?hd (xs := ([(⟨a1_0, (⟨(⟨a1_1, a1_2, a1_3, a1_4, a1_5⟩ : S34), a1_6⟩ : S53), (⟨(⟨a1_7, a1_8, a1_9, a1_10, a1_11⟩ : S34), a1_12⟩ : S53), a1_13, a1_14, a1_15, a1_16, a1_17, a1_18, a1_19, a1_20⟩ : S55)] : List (S55))) (inner := [.int .i64 a1_0, .int .i64 a1_1, .int .i64 a1_2, .int .i64 a1_3, .int .i64 a1_4, .int .i64 a1_5, .int .i64 a1_6, .int .i64 a1_7, .int .i64 a1_8, .int .i64 a1_9, .int .i64 a1_10, .int .i64 a1_11, .int .i64 a1_12, .int .i64 a1_13, .int .i64 a1_14, .int .i64 a1_15, .int .i64 a1_16, .int .i64 a1_17, .int .i64 a1_18, .int .i64 a1_19, .int .i64 a1_20]) (ok := fun _ => True) (okp := fun _ => True) ?hr ?hp (fun _ hk => hk) trivial (Below.refl _ _) (Nat.le_refl _) (by simp) ?_; (case hd => rfl); (case hg => rfl); (case hr => first | (go_simp; done) | (go_simp; rfl)); (case hp => exact (Reps.front (show Kd.M k55 _ _ _ (⟨a1_0, (⟨(⟨a1_1, a1_2, a1_3, a1_4, a1_5⟩ : S34), a1_6⟩ : S53), (⟨(⟨a1_7, a1_8, a1_9, a1_10, a1_11⟩ : S34), a1_12⟩ : S53), a1_13, a1_14, a1_15, a1_16, a1_17, a1_18, a1_19, a1_20⟩ : S55) [.int .i64 a1_0, .int .i64 a1_1, .int .i64 a1_2, .int .i64 a1_3, .int .i64 a1_4, .int .i64 a1_5, .int .i64 a1_6, .int .i64 a1_7, .int .i64 a1_8, .int .i64 a1_9, .int .i64 a1_10, .int .i64 a1_11, .int .i64 a1_12, .int .i64 a1_13, .int .i64 a1_14, .int .i64 a1_15, .int .i64 a1_16, .int .i64 a1_17, .int .i64 a1_18, .int .i64 a1_19, .int .i64 a1_20] from (k55_mkM _ _ _ (⟨a1_0, (⟨(⟨a1_1, a1_2, a1_3, a1_4, a1_5⟩ : S34), a1_6⟩ : S53), (⟨(⟨a1_7, a1_8, a1_9, a1_10, a1_11⟩ : S34), a1_12⟩ : S53), a1_13, a1_14, a1_15, a1_16, a1_17, a1_18, a1_19, a1_20⟩ : S55) )) rfl (Reps.none _ _) rfl))
           intro v428 w51 ho52 hb hg_ hnew_
           clear hg_ hnew_
           (first | rw [← Ny427.out] at ho52 | (simp only [Int.reduceToNat] at ho52; rw [← Ny427.out] at ho52))
           have n0_ := Gv.a0 (Kd.V_elder' (by (with_reducible repeat (first | apply Kd.V_alloc | apply Kd.V_drewN | apply Kd.V_drew)); exact HO_0.out) (Kd.R_base ho52) hb)
           have n1_ := Gv.a0 (Kd.V_elder' (by (with_reducible repeat (first | apply Kd.V_alloc | apply Kd.V_drewN | apply Kd.V_drew)); exact HO426.out) (Kd.R_base ho52) hb)
           have n2_ := Gv.a0 (Kd.V_elder' (by (with_reducible repeat (first | apply Kd.V_alloc | apply Kd.V_drewN | apply Kd.V_drew)); exact HO434.out) (Kd.R_base ho52) hb)
           have n3_ := Gv.a0 (Kd.R_lower (Kd.R_newB (Kd.R_newM (M := fun k_ => (w.heap.size ≤ k_)) ho52 (below_size Gv.bw) (fun k_ h_ => h_)) (g := gb398) (o := .cells #[.int .i64 a1_0, .int .i64 a1_1, .int .i64 a1_2, .int .i64 a1_3, .int .i64 a1_4, .int .i64 a1_5, .int .i64 a1_6, .int .i64 a1_7, .int .i64 a1_8, .int .i64 a1_9, .int .i64 a1_10, .int .i64 a1_11, .int .i64 a1_12, .int .i64 a1_13, .int .i64 a1_14, .int .i64 a1_15, .int .i64 a1_16, .int .i64 a1_17, .int .i64 a1_18, .int .i64 a1_19, .int .i64 a1_20] 55 (0, 0)) Gv.bk) (below_size Gv.bw))
           have n4_ := Gv.a0 (Gv.bb BK398.out hb)
           have n5_ := Gv.a0 (below_step Gv.bw hb)
           clear HO_0
           clear HO426
           clear HO434
           clear BK398
           clear HB
           have HO_0 := n0_
           have HO426 := n1_
           have HO434 := n2_
           have HO429 := n3_
           have BK398 := n4_
           have HB := n5_
           clear n0_ n1_ n2_ n3_ n4_ n5_
           clear hb ho52
           obtain ⟨Ao53, co53, eo53⟩ := Kd.R_slice HO429.out
           (first | subst eo53 | (injection eo53 with f1_ f2_ f3_; have f4_ := f1_.symm; have f5_ := f3_.symm; clear f1_ f2_ f3_; subst f4_; subst f5_))
           refine hK.out _ _ ⟨(blk_cell BK398.out 0).trans rfl, (blk_cell BK398.out 1).trans rfl, (blk_cell BK398.out 2).trans rfl, (blk_cell BK398.out 3).trans rfl, (blk_cell BK398.out 4).trans rfl, (blk_cell BK398.out 5).trans rfl, (blk_cell BK398.out 6).trans rfl, (blk_cell BK398.out 7).trans rfl, (blk_cell BK398.out 8).trans rfl, (blk_cell BK398.out 9).trans rfl, (blk_cell BK398.out 10).trans rfl, (blk_cell BK398.out 11).trans rfl, (blk_cell BK398.out 12).trans rfl, (blk_cell BK398.out 13).trans rfl, (blk_cell BK398.out 14).trans rfl, (blk_cell BK398.out 15).trans rfl, (blk_cell BK398.out 16).trans rfl, (blk_cell BK398.out 17).trans rfl, (blk_cell BK398.out 18).trans rfl, (blk_cell BK398.out 19).trans rfl, (blk_cell BK398.out 20).trans rfl⟩ (fun hHeld => ?_)
           clear hK K
           refine norm_ (a' := ?_) ?_ ?_
           rotate_left
           ·show Act.put _ (some 46) _ = _
            simp only [Act.put, List.setIfInBounds_toArray, List.set_cons_zero, List.set_cons_succ, i64_w, i32_w]
            rfl
           refine one_ (i := 8) (N := some 50) #[true, true, true, true, true, true, true, true, true, false, false, false] rfl rfl (one_of HT_.out (by kernel_rfl)) (by decide) (fun K hK => ?_)
           refine Kd.N_lit_step (Kd.slice 55 k55) _ 25 ?hg (N' := 50) ?hd (xs := ([y422, y427, y430] : List (List (S55)))) (inner := [.slice A0 y422.length c0, .slice Ao53 y427.length co53, .slice A50 y430.length c50]) (ok := (fun k_ => (P0_ k_ ∨ w.heap.size ≤ k_) ∧ k_ ≠ gb398)) (okp := (fun k_ => (P0_ k_ ∨ w.heap.size ≤ k_) ∧ k_ ≠ gb398)) ?hr ?hp (fun _ hk => hk) ((show ∀ k_, w51.heap.size ≤ k_ → (fun k_ => (P0_ k_ ∨ w.heap.size ≤ k_) ∧ k_ ≠ gb398) k_ from fun k_ hk => ⟨(.inr (Nat.le_trans (below_size Gv.bw) hk)), Kd.freshB (g := gb398) (o := .cells #[.int .i64 a1_0, .int .i64 a1_1, .int .i64 a1_2, .int .i64 a1_3, .int .i64 a1_4, .int .i64 a1_5, .int .i64 a1_6, .int .i64 a1_7, .int .i64 a1_8, .int .i64 a1_9, .int .i64 a1_10, .int .i64 a1_11, .int .i64 a1_12, .int .i64 a1_13, .int .i64 a1_14, .int .i64 a1_15, .int .i64 a1_16, .int .i64 a1_17, .int .i64 a1_18, .int .i64 a1_19, .int .i64 a1_20] 55 (0, 0)) Gv.bk k_ hk⟩) _ (Nat.le_refl _)) (Below.refl _ _) (Nat.le_refl _) (by simp) ?_; (case hd => rfl); (case hg => rfl); (case hr => first | (go_simp; done) | (go_simp; rfl)); (case hp => exact (Reps.one (show Kd.FK (Kd.slice 55 k55) _ _ y422 [.slice A0 y422.length c0] from (Kd.FK_slice_mk (Kd.V_reads' (Kd.V_mono (ok' := (fun k_ => (P0_ k_ ∨ w.heap.size ≤ k_) ∧ k_ ≠ gb398)) (HO426.out) (fun k_ hk => ⟨hk.1.1, hk.1.2⟩))).2.1 (Kd.V_F (Kd.V_mono (ok' := (fun k_ => (P0_ k_ ∨ w.heap.size ≤ k_) ∧ k_ ≠ gb398)) (HO426.out) (fun k_ hk => ⟨hk.1.1, hk.1.2⟩))))) (Reps.one (show Kd.FK (Kd.slice 55 k55) _ _ y427 [.slice Ao53 y427.length co53] from (Kd.FK_slice_mk (Kd.R_reads' (Kd.R_mono (ok' := (fun k_ => (P0_ k_ ∨ w.heap.size ≤ k_) ∧ k_ ≠ gb398)) (HO429.out) (fun k_ hk => ⟨(.inr (hk.1.1)), hk.2⟩))).2.1 (Kd.R_F (Kd.R_mono (ok' := (fun k_ => (P0_ k_ ∨ w.heap.size ≤ k_) ∧ k_ ≠ gb398)) (HO429.out) (fun k_ hk => ⟨(.inr (hk.1.1)), hk.2⟩))))) (Reps.one (show Kd.FK (Kd.slice 55 k55) _ _ y430 [.slice A50 y430.length c50] from (Kd.FK_slice_mk (Kd.V_reads' (Kd.V_mono (ok' := (fun k_ => (P0_ k_ ∨ w.heap.size ≤ k_) ∧ k_ ≠ gb398)) (HO434.out) (fun k_ hk => ⟨hk.1.1, hk.1.2⟩))).2.1 (Kd.V_F (Kd.V_mono (ok' := (fun k_ => (P0_ k_ ∨ w.heap.size ≤ k_) ∧ k_ ≠ gb398)) (HO434.out) (fun k_ hk => ⟨hk.1.1, hk.1.2⟩))))) (Reps.none _ _)))))
           intro v436 w54 ho55 hb hg_ hnew_
           clear hg_ hnew_
           (first | rw [← Ny435.out] at ho55 | (simp only [Int.reduceToNat] at ho55; rw [← Ny435.out] at ho55))
           have n0_ := Gv.a0 (Kd.V_elder' (by (with_reducible repeat (first | apply Kd.V_alloc | apply Kd.V_drewN | apply Kd.V_drew)); exact HO_0.out) (Kd.N_base ho55) hb)
           have n1_ := Gv.a0 (Kd.V_elder' (by (with_reducible repeat (first | apply Kd.V_alloc | apply Kd.V_drewN | apply Kd.V_drew)); exact HO426.out) (Kd.N_base ho55) hb)
           have n2_ := Gv.a0 (Kd.V_elder' (by (with_reducible repeat (first | apply Kd.V_alloc | apply Kd.V_drewN | apply Kd.V_drew)); exact HO434.out) (Kd.N_base ho55) hb)
           have n3_ := Gv.a0 (Kd.N_lower ho55 (below_size Gv.bw))
           have n4_ := Gv.a0 (Gv.bb BK398.out hb)
           have n5_ := Gv.a0 (below_step Gv.bw hb)
           clear HO_0
           clear HO426
           clear HO434
           clear BK398
           clear HB
           clear HO429
           have HO_0 := n0_
           have HO426 := n1_
           have HO434 := n2_
           have HO437 := n3_
           have BK398 := n4_
           have HB := n5_
           clear n0_ n1_ n2_ n3_ n4_ n5_
           clear hb ho55
           obtain ⟨Ao56, co56, eo56⟩ := Kd.N_slice HO437.out
           (first | subst eo56 | (injection eo56 with f1_ f2_ f3_; have f4_ := f1_.symm; have f5_ := f3_.symm; clear f1_ f2_ f3_; subst f4_; subst f5_))
           refine hK.out _ _ ⟨(blk_cell BK398.out 0).trans rfl, (blk_cell BK398.out 1).trans rfl, (blk_cell BK398.out 2).trans rfl, (blk_cell BK398.out 3).trans rfl, (blk_cell BK398.out 4).trans rfl, (blk_cell BK398.out 5).trans rfl, (blk_cell BK398.out 6).trans rfl, (blk_cell BK398.out 7).trans rfl, (blk_cell BK398.out 8).trans rfl, (blk_cell BK398.out 9).trans rfl, (blk_cell BK398.out 10).trans rfl, (blk_cell BK398.out 11).trans rfl, (blk_cell BK398.out 12).trans rfl, (blk_cell BK398.out 13).trans rfl, (blk_cell BK398.out 14).trans rfl, (blk_cell BK398.out 15).trans rfl, (blk_cell BK398.out 16).trans rfl, (blk_cell BK398.out 17).trans rfl, (blk_cell BK398.out 18).trans rfl, (blk_cell BK398.out 19).trans rfl, (blk_cell BK398.out 20).trans rfl⟩ (fun hHeld => ?_)
           clear hK K
           refine norm_ (a' := ?_) ?_ ?_
           rotate_left
           ·show Act.put _ (some 50) _ = _
            simp only [Act.put, List.setIfInBounds_toArray, List.set_cons_zero, List.set_cons_succ, i64_w, i32_w]
            rfl
           refine one_ (i := 9) (N := some 51) #[true, true, true, true, true, true, true, true, true, true, false, false] rfl rfl (one_of HT_.out (by kernel_rfl)) (by decide) (fun K hK => ?_)
           refine goes_ Try.func42 (by kernel_rfl) rfl #[.slice Ao56 y435.length co56] (by rfl) rfl rfl Gv.lm ?_
           with_reducible refine (impl_Rule_42.calls k2 _ _ y435 t438 _ ?side1 ?side2 A46.out).mono ?_
           (case side1 => repeat (first | exact (Kd.N_reads' HO437.out).2.2 | (with_reducible refine Kd.C_alloc ?_ _) | (with_reducible refine Kd.C_drewN ?_ _) | (with_reducible refine Kd.C_drew ?_)))
           (case side2 => exact (Kd.N_reads' HO437.out).2.1)
           rintro e w57 ⟨v439, rfl, ho0, hb⟩
           refine ⟨_, rfl, ?_⟩
           have n0_ := Gv.a0 (Kd.V_elder' (by (with_reducible repeat (first | apply Kd.V_alloc | apply Kd.V_drewN | apply Kd.V_drew)); exact HO_0.out) (Kd.R_base ho0) hb)
           have n1_ := Gv.a0 (Kd.V_elder' (by (with_reducible repeat (first | apply Kd.V_alloc | apply Kd.V_drewN | apply Kd.V_drew)); exact HO426.out) (Kd.R_base ho0) hb)
           have n2_ := Gv.a0 (Kd.V_elder' (by (with_reducible repeat (first | apply Kd.V_alloc | apply Kd.V_drewN | apply Kd.V_drew)); exact HO434.out) (Kd.R_base ho0) hb)
           have n3_ := Gv.a0 (Kd.N_elder' (by (with_reducible repeat (first | apply Kd.N_alloc | apply Kd.N_drewN | apply Kd.N_drew)); exact HO437.out) (Kd.R_base ho0) hb)
           have n4_ := Gv.a0 (Kd.R_lower (Kd.R_newB (Kd.R_newM (M := fun k_ => (w.heap.size ≤ k_)) ho0 (below_size Gv.bw) (fun k_ h_ => h_)) (g := gb398) (o := .cells #[.int .i64 a1_0, .int .i64 a1_1, .int .i64 a1_2, .int .i64 a1_3, .int .i64 a1_4, .int .i64 a1_5, .int .i64 a1_6, .int .i64 a1_7, .int .i64 a1_8, .int .i64 a1_9, .int .i64 a1_10, .int .i64 a1_11, .int .i64 a1_12, .int .i64 a1_13, .int .i64 a1_14, .int .i64 a1_15, .int .i64 a1_16, .int .i64 a1_17, .int .i64 a1_18, .int .i64 a1_19, .int .i64 a1_20] 55 (0, 0)) Gv.bk) (below_size Gv.bw))
           have n5_ := Gv.a0 (Gv.bb BK398.out hb)
           have n6_ := Gv.a0 (below_step Gv.bw hb)
           clear HO_0
           clear HO426
           clear HO434
           clear HO437
           clear BK398
           clear HB
           have HO_0 := n0_
           have HO426 := n1_
           have HO434 := n2_
           have HO437 := n3_
           have HO440 := n4_
           have BK398 := n5_
           have HB := n6_
           clear n0_ n1_ n2_ n3_ n4_ n5_ n6_
           (try clear hb)
           (try clear hb2)
           (try clear hk)
           (try clear hi)
           (try clear ho0)
           refine hK.out _ _ ⟨(blk_cell BK398.out 0).trans rfl, (blk_cell BK398.out 1).trans rfl, (blk_cell BK398.out 2).trans rfl, (blk_cell BK398.out 3).trans rfl, (blk_cell BK398.out 4).trans rfl, (blk_cell BK398.out 5).trans rfl, (blk_cell BK398.out 6).trans rfl, (blk_cell BK398.out 7).trans rfl, (blk_cell BK398.out 8).trans rfl, (blk_cell BK398.out 9).trans rfl, (blk_cell BK398.out 10).trans rfl, (blk_cell BK398.out 11).trans rfl, (blk_cell BK398.out 12).trans rfl, (blk_cell BK398.out 13).trans rfl, (blk_cell BK398.out 14).trans rfl, (blk_cell BK398.out 15).trans rfl, (blk_cell BK398.out 16).trans rfl, (blk_cell BK398.out 17).trans rfl, (blk_cell BK398.out 18).trans rfl, (blk_cell BK398.out 19).trans rfl, (blk_cell BK398.out 20).trans rfl⟩ (fun hHeld => ?_)
           clear hK K
           refine norm_ (a' := ?_) ?_ ?_
           rotate_left
           ·show Act.put _ (some 51) _ = _
            simp only [Act.put, List.setIfInBounds_toArray, List.set_cons_zero, List.set_cons_succ, i64_w, i32_w]
            rfl
           refine Gv.pu 10 (some 4) HT_ ?_
           refine Gv.pu 11 (some 5) HT_ ?_
           refine done_ (done_of HT_.out (by kernel_rfl)) ?_
           try go_wp2
           go_ret2
           exact ⟨_, Gv.rt, by (with_reducible repeat (first | apply Kd.R_alloc | apply Kd.R_drewN | apply Kd.R_drew)); exact Kd.R_mono HO440.out (fun _ hk => hk.1.1), Gv.bw⟩
          ·rw [if_neg c43] at H
           exact absurd H (by simp)
         ·rw [if_neg c42] at H
          exact absurd H (by simp)

/-! ### laws_FnExactRuleAdd: function 7 -/
def laws_FnExactRuleAdd.f (k : Nat) (l0 : List (S50)) (a1_0 : Int) (a1_1 : Int) (a1_2 : Int) (a1_3 : Int) (a1_4 : Int) (a1_5 : Int) (a1_6 : Int) (a1_7 : Int) (a1_8 : Int) (a1_9 : Int) (a1_10 : Int) (a1_11 : Int) (a1_12 : Int) (a1_13 : Int) (a1_14 : Int) (a1_15 : Int) (a1_16 : Int) (a1_17 : Int) (a1_18 : Int) (a1_19 : Int) (a1_20 : Int) : Option (Bool) := (laws_szRuleS.f l0 1048576).bind fun t442 => (if t442 < 0 then (some true) else ((laws_toRuleS.f k l0).bind fun t443 => ((laws_toRule.f a1_0 a1_1 a1_2 a1_3 a1_4 a1_5 a1_6 a1_7 a1_8 a1_9 a1_10 a1_11 a1_12 a1_13 a1_14 a1_15 a1_16 a1_17 a1_18 a1_19 a1_20).bind fun bt446 => ((spec_RuleAdd.f k t443 bt446.1 bt446.2.1 bt446.2.2.1 bt446.2.2.2.1 bt446.2.2.2.2.1 bt446.2.2.2.2.2.1 bt446.2.2.2.2.2.2.1 bt446.2.2.2.2.2.2.2.1 bt446.2.2.2.2.2.2.2.2.1 bt446.2.2.2.2.2.2.2.2.2.1 bt446.2.2.2.2.2.2.2.2.2.2.1 bt446.2.2.2.2.2.2.2.2.2.2.2.1 bt446.2.2.2.2.2.2.2.2.2.2.2.2.1 bt446.2.2.2.2.2.2.2.2.2.2.2.2.2.1 bt446.2.2.2.2.2.2.2.2.2.2.2.2.2.2.1 bt446.2.2.2.2.2.2.2.2.2.2.2.2.2.2.2.1 bt446.2.2.2.2.2.2.2.2.2.2.2.2.2.2.2.2.1 bt446.2.2.2.2.2.2.2.2.2.2.2.2.2.2.2.2.2.1 bt446.2.2.2.2.2.2.2.2.2.2.2.2.2.2.2.2.2.2.1 bt446.2.2.2.2.2.2.2.2.2.2.2.2.2.2.2.2.2.2.2.1 bt446.2.2.2.2.2.2.2.2.2.2.2.2.2.2.2.2.2.2.2.2).bind fun bt467 => ((laws_toRuleS.f k l0).bind fun t471 => ((laws_toRule.f a1_0 a1_1 a1_2 a1_3 a1_4 a1_5 a1_6 a1_7 a1_8 a1_9 a1_10 a1_11 a1_12 a1_13 a1_14 a1_15 a1_16 a1_17 a1_18 a1_19 a1_20).bind fun bt474 => ((impl_RuleAdd.f k t471 bt474.1 bt474.2.1 bt474.2.2.1 bt474.2.2.2.1 bt474.2.2.2.2.1 bt474.2.2.2.2.2.1 bt474.2.2.2.2.2.2.1 bt474.2.2.2.2.2.2.2.1 bt474.2.2.2.2.2.2.2.2.1 bt474.2.2.2.2.2.2.2.2.2.1 bt474.2.2.2.2.2.2.2.2.2.2.1 bt474.2.2.2.2.2.2.2.2.2.2.2.1 bt474.2.2.2.2.2.2.2.2.2.2.2.2.1 bt474.2.2.2.2.2.2.2.2.2.2.2.2.2.1 bt474.2.2.2.2.2.2.2.2.2.2.2.2.2.2.1 bt474.2.2.2.2.2.2.2.2.2.2.2.2.2.2.2.1 bt474.2.2.2.2.2.2.2.2.2.2.2.2.2.2.2.2.1 bt474.2.2.2.2.2.2.2.2.2.2.2.2.2.2.2.2.2.1 bt474.2.2.2.2.2.2.2.2.2.2.2.2.2.2.2.2.2.2.1 bt474.2.2.2.2.2.2.2.2.2.2.2.2.2.2.2.2.2.2.2.1 bt474.2.2.2.2.2.2.2.2.2.2.2.2.2.2.2.2.2.2.2.2).bind fun bt495 => ((laws_eqRuleS.f k bt495.1 bt467.1).bind fun t499 => (if t499 = true then (if bt495.2 = bt467.2 then ((laws_toRuleS.f k l0).bind fun t500 => ((laws_eqRuleS.f k t471 t500).bind fun t503 => (if t503 = true then ((laws_markRuleS.f t471 1).bind fun bt504 => (if bt504.1 < 0 then (none) else ((laws_eqRuleS.f k bt495.1 bt467.1).bind fun t506 => (if t506 = true then ((laws_markRuleS.f bt495.1 1).bind fun bt507 => ((laws_heldRuleS.f bt507.2 1).bind fun t509 => (if t509 < 0 then (none) else (if t509 = bt507.1 then ((laws_toRuleS.f k l0).bind fun t510 => ((laws_toRule.f a1_0 a1_1 a1_2 a1_3 a1_4 a1_5 a1_6 a1_7 a1_8 a1_9 a1_10 a1_11 a1_12 a1_13 a1_14 a1_15 a1_16 a1_17 a1_18 a1_19 a1_20).bind fun bt513 => ((impl_RuleAdd.f k t510 bt513.1 bt513.2.1 bt513.2.2.1 bt513.2.2.2.1 bt513.2.2.2.2.1 bt513.2.2.2.2.2.1 bt513.2.2.2.2.2.2.1 bt513.2.2.2.2.2.2.2.1 bt513.2.2.2.2.2.2.2.2.1 bt513.2.2.2.2.2.2.2.2.2.1 bt513.2.2.2.2.2.2.2.2.2.2.1 bt513.2.2.2.2.2.2.2.2.2.2.2.1 bt513.2.2.2.2.2.2.2.2.2.2.2.2.1 bt513.2.2.2.2.2.2.2.2.2.2.2.2.2.1 bt513.2.2.2.2.2.2.2.2.2.2.2.2.2.2.1 bt513.2.2.2.2.2.2.2.2.2.2.2.2.2.2.2.1 bt513.2.2.2.2.2.2.2.2.2.2.2.2.2.2.2.2.1 bt513.2.2.2.2.2.2.2.2.2.2.2.2.2.2.2.2.2.1 bt513.2.2.2.2.2.2.2.2.2.2.2.2.2.2.2.2.2.2.1 bt513.2.2.2.2.2.2.2.2.2.2.2.2.2.2.2.2.2.2.2.1 bt513.2.2.2.2.2.2.2.2.2.2.2.2.2.2.2.2.2.2.2.2).bind fun bt534 => ((laws_eqRuleS.f k bt534.1 bt467.1).bind fun t538 => (if t538 = true then (if bt534.2 = bt467.2 then ((laws_heldRuleS.f bt507.2 1).bind fun t539 => (if t539 < 0 then (none) else (if t539 = bt507.1 then (some true) else (none)))) else (none)) else (none)))))) else (none))))) else (none))))) else (none)))) else (none)) else (none))))))))))
theorem laws_FnExactRuleAdd.mono : ∀ a0 a1 a2 a3 a4 a5 a6 a7 a8 a9 a10 a11 a12 a13 a14 a15 a16 a17 a18 a19 a20 a21 k, LeO (laws_FnExactRuleAdd.f k a0 a1 a2 a3 a4 a5 a6 a7 a8 a9 a10 a11 a12 a13 a14 a15 a16 a17 a18 a19 a20 a21) (laws_FnExactRuleAdd.f (k + 1) a0 a1 a2 a3 a4 a5 a6 a7 a8 a9 a10 a11 a12 a13 a14 a15 a16 a17 a18 a19 a20 a21) := by
 intro a0 a1 a2 a3 a4 a5 a6 a7 a8 a9 a10 a11 a12 a13 a14 a15 a16 a17 a18 a19 a20 a21 k
 unfold laws_FnExactRuleAdd.f
 repeat' first
   | (with_reducible exact impl_RuleAdd.mono _ _ _ _ _ _ _ _ _ _ _ _ _ _ _ _ _ _ _ _ _ _ _)
   | (with_reducible exact laws_eqRuleS.mono _ _ _)
   | (with_reducible exact laws_toRuleS.mono _ _)
   | (with_reducible exact spec_RuleAdd.mono _ _ _ _ _ _ _ _ _ _ _ _ _ _ _ _ _ _ _ _ _ _ _)
   | (with_reducible exact LeO.refl _)
   | (with_reducible exact LeO.none _)
   | (with_reducible refine LeO.ite ?_ ?_)
   | (with_reducible refine LeO.bind ?_ (fun _ => ?_))
   | exact impl_RuleAdd.mono _ _ _ _ _ _ _ _ _ _ _ _ _ _ _ _ _ _ _ _ _ _ _
   | exact laws_eqRuleS.mono _ _ _
   | exact laws_toRuleS.mono _ _
   | exact spec_RuleAdd.mono _ _ _ _ _ _ _ _ _ _ _ _ _ _ _ _ _ _ _ _ _ _ _
   | exact LeO.none _
   | refine LeO.ite ?_ ?_
   | refine LeO.bind ?_ (fun _ => ?_)
def laws_FnExactRuleAdd.T5 : Bool × List (List Nat × List Nat) := (true, [([], []), ([0], [0]), ([], []), ([2, 1], [2]), ([1, 3, 3], [1, 3]), ([4], [4]), ([5], [5]), ([5], [5]), ([6, 4, 0, 1, 2, 3, 4, 5, 6], [6]), ([7, 8, 0, 1, 2, 3, 4, 5, 6, 7, 8], [7])])
def laws_FnExactRuleAdd.B5 : List Nat := [0, 1, 0, 7, 15, 31, 63, 63, 127, 511]
theorem laws_FnExactRuleAdd.tab5 : rtab .any (opsOf Try.f7 5) = laws_FnExactRuleAdd.T5 := by kernel_rfl
theorem laws_FnExactRuleAdd.bits5 : waitsOk laws_FnExactRuleAdd.T5.2 laws_FnExactRuleAdd.B5 = true := by kernel_rfl
def laws_FnExactRuleAdd.T24 : Bool × List (List Nat × List Nat) := (true, [([], []), ([0], [0]), ([], []), ([2, 1], [2]), ([1, 3, 3], [1, 3]), ([4], [4]), ([5], [5]), ([5], [5]), ([6, 4, 0, 1, 2, 3, 4, 5, 6], [6]), ([7, 8, 0, 1, 2, 3, 4, 5, 6, 7, 8], [7])])
def laws_FnExactRuleAdd.B24 : List Nat := [0, 1, 0, 7, 15, 31, 63, 63, 127, 511]
theorem laws_FnExactRuleAdd.tab24 : rtab .any (opsOf Try.f7 24) = laws_FnExactRuleAdd.T24 := by kernel_rfl
theorem laws_FnExactRuleAdd.bits24 : waitsOk laws_FnExactRuleAdd.T24.2 laws_FnExactRuleAdd.B24 = true := by kernel_rfl
set_option maxHeartbeats 8000000 in
set_option maxRecDepth 100000 in
theorem laws_FnExactRuleAdd.calls (k : Nat) (A0 : Option Addr) (c0 : Nat) (l0 : List (S50)) (a1_0 : Int) (a1_1 : Int) (a1_2 : Int) (a1_3 : Int) (a1_4 : Int) (a1_5 : Int) (a1_6 : Int) (a1_7 : Int) (a1_8 : Int) (a1_9 : Int) (a1_10 : Int) (a1_11 : Int) (a1_12 : Int) (a1_13 : Int) (a1_14 : Int) (a1_15 : Int) (a1_16 : Int) (a1_17 : Int) (a1_18 : Int) (a1_19 : Int) (a1_20 : Int) (r : Bool) (w : World) (hr0 : Kd.C k50 w A0 l0.length l0) (hc0 : l0.length ≤ c0) (h : laws_FnExactRuleAdd.f k l0 a1_0 a1_1 a1_2 a1_3 a1_4 a1_5 a1_6 a1_7 a1_8 a1_9 a1_10 a1_11 a1_12 a1_13 a1_14 a1_15 a1_16 a1_17 a1_18 a1_19 a1_20 = some r) :
  Calls Try.prog 7 #[.slice A0 l0.length c0, .agg #[.int .i64 a1_0, .int .i64 a1_1, .int .i64 a1_2, .int .i64 a1_3, .int .i64 a1_4, .int .i64 a1_5, .int .i64 a1_6, .int .i64 a1_7, .int .i64 a1_8, .int .i64 a1_9, .int .i64 a1_10, .int .i64 a1_11, .int .i64 a1_12, .int .i64 a1_13, .int .i64 a1_14, .int .i64 a1_15, .int .i64 a1_16, .int .i64 a1_17, .int .i64 a1_18, .int .i64 a1_19, .int .i64 a1_20]] w fun e w' => e = .returned (.bool r) ∧ Below w.heap.size w w' := by
 have hu50 := Try.underlying50
 have HR0 := Gv.a0 hr0
 have HC0 := Gv.a0 hc0
 clear hr0 hc0
 have HB := Gv.a0 (Below.refl w.heap.size w)
 have H : ((laws_szRuleS.f l0 1048576).bind fun t442 => (if t442 < 0 then (some true) else ((laws_toRuleS.f k l0).bind fun t443 => ((laws_toRule.f a1_0 a1_1 a1_2 a1_3 a1_4 a1_5 a1_6 a1_7 a1_8 a1_9 a1_10 a1_11 a1_12 a1_13 a1_14 a1_15 a1_16 a1_17 a1_18 a1_19 a1_20).bind fun bt446 => ((spec_RuleAdd.f k t443 bt446.1 bt446.2.1 bt446.2.2.1 bt446.2.2.2.1 bt446.2.2.2.2.1 bt446.2.2.2.2.2.1 bt446.2.2.2.2.2.2.1 bt446.2.2.2.2.2.2.2.1 bt446.2.2.2.2.2.2.2.2.1 bt446.2.2.2.2.2.2.2.2.2.1 bt446.2.2.2.2.2.2.2.2.2.2.1 bt446.2.2.2.2.2.2.2.2.2.2.2.1 bt446.2.2.2.2.2.2.2.2.2.2.2.2.1 bt446.2.2.2.2.2.2.2.2.2.2.2.2.2.1 bt446.2.2.2.2.2.2.2.2.2.2.2.2.2.2.1 bt446.2.2.2.2.2.2.2.2.2.2.2.2.2.2.2.1 bt446.2.2.2.2.2.2.2.2.2.2.2.2.2.2.2.2.1 bt446.2.2.2.2.2.2.2.2.2.2.2.2.2.2.2.2.2.1 bt446.2.2.2.2.2.2.2.2.2.2.2.2.2.2.2.2.2.2.1 bt446.2.2.2.2.2.2.2.2.2.2.2.2.2.2.2.2.2.2.2.1 bt446.2.2.2.2.2.2.2.2.2.2.2.2.2.2.2.2.2.2.2.2).bind fun bt467 => ((laws_toRuleS.f k l0).bind fun t471 => ((laws_toRule.f a1_0 a1_1 a1_2 a1_3 a1_4 a1_5 a1_6 a1_7 a1_8 a1_9 a1_10 a1_11 a1_12 a1_13 a1_14 a1_15 a1_16 a1_17 a1_18 a1_19 a1_20).bind fun bt474 => ((impl_RuleAdd.f k t471 bt474.1 bt474.2.1 bt474.2.2.1 bt474.2.2.2.1 bt474.2.2.2.2.1 bt474.2.2.2.2.2.1 bt474.2.2.2.2.2.2.1 bt474.2.2.2.2.2.2.2.1 bt474.2.2.2.2.2.2.2.2.1 bt474.2.2.2.2.2.2.2.2.2.1 bt474.2.2.2.2.2.2.2.2.2.2.1 bt474.2.2.2.2.2.2.2.2.2.2.2.1 bt474.2.2.2.2.2.2.2.2.2.2.2.2.1 bt474.2.2.2.2.2.2.2.2.2.2.2.2.2.1 bt474.2.2.2.2.2.2.2.2.2.2.2.2.2.2.1 bt474.2.2.2.2.2.2.2.2.2.2.2.2.2.2.2.1 bt474.2.2.2.2.2.2.2.2.2.2.2.2.2.2.2.2.1 bt474.2.2.2.2.2.2.2.2.2.2.2.2.2.2.2.2.2.1 bt474.2.2.2.2.2.2.2.2.2.2.2.2.2.2.2.2.2.2.1 bt474.2.2.2.2.2.2.2.2.2.2.2.2.2.2.2.2.2.2.2.1 bt474.2.2.2.2.2.2.2.2.2.2.2.2.2.2.2.2.2.2.2.2).bind fun bt495 => ((laws_eqRuleS.f k bt495.1 bt467.1).bind fun t499 => (if t499 = true then (if bt495.2 = bt467.2 then ((laws_toRuleS.f k l0).bind fun t500 => ((laws_eqRuleS.f k t471 t500).bind fun t503 => (if t503 = true then ((laws_markRuleS.f t471 1).bind fun bt504 => (if bt504.1 < 0 then (none) else ((laws_eqRuleS.f k bt495.1 bt467.1).bind fun t506 => (if t506 = true then ((laws_markRuleS.f bt495.1 1).bind fun bt507 => ((laws_heldRuleS.f bt507.2 1).bind fun t509 => (if t509 < 0 then (none) else (if t509 = bt507.1 then ((laws_toRuleS.f k l0).bind fun t510 => ((laws_toRule.f a1_0 a1_1 a1_2 a1_3 a1_4 a1_5 a1_6 a1_7 a1_8 a1_9 a1_10 a1_11 a1_12 a1_13 a1_14 a1_15 a1_16 a1_17 a1_18 a1_19 a1_20).bind fun bt513 => ((impl_RuleAdd.f k t510 bt513.1 bt513.2.1 bt513.2.2.1 bt513.2.2.2.1 bt513.2.2.2.2.1 bt513.2.2.2.2.2.1 bt513.2.2.2.2.2.2.1 bt513.2.2.2.2.2.2.2.1 bt513.2.2.2.2.2.2.2.2.1 bt513.2.2.2.2.2.2.2.2.2.1 bt513.2.2.2.2.2.2.2.2.2.2.1 bt513.2.2.2.2.2.2.2.2.2.2.2.1 bt513.2.2.2.2.2.2.2.2.2.2.2.2.1 bt513.2.2.2.2.2.2.2.2.2.2.2.2.2.1 bt513.2.2.2.2.2.2.2.2.2.2.2.2.2.2.1 bt513.2.2.2.2.2.2.2.2.2.2.2.2.2.2.2.1 bt513.2.2.2.2.2.2.2.2.2.2.2.2.2.2.2.2.1 bt513.2.2.2.2.2.2.2.2.2.2.2.2.2.2.2.2.2.1 bt513.2.2.2.2.2.2.2.2.2.2.2.2.2.2.2.2.2.2.1 bt513.2.2.2.2.2.2.2.2.2.2.2.2.2.2.2.2.2.2.2.1 bt513.2.2.2.2.2.2.2.2.2.2.2.2.2.2.2.2.2.2.2.2).bind fun bt534 => ((laws_eqRuleS.f k bt534.1 bt467.1).bind fun t538 => (if t538 = true then (if bt534.2 = bt467.2 then ((laws_heldRuleS.f bt507.2 1).bind fun t539 => (if t539 < 0 then (none) else (if t539 = bt507.1 then (some true) else (none)))) else (none)) else (none)))))) else (none))))) else (none))))) else (none)))) else (none)) else (none))))))))))) = some r := h
 clear h
 replace H := Option.bind_eq_some_iff.mp H
 obtain ⟨t442, A30, H⟩ := H
 replace H : (if t442 < 0 then (some true) else ((laws_toRuleS.f k l0).bind fun t443 => ((laws_toRule.f a1_0 a1_1 a1_2 a1_3 a1_4 a1_5 a1_6 a1_7 a1_8 a1_9 a1_10 a1_11 a1_12 a1_13 a1_14 a1_15 a1_16 a1_17 a1_18 a1_19 a1_20).bind fun bt446 => ((spec_RuleAdd.f k t443 bt446.1 bt446.2.1 bt446.2.2.1 bt446.2.2.2.1 bt446.2.2.2.2.1 bt446.2.2.2.2.2.1 bt446.2.2.2.2.2.2.1 bt446.2.2.2.2.2.2.2.1 bt446.2.2.2.2.2.2.2.2.1 bt446.2.2.2.2.2.2.2.2.2.1 bt446.2.2.2.2.2.2.2.2.2.2.1 bt446.2.2.2.2.2.2.2.2.2.2.2.1 bt446.2.2.2.2.2.2.2.2.2.2.2.2.1 bt446.2.2.2.2.2.2.2.2.2.2.2.2.2.1 bt446.2.2.2.2.2.2.2.2.2.2.2.2.2.2.1 bt446.2.2.2.2.2.2.2.2.2.2.2.2.2.2.2.1 bt446.2.2.2.2.2.2.2.2.2.2.2.2.2.2.2.2.1 bt446.2.2.2.2.2.2.2.2.2.2.2.2.2.2.2.2.2.1 bt446.2.2.2.2.2.2.2.2.2.2.2.2.2.2.2.2.2.2.1 bt446.2.2.2.2.2.2.2.2.2.2.2.2.2.2.2.2.2.2.2.1 bt446.2.2.2.2.2.2.2.2.2.2.2.2.2.2.2.2.2.2.2.2).bind fun bt467 => ((laws_toRuleS.f k l0).bind fun t471 => ((laws_toRule.f a1_0 a1_1 a1_2 a1_3 a1_4 a1_5 a1_6 a1_7 a1_8 a1_9 a1_10 a1_11 a1_12 a1_13 a1_14 a1_15 a1_16 a1_17 a1_18 a1_19 a1_20).bind fun bt474 => ((impl_RuleAdd.f k t471 bt474.1 bt474.2.1 bt474.2.2.1 bt474.2.2.2.1 bt474.2.2.2.2.1 bt474.2.2.2.2.2.1 bt474.2.2.2.2.2.2.1 bt474.2.2.2.2.2.2.2.1 bt474.2.2.2.2.2.2.2.2.1 bt474.2.2.2.2.2.2.2.2.2.1 bt474.2.2.2.2.2.2.2.2.2.2.1 bt474.2.2.2.2.2.2.2.2.2.2.2.1 bt474.2.2.2.2.2.2.2.2.2.2.2.2.1 bt474.2.2.2.2.2.2.2.2.2.2.2.2.2.1 bt474.2.2.2.2.2.2.2.2.2.2.2.2.2.2.1 bt474.2.2.2.2.2.2.2.2.2.2.2.2.2.2.2.1 bt474.2.2.2.2.2.2.2.2.2.2.2.2.2.2.2.2.1 bt474.2.2.2.2.2.2.2.2.2.2.2.2.2.2.2.2.2.1 bt474.2.2.2.2.2.2.2.2.2.2.2.2.2.2.2.2.2.2.1 bt474.2.2.2.2.2.2.2.2.2.2.2.2.2.2.2.2.2.2.2.1 bt474.2.2.2.2.2.2.2.2.2.2.2.2.2.2.2.2.2.2.2.2).bind fun bt495 => ((laws_eqRuleS.f k bt495.1 bt467.1).bind fun t499 => (if t499 = true then (if bt495.2 = bt467.2 then ((laws_toRuleS.f k l0).bind fun t500 => ((laws_eqRuleS.f k t471 t500).bind fun t503 => (if t503 = true then ((laws_markRuleS.f t471 1).bind fun bt504 => (if bt504.1 < 0 then (none) else ((laws_eqRuleS.f k bt495.1 bt467.1).bind fun t506 => (if t506 = true then ((laws_markRuleS.f bt495.1 1).bind fun bt507 => ((laws_heldRuleS.f bt507.2 1).bind fun t509 => (if t509 < 0 then (none) else (if t509 = bt507.1 then ((laws_toRuleS.f k l0).bind fun t510 => ((laws_toRule.f a1_0 a1_1 a1_2 a1_3 a1_4 a1_5 a1_6 a1_7 a1_8 a1_9 a1_10 a1_11 a1_12 a1_13 a1_14 a1_15 a1_16 a1_17 a1_18 a1_19 a1_20).bind fun bt513 => ((impl_RuleAdd.f k t510 bt513.1 bt513.2.1 bt513.2.2.1 bt513.2.2.2.1 bt513.2.2.2.2.1 bt513.2.2.2.2.2.1 bt513.2.2.2.2.2.2.1 bt513.2.2.2.2.2.2.2.1 bt513.2.2.2.2.2.2.2.2.1 bt513.2.2.2.2.2.2.2.2.2.1 bt513.2.2.2.2.2.2.2.2.2.2.1 bt513.2.2.2.2.2.2.2.2.2.2.2.1 bt513.2.2.2.2.2.2.2.2.2.2.2.2.1 bt513.2.2.2.2.2.2.2.2.2.2.2.2.2.1 bt513.2.2.2.2.2.2.2.2.2.2.2.2.2.2.1 bt513.2.2.2.2.2.2.2.2.2.2.2.2.2.2.2.1 bt513.2.2.2.2.2.2.2.2.2.2.2.2.2.2.2.2.1 bt513.2.2.2.2.2.2.2.2.2.2.2.2.2.2.2.2.2.1 bt513.2.2.2.2.2.2.2.2.2.2.2.2.2.2.2.2.2.2.1 bt513.2.2.2.2.2.2.2.2.2.2.2.2.2.2.2.2.2.2.2.1 bt513.2.2.2.2.2.2.2.2.2.2.2.2.2.2.2.2.2.2.2.2).bind fun bt534 => ((laws_eqRuleS.f k bt534.1 bt467.1).bind fun t538 => (if t538 = true then (if bt534.2 = bt467.2 then ((laws_heldRuleS.f bt507.2 1).bind fun t539 => (if t539 < 0 then (none) else (if t539 = bt507.1 then (some true) else (none)))) else (none)) else (none)))))) else (none))))) else (none))))) else (none)))) else (none)) else (none)))))))))) = some r := H
 have A3 := Gv.a0 A30
 clear A30
 by_cases c4 : t442 < 0
 ·rw [if_pos c4] at H
  have c4b0 : decide (t442 < 0) = true := decide_eq_true c4
  clear c4
  obtain rfl := Option.some.inj H
  go_enter Try.func7, Try.ntmps7
  go_wp2_with (first | ((with_reducible refine gate_dst (N := 3) rfl ?_); refine box_event ?hg (N := 3) ?hd (cs := #[.int .i64 a1_0, .int .i64 a1_1, .int .i64 a1_2, .int .i64 a1_3, .int .i64 a1_4, .int .i64 a1_5, .int .i64 a1_6, .int .i64 a1_7, .int .i64 a1_8, .int .i64 a1_9, .int .i64 a1_10, .int .i64 a1_11, .int .i64 a1_12, .int .i64 a1_13, .int .i64 a1_14, .int .i64 a1_15, .int .i64 a1_16, .int .i64 a1_17, .int .i64 a1_18, .int .i64 a1_19, .int .i64 a1_20]) (t := 50) ?hr ?_; (case hd => rfl); (case hg => rfl); (case hr => first | (go_simp; done) | (go_simp; rfl)); intro gb441 hg w5 hbox hb; have n0_ := Gv.a0 (below_step Gv.bw hb); have n1_ := Gv.a0 (hbox); have n2_ := Gv.a0 ((Gv.ble hg Gv.bw : w.heap.size ≤ gb441)); have n3_ := Gv.a0 ((Gv.ble hg Gv.bw : w.heap.size ≤ gb441)); clear HB; have HB := n0_; have BK441 := n1_; have GW441 := n2_; have GE441 := n3_; clear n0_ n1_ n2_ n3_; clear hb hbox hg) | ((with_reducible refine gate_store (t := 50) (p := 3) rfl ?_); refine Gv.store_event rfl rfl rfl rfl rfl (Gv.kb BK441.out) (by kernel_rfl) rfl (by simp; and_intros <;> rfl) ?_; intro w5s hbox hoth hbel; have n0_ := Gv.a0 (hbox); have n1_ := Gv.a0 (hbel w Gv.bw GE441.out); clear BK441 HB; have BK441 := n0_; have HB := n1_; clear n0_ n1_ hbox hoth hbel) | ((with_reducible refine gate_callee (f := 8) rfl ?_); refine goesL_ (some 18) rfl rfl Try.func8 (by kernel_rfl) rfl #[.slice A0 l0.length c0, .int .i64 1048576] rfl Gv.lm ?_; (with_reducible refine (laws_szRuleS.calls _ _ l0 1048576 t442 _ ?side1 ?side2 A3.out).mono ?_); (case side1 => repeat (first | exact (Kd.C_below HR0.out HB.out) | (with_reducible refine Kd.C_alloc ?_ _) | (with_reducible refine Kd.C_drewN ?_ _) | (with_reducible refine Kd.C_drew ?_))); (case side2 => exact HC0.out); rintro e w' ⟨rfl, ⟨nd, rfl⟩⟩; refine ⟨_, rfl, ?_⟩) | ((with_reducible refine Gv.gate_load (t := 50) rfl ?_); (try (refine gate_guard (by rfl) ?_; dsimp only)); refine wpList_load_row rfl 50 _ rfl gb441 rfl 50 _ _ _ (by first | exact Gv.kb0 BK441.out | exact Gv.kb1 (Gv.kb0 BK441.out)) Try.underlying50 rfl (by kernel_rfl) ?_))
  go_ret
  exact ⟨Gv.rt, Gv.bw⟩
 ·rw [if_neg c4] at H
  have c4b0 : decide (t442 < 0) = false := decide_eq_false c4
  clear c4
  replace H := Option.bind_eq_some_iff.mp H
  obtain ⟨t443, A60, H⟩ := H
  replace H : ((laws_toRule.f a1_0 a1_1 a1_2 a1_3 a1_4 a1_5 a1_6 a1_7 a1_8 a1_9 a1_10 a1_11 a1_12 a1_13 a1_14 a1_15 a1_16 a1_17 a1_18 a1_19 a1_20).bind fun bt446 => ((spec_RuleAdd.f k t443 bt446.1 bt446.2.1 bt446.2.2.1 bt446.2.2.2.1 bt446.2.2.2.2.1 bt446.2.2.2.2.2.1 bt446.2.2.2.2.2.2.1 bt446.2.2.2.2.2.2.2.1 bt446.2.2.2.2.2.2.2.2.1 bt446.2.2.2.2.2.2.2.2.2.1 bt446.2.2.2.2.2.2.2.2.2.2.1 bt446.2.2.2.2.2.2.2.2.2.2.2.1 bt446.2.2.2.2.2.2.2.2.2.2.2.2.1 bt446.2.2.2.2.2.2.2.2.2.2.2.2.2.1 bt446.2.2.2.2.2.2.2.2.2.2.2.2.2.2.1 bt446.2.2.2.2.2.2.2.2.2.2.2.2.2.2.2.1 bt446.2.2.2.2.2.2.2.2.2.2.2.2.2.2.2.2.1 bt446.2.2.2.2.2.2.2.2.2.2.2.2.2.2.2.2.2.1 bt446.2.2.2.2.2.2.2.2.2.2.2.2.2.2.2.2.2.2.1 bt446.2.2.2.2.2.2.2.2.2.2.2.2.2.2.2.2.2.2.2.1 bt446.2.2.2.2.2.2.2.2.2.2.2.2.2.2.2.2.2.2.2.2).bind fun bt467 => ((laws_toRuleS.f k l0).bind fun t471 => ((laws_toRule.f a1_0 a1_1 a1_2 a1_3 a1_4 a1_5 a1_6 a1_7 a1_8 a1_9 a1_10 a1_11 a1_12 a1_13 a1_14 a1_15 a1_16 a1_17 a1_18 a1_19 a1_20).bind fun bt474 => ((impl_RuleAdd.f k t471 bt474.1 bt474.2.1 bt474.2.2.1 bt474.2.2.2.1 bt474.2.2.2.2.1 bt474.2.2.2.2.2.1 bt474.2.2.2.2.2.2.1 bt474.2.2.2.2.2.2.2.1 bt474.2.2.2.2.2.2.2.2.1 bt474.2.2.2.2.2.2.2.2.2.1 bt474.2.2.2.2.2.2.2.2.2.2.1 bt474.2.2.2.2.2.2.2.2.2.2.2.1 bt474.2.2.2.2.2.2.2.2.2.2.2.2.1 bt474.2.2.2.2.2.2.2.2.2.2.2.2.2.1 bt474.2.2.2.2.2.2.2.2.2.2.2.2.2.2.1 bt474.2.2.2.2.2.2.2.2.2.2.2.2.2.2.2.1 bt474.2.2.2.2.2.2.2.2.2.2.2.2.2.2.2.2.1 bt474.2.2.2.2.2.2.2.2.2.2.2.2.2.2.2.2.2.1 bt474.2.2.2.2.2.2.2.2.2.2.2.2.2.2.2.2.2.2.1 bt474.2.2.2.2.2.2.2.2.2.2.2.2.2.2.2.2.2.2.2.1 bt474.2.2.2.2.2.2.2.2.2.2.2.2.2.2.2.2.2.2.2.2).bind fun bt495 => ((laws_eqRuleS.f k bt495.1 bt467.1).bind fun t499 => (if t499 = true then (if bt495.2 = bt467.2 then ((laws_toRuleS.f k l0).bind fun t500 => ((laws_eqRuleS.f k t471 t500).bind fun t503 => (if t503 = true then ((laws_markRuleS.f t471 1).bind fun bt504 => (if bt504.1 < 0 then (none) else ((laws_eqRuleS.f k bt495.1 bt467.1).bind fun t506 => (if t506 = true then ((laws_markRuleS.f bt495.1 1).bind fun bt507 => ((laws_heldRuleS.f bt507.2 1).bind fun t509 => (if t509 < 0 then (none) else (if t509 = bt507.1 then ((laws_toRuleS.f k l0).bind fun t510 => ((laws_toRule.f a1_0 a1_1 a1_2 a1_3 a1_4 a1_5 a1_6 a1_7 a1_8 a1_9 a1_10 a1_11 a1_12 a1_13 a1_14 a1_15 a1_16 a1_17 a1_18 a1_19 a1_20).bind fun bt513 => ((impl_RuleAdd.f k t510 bt513.1 bt513.2.1 bt513.2.2.1 bt513.2.2.2.1 bt513.2.2.2.2.1 bt513.2.2.2.2.2.1 bt513.2.2.2.2.2.2.1 bt513.2.2.2.2.2.2.2.1 bt513.2.2.2.2.2.2.2.2.1 bt513.2.2.2.2.2.2.2.2.2.1 bt513.2.2.2.2.2.2.2.2.2.2.1 bt513.2.2.2.2.2.2.2.2.2.2.2.1 bt513.2.2.2.2.2.2.2.2.2.2.2.2.1 bt513.2.2.2.2.2.2.2.2.2.2.2.2.2.1 bt513.2.2.2.2.2.2.2.2.2.2.2.2.2.2.1 bt513.2.2.2.2.2.2.2.2.2.2.2.2.2.2.2.1 bt513.2.2.2.2.2.2.2.2.2.2.2.2.2.2.2.2.1 bt513.2.2.2.2.2.2.2.2.2.2.2.2.2.2.2.2.2.1 bt513.2.2.2.2.2.2.2.2.2.2.2.2.2.2.2.2.2.2.1 bt513.2.2.2.2.2.2.2.2.2.2.2.2.2.2.2.2.2.2.2.1 bt513.2.2.2.2.2.2.2.2.2.2.2.2.2.2.2.2.2.2.2.2).bind fun bt534 => ((laws_eqRuleS.f k bt534.1 bt467.1).bind fun t538 => (if t538 = true then (if bt534.2 = bt467.2 then ((laws_heldRuleS.f bt507.2 1).bind fun t539 => (if t539 < 0 then (none) else (if t539 = bt507.1 then (some true) else (none)))) else (none)) else (none)))))) else (none))))) else (none))))) else (none)))) else (none)) else (none)))))))) = some r := H
  have A6 := Gv.a0 A60
  clear A60
  replace H := Option.bind_eq_some_iff.mp H
  obtain ⟨⟨t446, t447, t448, t449, t450, t451, t452, t453, t454, t455, t456, t457, t458, t459, t460, t461, t462, t463, t464, t465, t466⟩, A70, H⟩ := H
  replace H : ((spec_RuleAdd.f k t443 t446 t447 t448 t449 t450 t451 t452 t453 t454 t455 t456 t457 t458 t459 t460 t461 t462 t463 t464 t465 t466).bind fun bt467 => ((laws_toRuleS.f k l0).bind fun t471 => ((laws_toRule.f a1_0 a1_1 a1_2 a1_3 a1_4 a1_5 a1_6 a1_7 a1_8 a1_9 a1_10 a1_11 a1_12 a1_13 a1_14 a1_15 a1_16 a1_17 a1_18 a1_19 a1_20).bind fun bt474 => ((impl_RuleAdd.f k t471 bt474.1 bt474.2.1 bt474.2.2.1 bt474.2.2.2.1 bt474.2.2.2.2.1 bt474.2.2.2.2.2.1 bt474.2.2.2.2.2.2.1 bt474.2.2.2.2.2.2.2.1 bt474.2.2.2.2.2.2.2.2.1 bt474.2.2.2.2.2.2.2.2.2.1 bt474.2.2.2.2.2.2.2.2.2.2.1 bt474.2.2.2.2.2.2.2.2.2.2.2.1 bt474.2.2.2.2.2.2.2.2.2.2.2.2.1 bt474.2.2.2.2.2.2.2.2.2.2.2.2.2.1 bt474.2.2.2.2.2.2.2.2.2.2.2.2.2.2.1 bt474.2.2.2.2.2.2.2.2.2.2.2.2.2.2.2.1 bt474.2.2.2.2.2.2.2.2.2.2.2.2.2.2.2.2.1 bt474.2.2.2.2.2.2.2.2.2.2.2.2.2.2.2.2.2.1 bt474.2.2.2.2.2.2.2.2.2.2.2.2.2.2.2.2.2.2.1 bt474.2.2.2.2.2.2.2.2.2.2.2.2.2.2.2.2.2.2.2.1 bt474.2.2.2.2.2.2.2.2.2.2.2.2.2.2.2.2.2.2.2.2).bind fun bt495 => ((laws_eqRuleS.f k bt495.1 bt467.1).bind fun t499 => (if t499 = true then (if bt495.2 = bt467.2 then ((laws_toRuleS.f k l0).bind fun t500 => ((laws_eqRuleS.f k t471 t500).bind fun t503 => (if t503 = true then ((laws_markRuleS.f t471 1).bind fun bt504 => (if bt504.1 < 0 then (none) else ((laws_eqRuleS.f k bt495.1 bt467.1).bind fun t506 => (if t506 = true then ((laws_markRuleS.f bt495.1 1).bind fun bt507 => ((laws_heldRuleS.f bt507.2 1).bind fun t509 => (if t509 < 0 then (none) else (if t509 = bt507.1 then ((laws_toRuleS.f k l0).bind fun t510 => ((laws_toRule.f a1_0 a1_1 a1_2 a1_3 a1_4 a1_5 a1_6 a1_7 a1_8 a1_9 a1_10 a1_11 a1_12 a1_13 a1_14 a1_15 a1_16 a1_17 a1_18 a1_19 a1_20).bind fun bt513 => ((impl_RuleAdd.f k t510 bt513.1 bt513.2.1 bt513.2.2.1 bt513.2.2.2.1 bt513.2.2.2.2.1 bt513.2.2.2.2.2.1 bt513.2.2.2.2.2.2.1 bt513.2.2.2.2.2.2.2.1 bt513.2.2.2.2.2.2.2.2.1 bt513.2.2.2.2.2.2.2.2.2.1 bt513.2.2.2.2.2.2.2.2.2.2.1 bt513.2.2.2.2.2.2.2.2.2.2.2.1 bt513.2.2.2.2.2.2.2.2.2.2.2.2.1 bt513.2.2.2.2.2.2.2.2.2.2.2.2.2.1 bt513.2.2.2.2.2.2.2.2.2.2.2.2.2.2.1 bt513.2.2.2.2.2.2.2.2.2.2.2.2.2.2.2.1 bt513.2.2.2.2.2.2.2.2.2.2.2.2.2.2.2.2.1 bt513.2.2.2.2.2.2.2.2.2.2.2.2.2.2.2.2.2.1 bt513.2.2.2.2.2.2.2.2.2.2.2.2.2.2.2.2.2.2.1 bt513.2.2.2.2.2.2.2.2.2.2.2.2.2.2.2.2.2.2.2.1 bt513.2.2.2.2.2.2.2.2.2.2.2.2.2.2.2.2.2.2.2.2).bind fun bt534 => ((laws_eqRuleS.f k bt534.1 bt467.1).bind fun t538 => (if t538 = true then (if bt534.2 = bt467.2 then ((laws_heldRuleS.f bt507.2 1).bind fun t539 => (if t539 < 0 then (none) else (if t539 = bt507.1 then (some true) else (none)))) else (none)) else (none)))))) else (none))))) else (none))))) else (none)))) else (none)) else (none))))))) = some r := H
  have A7 := Gv.a0 A70
  clear A70
  replace H := Option.bind_eq_some_iff.mp H
  obtain ⟨⟨t467, t470⟩, A80, H⟩ := H
  replace H : ((laws_toRuleS.f k l0).bind fun t471 => ((laws_toRule.f a1_0 a1_1 a1_2 a1_3 a1_4 a1_5 a1_6 a1_7 a1_8 a1_9 a1_10 a1_11 a1_12 a1_13 a1_14 a1_15 a1_16 a1_17 a1_18 a1_19 a1_20).bind fun bt474 => ((impl_RuleAdd.f k t471 bt474.1 bt474.2.1 bt474.2.2.1 bt474.2.2.2.1 bt474.2.2.2.2.1 bt474.2.2.2.2.2.1 bt474.2.2.2.2.2.2.1 bt474.2.2.2.2.2.2.2.1 bt474.2.2.2.2.2.2.2.2.1 bt474.2.2.2.2.2.2.2.2.2.1 bt474.2.2.2.2.2.2.2.2.2.2.1 bt474.2.2.2.2.2.2.2.2.2.2.2.1 bt474.2.2.2.2.2.2.2.2.2.2.2.2.1 bt474.2.2.2.2.2.2.2.2.2.2.2.2.2.1 bt474.2.2.2.2.2.2.2.2.2.2.2.2.2.2.1 bt474.2.2.2.2.2.2.2.2.2.2.2.2.2.2.2.1 bt474.2.2.2.2.2.2.2.2.2.2.2.2.2.2.2.2.1 bt474.2.2.2.2.2.2.2.2.2.2.2.2.2.2.2.2.2.1 bt474.2.2.2.2.2.2.2.2.2.2.2.2.2.2.2.2.2.2.1 bt474.2.2.2.2.2.2.2.2.2.2.2.2.2.2.2.2.2.2.2.1 bt474.2.2.2.2.2.2.2.2.2.2.2.2.2.2.2.2.2.2.2.2).bind fun bt495 => ((laws_eqRuleS.f k bt495.1 t467).bind fun t499 => (if t499 = true then (if bt495.2 = t470 then ((laws_toRuleS.f k l0).bind fun t500 => ((laws_eqRuleS.f k t471 t500).bind fun t503 => (if t503 = true then ((laws_markRuleS.f t471 1).bind fun bt504 => (if bt504.1 < 0 then (none) else ((laws_eqRuleS.f k bt495.1 t467).bind fun t506 => (if t506 = true then ((laws_markRuleS.f bt495.1 1).bind fun bt507 => ((laws_heldRuleS.f bt507.2 1).bind fun t509 => (if t509 < 0 then (none) else (if t509 = bt507.1 then ((laws_toRuleS.f k l0).bind fun t510 => ((laws_toRule.f a1_0 a1_1 a1_2 a1_3 a1_4 a1_5 a1_6 a1_7 a1_8 a1_9 a1_10 a1_11 a1_12 a1_13 a1_14 a1_15 a1_16 a1_17 a1_18 a1_19 a1_20).bind fun bt513 => ((impl_RuleAdd.f k t510 bt513.1 bt513.2.1 bt513.2.2.1 bt513.2.2.2.1 bt513.2.2.2.2.1 bt513.2.2.2.2.2.1 bt513.2.2.2.2.2.2.1 bt513.2.2.2.2.2.2.2.1 bt513.2.2.2.2.2.2.2.2.1 bt513.2.2.2.2.2.2.2.2.2.1 bt513.2.2.2.2.2.2.2.2.2.2.1 bt513.2.2.2.2.2.2.2.2.2.2.2.1 bt513.2.2.2.2.2.2.2.2.2.2.2.2.1 bt513.2.2.2.2.2.2.2.2.2.2.2.2.2.1 bt513.2.2.2.2.2.2.2.2.2.2.2.2.2.2.1 bt513.2.2.2.2.2.2.2.2.2.2.2.2.2.2.2.1 bt513.2.2.2.2.2.2.2.2.2.2.2.2.2.2.2.2.1 bt513.2.2.2.2.2.2.2.2.2.2.2.2.2.2.2.2.2.1 bt513.2.2.2.2.2.2.2.2.2.2.2.2.2.2.2.2.2.2.1 bt513.2.2.2.2.2.2.2.2.2.2.2.2.2.2.2.2.2.2.2.1 bt513.2.2.2.2.2.2.2.2.2.2.2.2.2.2.2.2.2.2.2.2).bind fun bt534 => ((laws_eqRuleS.f k bt534.1 t467).bind fun t538 => (if t538 = true then (if bt534.2 = t470 then ((laws_heldRuleS.f bt507.2 1).bind fun t539 => (if t539 < 0 then (none) else (if t539 = bt507.1 then (some true) else (none)))) else (none)) else (none)))))) else (none))))) else (none))))) else (none)))) else (none)) else (none)))))) = some r := H
  have A8 := Gv.a0 A80
  clear A80
  replace H := Option.bind_eq_some_iff.mp H
  obtain ⟨t471, A90, H⟩ := H
  replace H : ((laws_toRule.f a1_0 a1_1 a1_2 a1_3 a1_4 a1_5 a1_6 a1_7 a1_8 a1_9 a1_10 a1_11 a1_12 a1_13 a1_14 a1_15 a1_16 a1_17 a1_18 a1_19 a1_20).bind fun bt474 => ((impl_RuleAdd.f k t471 bt474.1 bt474.2.1 bt474.2.2.1 bt474.2.2.2.1 bt474.2.2.2.2.1 bt474.2.2.2.2.2.1 bt474.2.2.2.2.2.2.1 bt474.2.2.2.2.2.2.2.1 bt474.2.2.2.2.2.2.2.2.1 bt474.2.2.2.2.2.2.2.2.2.1 bt474.2.2.2.2.2.2.2.2.2.2.1 bt474.2.2.2.2.2.2.2.2.2.2.2.1 bt474.2.2.2.2.2.2.2.2.2.2.2.2.1 bt474.2.2.2.2.2.2.2.2.2.2.2.2.2.1 bt474.2.2.2.2.2.2.2.2.2.2.2.2.2.2.1 bt474.2.2.2.2.2.2.2.2.2.2.2.2.2.2.2.1 bt474.2.2.2.2.2.2.2.2.2.2.2.2.2.2.2.2.1 bt474.2.2.2.2.2.2.2.2.2.2.2.2.2.2.2.2.2.1 bt474.2.2.2.2.2.2.2.2.2.2.2.2.2.2.2.2.2.2.1 bt474.2.2.2.2.2.2.2.2.2.2.2.2.2.2.2.2.2.2.2.1 bt474.2.2.2.2.2.2.2.2.2.2.2.2.2.2.2.2.2.2.2.2).bind fun bt495 => ((laws_eqRuleS.f k bt495.1 t467).bind fun t499 => (if t499 = true then (if bt495.2 = t470 then ((laws_toRuleS.f k l0).bind fun t500 => ((laws_eqRuleS.f k t471 t500).bind fun t503 => (if t503 = true then ((laws_markRuleS.f t471 1).bind fun bt504 => (if bt504.1 < 0 then (none) else ((laws_eqRuleS.f k bt495.1 t467).bind fun t506 => (if t506 = true then ((laws_markRuleS.f bt495.1 1).bind fun bt507 => ((laws_heldRuleS.f bt507.2 1).bind fun t509 => (if t509 < 0 then (none) else (if t509 = bt507.1 then ((laws_toRuleS.f k l0).bind fun t510 => ((laws_toRule.f a1_0 a1_1 a1_2 a1_3 a1_4 a1_5 a1_6 a1_7 a1_8 a1_9 a1_10 a1_11 a1_12 a1_13 a1_14 a1_15 a1_16 a1_17 a1_18 a1_19 a1_20).bind fun bt513 => ((impl_RuleAdd.f k t510 bt513.1 bt513.2.1 bt513.2.2.1 bt513.2.2.2.1 bt513.2.2.2.2.1 bt513.2.2.2.2.2.1 bt513.2.2.2.2.2.2.1 bt513.2.2.2.2.2.2.2.1 bt513.2.2.2.2.2.2.2.2.1 bt513.2.2.2.2.2.2.2.2.2.1 bt513.2.2.2.2.2.2.2.2.2.2.1 bt513.2.2.2.2.2.2.2.2.2.2.2.1 bt513.2.2.2.2.2.2.2.2.2.2.2.2.1 bt513.2.2.2.2.2.2.2.2.2.2.2.2.2.1 bt513.2.2.2.2.2.2.2.2.2.2.2.2.2.2.1 bt513.2.2.2.2.2.2.2.2.2.2.2.2.2.2.2.1 bt513.2.2.2.2.2.2.2.2.2.2.2.2.2.2.2.2.1 bt513.2.2.2.2.2.2.2.2.2.2.2.2.2.2.2.2.2.1 bt513.2.2.2.2.2.2.2.2.2.2.2.2.2.2.2.2.2.2.1 bt513.2.2.2.2.2.2.2.2.2.2.2.2.2.2.2.2.2.2.2.1 bt513.2.2.2.2.2.2.2.2.2.2.2.2.2.2.2.2.2.2.2.2).bind fun bt534 => ((laws_eqRuleS.f k bt534.1 t467).bind fun t538 => (if t538 = true then (if bt534.2 = t470 then ((laws_heldRuleS.f bt507.2 1).bind fun t539 => (if t539 < 0 then (none) else (if t539 = bt507.1 then (some true) else (none)))) else (none)) else (none)))))) else (none))))) else (none))))) else (none)))) else (none)) else (none))))) = some r := H
  have A9 := Gv.a0 A90
  clear A90
  replace H := Option.bind_eq_some_iff.mp H
  obtain ⟨⟨t474, t475, t476, t477, t478, t479, t480, t481, t482, t483, t484, t485, t486, t487, t488, t489, t490, t491, t492, t493, t494⟩, A100, H⟩ := H
  replace H : ((impl_RuleAdd.f k t471 t474 t475 t476 t477 t478 t479 t480 t481 t482 t483 t484 t485 t486 t487 t488 t489 t490 t491 t492 t493 t494).bind fun bt495 => ((laws_eqRuleS.f k bt495.1 t467).bind fun t499 => (if t499 = true then (if bt495.2 = t470 then ((laws_toRuleS.f k l0).bind fun t500 => ((laws_eqRuleS.f k t471 t500).bind fun t503 => (if t503 = true then ((laws_markRuleS.f t471 1).bind fun bt504 => (if bt504.1 < 0 then (none) else ((laws_eqRuleS.f k bt495.1 t467).bind fun t506 => (if t506 = true then ((laws_markRuleS.f bt495.1 1).bind fun bt507 => ((laws_heldRuleS.f bt507.2 1).bind fun t509 => (if t509 < 0 then (none) else (if t509 = bt507.1 then ((laws_toRuleS.f k l0).bind fun t510 => ((laws_toRule.f a1_0 a1_1 a1_2 a1_3 a1_4 a1_5 a1_6 a1_7 a1_8 a1_9 a1_10 a1_11 a1_12 a1_13 a1_14 a1_15 a1_16 a1_17 a1_18 a1_19 a1_20).bind fun bt513 => ((impl_RuleAdd.f k t510 bt513.1 bt513.2.1 bt513.2.2.1 bt513.2.2.2.1 bt513.2.2.2.2.1 bt513.2.2.2.2.2.1 bt513.2.2.2.2.2.2.1 bt513.2.2.2.2.2.2.2.1 bt513.2.2.2.2.2.2.2.2.1 bt513.2.2.2.2.2.2.2.2.2.1 bt513.2.2.2.2.2.2.2.2.2.2.1 bt513.2.2.2.2.2.2.2.2.2.2.2.1 bt513.2.2.2.2.2.2.2.2.2.2.2.2.1 bt513.2.2.2.2.2.2.2.2.2.2.2.2.2.1 bt513.2.2.2.2.2.2.2.2.2.2.2.2.2.2.1 bt513.2.2.2.2.2.2.2.2.2.2.2.2.2.2.2.1 bt513.2.2.2.2.2.2.2.2.2.2.2.2.2.2.2.2.1 bt513.2.2.2.2.2.2.2.2.2.2.2.2.2.2.2.2.2.1 bt513.2.2.2.2.2.2.2.2.2.2.2.2.2.2.2.2.2.2.1 bt513.2.2.2.2.2.2.2.2.2.2.2.2.2.2.2.2.2.2.2.1 bt513.2.2.2.2.2.2.2.2.2.2.2.2.2.2.2.2.2.2.2.2).bind fun bt534 => ((laws_eqRuleS.f k bt534.1 t467).bind fun t538 => (if t538 = true then (if bt534.2 = t470 then ((laws_heldRuleS.f bt507.2 1).bind fun t539 => (if t539 < 0 then (none) else (if t539 = bt507.1 then (some true) else (none)))) else (none)) else (none)))))) else (none))))) else (none))))) else (none)))) else (none)) else (none)))) = some r := H
  have A10 := Gv.a0 A100
  clear A100
  replace H := Option.bind_eq_some_iff.mp H
  obtain ⟨⟨t495, t498⟩, A110, H⟩ := H
  replace H : ((laws_eqRuleS.f k t495 t467).bind fun t499 => (if t499 = true then (if t498 = t470 then ((laws_toRuleS.f k l0).bind fun t500 => ((laws_eqRuleS.f k t471 t500).bind fun t503 => (if t503 = true then ((laws_markRuleS.f t471 1).bind fun bt504 => (if bt504.1 < 0 then (none) else ((laws_eqRuleS.f k t495 t467).bind fun t506 => (if t506 = true then ((laws_markRuleS.f t495 1).bind fun bt507 => ((laws_heldRuleS.f bt507.2 1).bind fun t509 => (if t509 < 0 then (none) else (if t509 = bt507.1 then ((laws_toRuleS.f k l0).bind fun t510 => ((laws_toRule.f a1_0 a1_1 a1_2 a1_3 a1_4 a1_5 a1_6 a1_7 a1_8 a1_9 a1_10 a1_11 a1_12 a1_13 a1_14 a1_15 a1_16 a1_17 a1_18 a1_19 a1_20).bind fun bt513 => ((impl_RuleAdd.f k t510 bt513.1 bt513.2.1 bt513.2.2.1 bt513.2.2.2.1 bt513.2.2.2.2.1 bt513.2.2.2.2.2.1 bt513.2.2.2.2.2.2.1 bt513.2.2.2.2.2.2.2.1 bt513.2.2.2.2.2.2.2.2.1 bt513.2.2.2.2.2.2.2.2.2.1 bt513.2.2.2.2.2.2.2.2.2.2.1 bt513.2.2.2.2.2.2.2.2.2.2.2.1 bt513.2.2.2.2.2.2.2.2.2.2.2.2.1 bt513.2.2.2.2.2.2.2.2.2.2.2.2.2.1 bt513.2.2.2.2.2.2.2.2.2.2.2.2.2.2.1 bt513.2.2.2.2.2.2.2.2.2.2.2.2.2.2.2.1 bt513.2.2.2.2.2.2.2.2.2.2.2.2.2.2.2.2.1 bt513.2.2.2.2.2.2.2.2.2.2.2.2.2.2.2.2.2.1 bt513.2.2.2.2.2.2.2.2.2.2.2.2.2.2.2.2.2.2.1 bt513.2.2.2.2.2.2.2.2.2.2.2.2.2.2.2.2.2.2.2.1 bt513.2.2.2.2.2.2.2.2.2.2.2.2.2.2.2.2.2.2.2.2).bind fun bt534 => ((laws_eqRuleS.f k bt534.1 t467).bind fun t538 => (if t538 = true then (if bt534.2 = t470 then ((laws_heldRuleS.f bt507.2 1).bind fun t539 => (if t539 < 0 then (none) else (if t539 = bt507.1 then (some true) else (none)))) else (none)) else (none)))))) else (none))))) else (none))))) else (none)))) else (none)) else (none))) = some r := H
  have A11 := Gv.a0 A110
  clear A110
  replace H := Option.bind_eq_some_iff.mp H
  obtain ⟨t499, A120, H⟩ := H
  replace H : (if t499 = true then (if t498 = t470 then ((laws_toRuleS.f k l0).bind fun t500 => ((laws_eqRuleS.f k t471 t500).bind fun t503 => (if t503 = true then ((laws_markRuleS.f t471 1).bind fun bt504 => (if bt504.1 < 0 then (none) else ((laws_eqRuleS.f k t495 t467).bind fun t506 => (if t506 = true then ((laws_markRuleS.f t495 1).bind fun bt507 => ((laws_heldRuleS.f bt507.2 1).bind fun t509 => (if t509 < 0 then (none) else (if t509 = bt507.1 then ((laws_toRuleS.f k l0).bind fun t510 => ((laws_toRule.f a1_0 a1_1 a1_2 a1_3 a1_4 a1_5 a1_6 a1_7 a1_8 a1_9 a1_10 a1_11 a1_12 a1_13 a1_14 a1_15 a1_16 a1_17 a1_18 a1_19 a1_20).bind fun bt513 => ((impl_RuleAdd.f k t510 bt513.1 bt513.2.1 bt513.2.2.1 bt513.2.2.2.1 bt513.2.2.2.2.1 bt513.2.2.2.2.2.1 bt513.2.2.2.2.2.2.1 bt513.2.2.2.2.2.2.2.1 bt513.2.2.2.2.2.2.2.2.1 bt513.2.2.2.2.2.2.2.2.2.1 bt513.2.2.2.2.2.2.2.2.2.2.1 bt513.2.2.2.2.2.2.2.2.2.2.2.1 bt513.2.2.2.2.2.2.2.2.2.2.2.2.1 bt513.2.2.2.2.2.2.2.2.2.2.2.2.2.1 bt513.2.2.2.2.2.2.2.2.2.2.2.2.2.2.1 bt513.2.2.2.2.2.2.2.2.2.2.2.2.2.2.2.1 bt513.2.2.2.2.2.2.2.2.2.2.2.2.2.2.2.2.1 bt513.2.2.2.2.2.2.2.2.2.2.2.2.2.2.2.2.2.1 bt513.2.2.2.2.2.2.2.2.2.2.2.2.2.2.2.2.2.2.1 bt513.2.2.2.2.2.2.2.2.2.2.2.2.2.2.2.2.2.2.2.1 bt513.2.2.2.2.2.2.2.2.2.2.2.2.2.2.2.2.2.2.2.2).bind fun bt534 => ((laws_eqRuleS.f k bt534.1 t467).bind fun t538 => (if t538 = true then (if bt534.2 = t470 then ((laws_heldRuleS.f bt507.2 1).bind fun t539 => (if t539 < 0 then (none) else (if t539 = bt507.1 then (some true) else (none)))) else (none)) else (none)))))) else (none))))) else (none))))) else (none)))) else (none)) else (none)) = some r := H
  have A12 := Gv.a0 A120
  clear A120
  by_cases c13 : t499 = true
  ·subst c13
   have H1 : (if t498 = t470 then ((laws_toRuleS.f k l0).bind fun t500 => ((laws_eqRuleS.f k t471 t500).bind fun t503 => (if t503 = true then ((laws_markRuleS.f t471 1).bind fun bt504 => (if bt504.1 < 0 then (none) else ((laws_eqRuleS.f k t495 t467).bind fun t506 => (if t506 = true then ((laws_markRuleS.f t495 1).bind fun bt507 => ((laws_heldRuleS.f bt507.2 1).bind fun t509 => (if t509 < 0 then (none) else (if t509 = bt507.1 then ((laws_toRuleS.f k l0).bind fun t510 => ((laws_toRule.f a1_0 a1_1 a1_2 a1_3 a1_4 a1_5 a1_6 a1_7 a1_8 a1_9 a1_10 a1_11 a1_12 a1_13 a1_14 a1_15 a1_16 a1_17 a1_18 a1_19 a1_20).bind fun bt513 => ((impl_RuleAdd.f k t510 bt513.1 bt513.2.1 bt513.2.2.1 bt513.2.2.2.1 bt513.2.2.2.2.1 bt513.2.2.2.2.2.1 bt513.2.2.2.2.2.2.1 bt513.2.2.2.2.2.2.2.1 bt513.2.2.2.2.2.2.2.2.1 bt513.2.2.2.2.2.2.2.2.2.1 bt513.2.2.2.2.2.2.2.2.2.2.1 bt513.2.2.2.2.2.2.2.2.2.2.2.1 bt513.2.2.2.2.2.2.2.2.2.2.2.2.1 bt513.2.2.2.2.2.2.2.2.2.2.2.2.2.1 bt513.2.2.2.2.2.2.2.2.2.2.2.2.2.2.1 bt513.2.2.2.2.2.2.2.2.2.2.2.2.2.2.2.1 bt513.2.2.2.2.2.2.2.2.2.2.2.2.2.2.2.2.1 bt513.2.2.2.2.2.2.2.2.2.2.2.2.2.2.2.2.2.1 bt513.2.2.2.2.2.2.2.2.2.2.2.2.2.2.2.2.2.2.1 bt513.2.2.2.2.2.2.2.2.2.2.2.2.2.2.2.2.2.2.2.1 bt513.2.2.2.2.2.2.2.2.2.2.2.2.2.2.2.2.2.2.2.2).bind fun bt534 => ((laws_eqRuleS.f k bt534.1 t467).bind fun t538 => (if t538 = true then (if bt534.2 = t470 then ((laws_heldRuleS.f bt507.2 1).bind fun t539 => (if t539 < 0 then (none) else (if t539 = bt507.1 then (some true) else (none)))) else (none)) else (none)))))) else (none))))) else (none))))) else (none)))) else (none)) = some r := by rw [if_pos rfl] at H; exact H
   clear H
   have H := H1
   clear H1
   by_cases c14 : t498 = t470
   ·rw [if_pos c14] at H
    have c14b0 : (t498 == t470) = true := beq_iff_eq.mpr c14
    have c14b1 : (t498 != t470) = false := bne_eq_false_iff_eq.mpr c14
    clear c14
    replace H := Option.bind_eq_some_iff.mp H
    obtain ⟨t500, A150, H⟩ := H
    replace H : ((laws_eqRuleS.f k t471 t500).bind fun t503 => (if t503 = true then ((laws_markRuleS.f t471 1).bind fun bt504 => (if bt504.1 < 0 then (none) else ((laws_eqRuleS.f k t495 t467).bind fun t506 => (if t506 = true then ((laws_markRuleS.f t495 1).bind fun bt507 => ((laws_heldRuleS.f bt507.2 1).bind fun t509 => (if t509 < 0 then (none) else (if t509 = bt507.1 then ((laws_toRuleS.f k l0).bind fun t510 => ((laws_toRule.f a1_0 a1_1 a1_2 a1_3 a1_4 a1_5 a1_6 a1_7 a1_8 a1_9 a1_10 a1_11 a1_12 a1_13 a1_14 a1_15 a1_16 a1_17 a1_18 a1_19 a1_20).bind fun bt513 => ((impl_RuleAdd.f k t510 bt513.1 bt513.2.1 bt513.2.2.1 bt513.2.2.2.1 bt513.2.2.2.2.1 bt513.2.2.2.2.2.1 bt513.2.2.2.2.2.2.1 bt513.2.2.2.2.2.2.2.1 bt513.2.2.2.2.2.2.2.2.1 bt513.2.2.2.2.2.2.2.2.2.1 bt513.2.2.2.2.2.2.2.2.2.2.1 bt513.2.2.2.2.2.2.2.2.2.2.2.1 bt513.2.2.2.2.2.2.2.2.2.2.2.2.1 bt513.2.2.2.2.2.2.2.2.2.2.2.2.2.1 bt513.2.2.2.2.2.2.2.2.2.2.2.2.2.2.1 bt513.2.2.2.2.2.2.2.2.2.2.2.2.2.2.2.1 bt513.2.2.2.2.2.2.2.2.2.2.2.2.2.2.2.2.1 bt513.2.2.2.2.2.2.2.2.2.2.2.2.2.2.2.2.2.1 bt513.2.2.2.2.2.2.2.2.2.2.2.2.2.2.2.2.2.2.1 bt513.2.2.2.2.2.2.2.2.2.2.2.2.2.2.2.2.2.2.2.1 bt513.2.2.2.2.2.2.2.2.2.2.2.2.2.2.2.2.2.2.2.2).bind fun bt534 => ((laws_eqRuleS.f k bt534.1 t467).bind fun t538 => (if t538 = true then (if bt534.2 = t470 then ((laws_heldRuleS.f bt507.2 1).bind fun t539 => (if t539 < 0 then (none) else (if t539 = bt507.1 then (some true) else (none)))) else (none)) else (none)))))) else (none))))) else (none))))) else (none))) = some r := H
    have A15 := Gv.a0 A150
    clear A150
    replace H := Option.bind_eq_some_iff.mp H
    obtain ⟨t503, A160, H⟩ := H
    replace H : (if t503 = true then ((laws_markRuleS.f t471 1).bind fun bt504 => (if bt504.1 < 0 then (none) else ((laws_eqRuleS.f k t495 t467).bind fun t506 => (if t506 = true then ((laws_markRuleS.f t495 1).bind fun bt507 => ((laws_heldRuleS.f bt507.2 1).bind fun t509 => (if t509 < 0 then (none) else (if t509 = bt507.1 then ((laws_toRuleS.f k l0).bind fun t510 => ((laws_toRule.f a1_0 a1_1 a1_2 a1_3 a1_4 a1_5 a1_6 a1_7 a1_8 a1_9 a1_10 a1_11 a1_12 a1_13 a1_14 a1_15 a1_16 a1_17 a1_18 a1_19 a1_20).bind fun bt513 => ((impl_RuleAdd.f k t510 bt513.1 bt513.2.1 bt513.2.2.1 bt513.2.2.2.1 bt513.2.2.2.2.1 bt513.2.2.2.2.2.1 bt513.2.2.2.2.2.2.1 bt513.2.2.2.2.2.2.2.1 bt513.2.2.2.2.2.2.2.2.1 bt513.2.2.2.2.2.2.2.2.2.1 bt513.2.2.2.2.2.2.2.2.2.2.1 bt513.2.2.2.2.2.2.2.2.2.2.2.1 bt513.2.2.2.2.2.2.2.2.2.2.2.2.1 bt513.2.2.2.2.2.2.2.2.2.2.2.2.2.1 bt513.2.2.2.2.2.2.2.2.2.2.2.2.2.2.1 bt513.2.2.2.2.2.2.2.2.2.2.2.2.2.2.2.1 bt513.2.2.2.2.2.2.2.2.2.2.2.2.2.2.2.2.1 bt513.2.2.2.2.2.2.2.2.2.2.2.2.2.2.2.2.2.1 bt513.2.2.2.2.2.2.2.2.2.2.2.2.2.2.2.2.2.2.1 bt513.2.2.2.2.2.2.2.2.2.2.2.2.2.2.2.2.2.2.2.1 bt513.2.2.2.2.2.2.2.2.2.2.2.2.2.2.2.2.2.2.2.2).bind fun bt534 => ((laws_eqRuleS.f k bt534.1 t467).bind fun t538 => (if t538 = true then (if bt534.2 = t470 then ((laws_heldRuleS.f bt507.2 1).bind fun t539 => (if t539 < 0 then (none) else (if t539 = bt507.1 then (some true) else (none)))) else (none)) else (none)))))) else (none))))) else (none))))) else (none)) = some r := H
    have A16 := Gv.a0 A160
    clear A160
    by_cases c17 : t503 = true
    ·subst c17
     have H1 : ((laws_markRuleS.f t471 1).bind fun bt504 => (if bt504.1 < 0 then (none) else ((laws_eqRuleS.f k t495 t467).bind fun t506 => (if t506 = true then ((laws_markRuleS.f t495 1).bind fun bt507 => ((laws_heldRuleS.f bt507.2 1).bind fun t509 => (if t509 < 0 then (none) else (if t509 = bt507.1 then ((laws_toRuleS.f k l0).bind fun t510 => ((laws_toRule.f a1_0 a1_1 a1_2 a1_3 a1_4 a1_5 a1_6 a1_7 a1_8 a1_9 a1_10 a1_11 a1_12 a1_13 a1_14 a1_15 a1_16 a1_17 a1_18 a1_19 a1_20).bind fun bt513 => ((impl_RuleAdd.f k t510 bt513.1 bt513.2.1 bt513.2.2.1 bt513.2.2.2.1 bt513.2.2.2.2.1 bt513.2.2.2.2.2.1 bt513.2.2.2.2.2.2.1 bt513.2.2.2.2.2.2.2.1 bt513.2.2.2.2.2.2.2.2.1 bt513.2.2.2.2.2.2.2.2.2.1 bt513.2.2.2.2.2.2.2.2.2.2.1 bt513.2.2.2.2.2.2.2.2.2.2.2.1 bt513.2.2.2.2.2.2.2.2.2.2.2.2.1 bt513.2.2.2.2.2.2.2.2.2.2.2.2.2.1 bt513.2.2.2.2.2.2.2.2.2.2.2.2.2.2.1 bt513.2.2.2.2.2.2.2.2.2.2.2.2.2.2.2.1 bt513.2.2.2.2.2.2.2.2.2.2.2.2.2.2.2.2.1 bt513.2.2.2.2.2.2.2.2.2.2.2.2.2.2.2.2.2.1 bt513.2.2.2.2.2.2.2.2.2.2.2.2.2.2.2.2.2.2.1 bt513.2.2.2.2.2.2.2.2.2.2.2.2.2.2.2.2.2.2.2.1 bt513.2.2.2.2.2.2.2.2.2.2.2.2.2.2.2.2.2.2.2.2).bind fun bt534 => ((laws_eqRuleS.f k bt534.1 t467).bind fun t538 => (if t538 = true then (if bt534.2 = t470 then ((laws_heldRuleS.f bt507.2 1).bind fun t539 => (if t539 < 0 then (none) else (if t539 = bt507.1 then (some true) else (none)))) else (none)) else (none)))))) else (none))))) else (none))))) = some r := by rw [if_pos rfl] at H; exact H
     clear H
     have H := H1
     clear H1
     replace H := Option.bind_eq_some_iff.mp H
     obtain ⟨⟨t504, t505⟩, A180, H⟩ := H
     replace H : (if t504 < 0 then (none) else ((laws_eqRuleS.f k t495 t467).bind fun t506 => (if t506 = true then ((laws_markRuleS.f t495 1).bind fun bt507 => ((laws_heldRuleS.f bt507.2 1).bind fun t509 => (if t509 < 0 then (none) else (if t509 = bt507.1 then ((laws_toRuleS.f k l0).bind fun t510 => ((laws_toRule.f a1_0 a1_1 a1_2 a1_3 a1_4 a1_5 a1_6 a1_7 a1_8 a1_9 a1_10 a1_11 a1_12 a1_13 a1_14 a1_15 a1_16 a1_17 a1_18 a1_19 a1_20).bind fun bt513 => ((impl_RuleAdd.f k t510 bt513.1 bt513.2.1 bt513.2.2.1 bt513.2.2.2.1 bt513.2.2.2.2.1 bt513.2.2.2.2.2.1 bt513.2.2.2.2.2.2.1 bt513.2.2.2.2.2.2.2.1 bt513.2.2.2.2.2.2.2.2.1 bt513.2.2.2.2.2.2.2.2.2.1 bt513.2.2.2.2.2.2.2.2.2.2.1 bt513.2.2.2.2.2.2.2.2.2.2.2.1 bt513.2.2.2.2.2.2.2.2.2.2.2.2.1 bt513.2.2.2.2.2.2.2.2.2.2.2.2.2.1 bt513.2.2.2.2.2.2.2.2.2.2.2.2.2.2.1 bt513.2.2.2.2.2.2.2.2.2.2.2.2.2.2.2.1 bt513.2.2.2.2.2.2.2.2.2.2.2.2.2.2.2.2.1 bt513.2.2.2.2.2.2.2.2.2.2.2.2.2.2.2.2.2.1 bt513.2.2.2.2.2.2.2.2.2.2.2.2.2.2.2.2.2.2.1 bt513.2.2.2.2.2.2.2.2.2.2.2.2.2.2.2.2.2.2.2.1 bt513.2.2.2.2.2.2.2.2.2.2.2.2.2.2.2.2.2.2.2.2).bind fun bt534 => ((laws_eqRuleS.f k bt534.1 t467).bind fun t538 => (if t538 = true then (if bt534.2 = t470 then ((laws_heldRuleS.f bt507.2 1).bind fun t539 => (if t539 < 0 then (none) else (if t539 = bt507.1 then (some true) else (none)))) else (none)) else (none)))))) else (none))))) else (none)))) = some r := H
     have A18 := Gv.a0 A180
     clear A180
     by_cases c19 : t504 < 0
     ·rw [if_pos c19] at H
      exact absurd H (by simp)
     ·rw [if_neg c19] at H
      have c19b0 : decide (t504 < 0) = false := decide_eq_false c19
      clear c19
      replace H := Option.bind_eq_some_iff.mp H
      obtain ⟨t506, A200, H⟩ := H
      replace H : (if t506 = true then ((laws_markRuleS.f t495 1).bind fun bt507 => ((laws_heldRuleS.f bt507.2 1).bind fun t509 => (if t509 < 0 then (none) else (if t509 = bt507.1 then ((laws_toRuleS.f k l0).bind fun t510 => ((laws_toRule.f a1_0 a1_1 a1_2 a1_3 a1_4 a1_5 a1_6 a1_7 a1_8 a1_9 a1_10 a1_11 a1_12 a1_13 a1_14 a1_15 a1_16 a1_17 a1_18 a1_19 a1_20).bind fun bt513 => ((impl_RuleAdd.f k t510 bt513.1 bt513.2.1 bt513.2.2.1 bt513.2.2.2.1 bt513.2.2.2.2.1 bt513.2.2.2.2.2.1 bt513.2.2.2.2.2.2.1 bt513.2.2.2.2.2.2.2.1 bt513.2.2.2.2.2.2.2.2.1 bt513.2.2.2.2.2.2.2.2.2.1 bt513.2.2.2.2.2.2.2.2.2.2.1 bt513.2.2.2.2.2.2.2.2.2.2.2.1 bt513.2.2.2.2.2.2.2.2.2.2.2.2.1 bt513.2.2.2.2.2.2.2.2.2.2.2.2.2.1 bt513.2.2.2.2.2.2.2.2.2.2.2.2.2.2.1 bt513.2.2.2.2.2.2.2.2.2.2.2.2.2.2.2.1 bt513.2.2.2.2.2.2.2.2.2.2.2.2.2.2.2.2.1 bt513.2.2.2.2.2.2.2.2.2.2.2.2.2.2.2.2.2.1 bt513.2.2.2.2.2.2.2.2.2.2.2.2.2.2.2.2.2.2.1 bt513.2.2.2.2.2.2.2.2.2.2.2.2.2.2.2.2.2.2.2.1 bt513.2.2.2.2.2.2.2.2.2.2.2.2.2.2.2.2.2.2.2.2).bind fun bt534 => ((laws_eqRuleS.f k bt534.1 t467).bind fun t538 => (if t538 = true then (if bt534.2 = t470 then ((laws_heldRuleS.f bt507.2 1).bind fun t539 => (if t539 < 0 then (none) else (if t539 = bt507.1 then (some true) else (none)))) else (none)) else (none)))))) else (none))))) else (none)) = some r := H
      have A20 := Gv.a0 A200
      clear A200
      by_cases c21 : t506 = true
      ·subst c21
       have H1 : ((laws_markRuleS.f t495 1).bind fun bt507 => ((laws_heldRuleS.f bt507.2 1).bind fun t509 => (if t509 < 0 then (none) else (if t509 = bt507.1 then ((laws_toRuleS.f k l0).bind fun t510 => ((laws_toRule.f a1_0 a1_1 a1_2 a1_3 a1_4 a1_5 a1_6 a1_7 a1_8 a1_9 a1_10 a1_11 a1_12 a1_13 a1_14 a1_15 a1_16 a1_17 a1_18 a1_19 a1_20).bind fun bt513 => ((impl_RuleAdd.f k t510 bt513.1 bt513.2.1 bt513.2.2.1 bt513.2.2.2.1 bt513.2.2.2.2.1 bt513.2.2.2.2.2.1 bt513.2.2.2.2.2.2.1 bt513.2.2.2.2.2.2.2.1 bt513.2.2.2.2.2.2.2.2.1 bt513.2.2.2.2.2.2.2.2.2.1 bt513.2.2.2.2.2.2.2.2.2.2.1 bt513.2.2.2.2.2.2.2.2.2.2.2.1 bt513.2.2.2.2.2.2.2.2.2.2.2.2.1 bt513.2.2.2.2.2.2.2.2.2.2.2.2.2.1 bt513.2.2.2.2.2.2.2.2.2.2.2.2.2.2.1 bt513.2.2.2.2.2.2.2.2.2.2.2.2.2.2.2.1 bt513.2.2.2.2.2.2.2.2.2.2.2.2.2.2.2.2.1 bt513.2.2.2.2.2.2.2.2.2.2.2.2.2.2.2.2.2.1 bt513.2.2.2.2.2.2.2.2.2.2.2.2.2.2.2.2.2.2.1 bt513.2.2.2.2.2.2.2.2.2.2.2.2.2.2.2.2.2.2.2.1 bt513.2.2.2.2.2.2.2.2.2.2.2.2.2.2.2.2.2.2.2.2).bind fun bt534 => ((laws_eqRuleS.f k bt534.1 t467).bind fun t538 => (if t538 = true then (if bt534.2 = t470 then ((laws_heldRuleS.f bt507.2 1).bind fun t539 => (if t539 < 0 then (none) else (if t539 = bt507.1 then (some true) else (none)))) else (none)) else (none)))))) else (none))))) = some r := by rw [if_pos rfl] at H; exact H
       clear H
       have H := H1
       clear H1
       replace H := Option.bind_eq_some_iff.mp H
       obtain ⟨⟨t507, t508⟩, A220, H⟩ := H
       replace H : ((laws_heldRuleS.f t508 1).bind fun t509 => (if t509 < 0 then (none) else (if t509 = t507 then ((laws_toRuleS.f k l0).bind fun t510 => ((laws_toRule.f a1_0 a1_1 a1_2 a1_3 a1_4 a1_5 a1_6 a1_7 a1_8 a1_9 a1_10 a1_11 a1_12 a1_13 a1_14 a1_15 a1_16 a1_17 a1_18 a1_19 a1_20).bind fun bt513 => ((impl_RuleAdd.f k t510 bt513.1 bt513.2.1 bt513.2.2.1 bt513.2.2.2.1 bt513.2.2.2.2.1 bt513.2.2.2.2.2.1 bt513.2.2.2.2.2.2.1 bt513.2.2.2.2.2.2.2.1 bt513.2.2.2.2.2.2.2.2.1 bt513.2.2.2.2.2.2.2.2.2.1 bt513.2.2.2.2.2.2.2.2.2.2.1 bt513.2.2.2.2.2.2.2.2.2.2.2.1 bt513.2.2.2.2.2.2.2.2.2.2.2.2.1 bt513.2.2.2.2.2.2.2.2.2.2.2.2.2.1 bt513.2.2.2.2.2.2.2.2.2.2.2.2.2.2.1 bt513.2.2.2.2.2.2.2.2.2.2.2.2.2.2.2.1 bt513.2.2.2.2.2.2.2.2.2.2.2.2.2.2.2.2.1 bt513.2.2.2.2.2.2.2.2.2.2.2.2.2.2.2.2.2.1 bt513.2.2.2.2.2.2.2.2.2.2.2.2.2.2.2.2.2.2.1 bt513.2.2.2.2.2.2.2.2.2.2.2.2.2.2.2.2.2.2.2.1 bt513.2.2.2.2.2.2.2.2.2.2.2.2.2.2.2.2.2.2.2.2).bind fun bt534 => ((laws_eqRuleS.f k bt534.1 t467).bind fun t538 => (if t538 = true then (if bt534.2 = t470 then ((laws_heldRuleS.f t508 1).bind fun t539 => (if t539 < 0 then (none) else (if t539 = t507 then (some true) else (none)))) else (none)) else (none)))))) else (none)))) = some r := H
       have A22 := Gv.a0 A220
       clear A220
       replace H := Option.bind_eq_some_iff.mp H
       obtain ⟨t509, A230, H⟩ := H
       replace H : (if t509 < 0 then (none) else (if t509 = t507 then ((laws_toRuleS.f k l0).bind fun t510 => ((laws_toRule.f a1_0 a1_1 a1_2 a1_3 a1_4 a1_5 a1_6 a1_7 a1_8 a1_9 a1_10 a1_11 a1_12 a1_13 a1_14 a1_15 a1_16 a1_17 a1_18 a1_19 a1_20).bind fun bt513 => ((impl_RuleAdd.f k t510 bt513.1 bt513.2.1 bt513.2.2.1 bt513.2.2.2.1 bt513.2.2.2.2.1 bt513.2.2.2.2.2.1 bt513.2.2.2.2.2.2.1 bt513.2.2.2.2.2.2.2.1 bt513.2.2.2.2.2.2.2.2.1 bt513.2.2.2.2.2.2.2.2.2.1 bt513.2.2.2.2.2.2.2.2.2.2.1 bt513.2.2.2.2.2.2.2.2.2.2.2.1 bt513.2.2.2.2.2.2.2.2.2.2.2.2.1 bt513.2.2.2.2.2.2.2.2.2.2.2.2.2.1 bt513.2.2.2.2.2.2.2.2.2.2.2.2.2.2.1 bt513.2.2.2.2.2.2.2.2.2.2.2.2.2.2.2.1 bt513.2.2.2.2.2.2.2.2.2.2.2.2.2.2.2.2.1 bt513.2.2.2.2.2.2.2.2.2.2.2.2.2.2.2.2.2.1 bt513.2.2.2.2.2.2.2.2.2.2.2.2.2.2.2.2.2.2.1 bt513.2.2.2.2.2.2.2.2.2.2.2.2.2.2.2.2.2.2.2.1 bt513.2.2.2.2.2.2.2.2.2.2.2.2.2.2.2.2.2.2.2.2).bind fun bt534 => ((laws_eqRuleS.f k bt534.1 t467).bind fun t538 => (if t538 = true then (if bt534.2 = t470 then ((laws_heldRuleS.f t508 1).bind fun t539 => (if t539 < 0 then (none) else (if t539 = t507 then (some true) else (none)))) else (none)) else (none)))))) else (none))) = some r := H
       have A23 := Gv.a0 A230
       clear A230
       by_cases c24 : t509 < 0
       ·rw [if_pos c24] at H
        exact absurd H (by simp)
       ·rw [if_neg c24] at H
        have c24b0 : decide (t509 < 0) = false := decide_eq_false c24
        clear c24
        by_cases c25 : t509 = t507
        ·rw [if_pos c25] at H
         have c25b0 : (t509 == t507) = true := beq_iff_eq.mpr c25
         have c25b1 : (t509 != t507) = false := bne_eq_false_iff_eq.mpr c25
         clear c25
         replace H := Option.bind_eq_some_iff.mp H
         obtain ⟨t510, A260, H⟩ := H
         replace H : ((laws_toRule.f a1_0 a1_1 a1_2 a1_3 a1_4 a1_5 a1_6 a1_7 a1_8 a1_9 a1_10 a1_11 a1_12 a1_13 a1_14 a1_15 a1_16 a1_17 a1_18 a1_19 a1_20).bind fun bt513 => ((impl_RuleAdd.f k t510 bt513.1 bt513.2.1 bt513.2.2.1 bt513.2.2.2.1 bt513.2.2.2.2.1 bt513.2.2.2.2.2.1 bt513.2.2.2.2.2.2.1 bt513.2.2.2.2.2.2.2.1 bt513.2.2.2.2.2.2.2.2.1 bt513.2.2.2.2.2.2.2.2.2.1 bt513.2.2.2.2.2.2.2.2.2.2.1 bt513.2.2.2.2.2.2.2.2.2.2.2.1 bt513.2.2.2.2.2.2.2.2.2.2.2.2.1 bt513.2.2.2.2.2.2.2.2.2.2.2.2.2.1 bt513.2.2.2.2.2.2.2.2.2.2.2.2.2.2.1 bt513.2.2.2.2.2.2.2.2.2.2.2.2.2.2.2.1 bt513.2.2.2.2.2.2.2.2.2.2.2.2.2.2.2.2.1 bt513.2.2.2.2.2.2.2.2.2.2.2.2.2.2.2.2.2.1 bt513.2.2.2.2.2.2.2.2.2.2.2.2.2.2.2.2.2.2.1 bt513.2.2.2.2.2.2.2.2.2.2.2.2.2.2.2.2.2.2.2.1 bt513.2.2.2.2.2.2.2.2.2.2.2.2.2.2.2.2.2.2.2.2).bind fun bt534 => ((laws_eqRuleS.f k bt534.1 t467).bind fun t538 => (if t538 = true then (if bt534.2 = t470 then ((laws_heldRuleS.f t508 1).bind fun t539 => (if t539 < 0 then (none) else (if t539 = t507 then (some true) else (none)))) else (none)) else (none))))) = some r := H
         have A26 := Gv.a0 A260
         clear A260
         replace H := Option.bind_eq_some_iff.mp H
         obtain ⟨⟨t513, t514, t515, t516, t517, t518, t519, t520, t521, t522, t523, t524, t525, t526, t527, t528, t529, t530, t531, t532, t533⟩, A270, H⟩ := H
         replace H : ((impl_RuleAdd.f k t510 t513 t514 t515 t516 t517 t518 t519 t520 t521 t522 t523 t524 t525 t526 t527 t528 t529 t530 t531 t532 t533).bind fun bt534 => ((laws_eqRuleS.f k bt534.1 t467).bind fun t538 => (if t538 = true then (if bt534.2 = t470 then ((laws_heldRuleS.f t508 1).bind fun t539 => (if t539 < 0 then (none) else (if t539 = t507 then (some true) else (none)))) else (none)) else (none)))) = some r := H
         have A27 := Gv.a0 A270
         clear A270
         replace H := Option.bind_eq_some_iff.mp H
         obtain ⟨⟨t534, t537⟩, A280, H⟩ := H
         replace H : ((laws_eqRuleS.f k t534 t467).bind fun t538 => (if t538 = true then (if t537 = t470 then ((laws_heldRuleS.f t508 1).bind fun t539 => (if t539 < 0 then (none) else (if t539 = t507 then (some true) else (none)))) else (none)) else (none))) = some r := H
         have A28 := Gv.a0 A280
         clear A280
         replace H := Option.bind_eq_some_iff.mp H
         obtain ⟨t538, A290, H⟩ := H
         replace H : (if t538 = true then (if t537 = t470 then ((laws_heldRuleS.f t508 1).bind fun t539 => (if t539 < 0 then (none) else (if t539 = t507 then (some true) else (none)))) else (none)) else (none)) = some r := H
         have A29 := Gv.a0 A290
         clear A290
         by_cases c30 : t538 = true
         ·subst c30
          have H1 : (if t537 = t470 then ((laws_heldRuleS.f t508 1).bind fun t539 => (if t539 < 0 then (none) else (if t539 = t507 then (some true) else (none)))) else (none)) = some r := by rw [if_pos rfl] at H; exact H
          clear H
          have H := H1
          clear H1
          by_cases c31 : t537 = t470
          ·rw [if_pos c31] at H
           have c31b0 : (t537 == t470) = true := beq_iff_eq.mpr c31
           have c31b1 : (t537 != t470) = false := bne_eq_false_iff_eq.mpr c31
           clear c31
           replace H := Option.bind_eq_some_iff.mp H
           obtain ⟨t539, A320, H⟩ := H
           replace H : (if t539 < 0 then (none) else (if t539 = t507 then (some true) else (none))) = some r := H
           have A32 := Gv.a0 A320
           clear A320
           by_cases c33 : t539 < 0
           ·rw [if_pos c33] at H
            exact absurd H (by simp)
           ·rw [if_neg c33] at H
            have c33b0 : decide (t539 < 0) = false := decide_eq_false c33
            clear c33
            by_cases c34 : t539 = t507
            ·rw [if_pos c34] at H
             have c34b0 : (t539 == t507) = true := beq_iff_eq.mpr c34
             have c34b1 : (t539 != t507) = false := bne_eq_false_iff_eq.mpr c34
             clear c34
             obtain rfl := Option.some.inj H
             go_enter Try.func7, Try.ntmps7
             try go_wp2_with (first | ((with_reducible refine gate_dst (N := 3) rfl ?_); refine box_event ?hg (N := 3) ?hd (cs := #[.int .i64 a1_0, .int .i64 a1_1, .int .i64 a1_2, .int .i64 a1_3, .int .i64 a1_4, .int .i64 a1_5, .int .i64 a1_6, .int .i64 a1_7, .int .i64 a1_8, .int .i64 a1_9, .int .i64 a1_10, .int .i64 a1_11, .int .i64 a1_12, .int .i64 a1_13, .int .i64 a1_14, .int .i64 a1_15, .int .i64 a1_16, .int .i64 a1_17, .int .i64 a1_18, .int .i64 a1_19, .int .i64 a1_20]) (t := 50) ?hr ?_; (case hd => rfl); (case hg => rfl); (case hr => first | (go_simp; done) | (go_simp; rfl)); intro gb441 hg w35 hbox hb; have n0_ := Gv.a0 (below_step Gv.bw hb); have n1_ := Gv.a0 (hbox); have n2_ := Gv.a0 ((Gv.ble hg Gv.bw : w.heap.size ≤ gb441)); have n3_ := Gv.a0 ((Gv.ble hg Gv.bw : w.heap.size ≤ gb441)); clear HB; have HB := n0_; have BK441 := n1_; have GW441 := n2_; have GE441 := n3_; clear n0_ n1_ n2_ n3_; clear hb hbox hg) | ((with_reducible refine gate_store (t := 50) (p := 3) rfl ?_); refine Gv.store_event rfl rfl rfl rfl rfl (Gv.kb BK441.out) (by kernel_rfl) rfl (by simp; and_intros <;> rfl) ?_; intro w35s hbox hoth hbel; have n0_ := Gv.a0 (hbox); have n1_ := Gv.a0 (hbel w Gv.bw GE441.out); clear BK441 HB; have BK441 := n0_; have HB := n1_; clear n0_ n1_ hbox hoth hbel) | ((with_reducible refine gate_callee (f := 8) rfl ?_); refine goesL_ (some 18) rfl rfl Try.func8 (by kernel_rfl) rfl #[.slice A0 l0.length c0, .int .i64 1048576] rfl Gv.lm ?_; (with_reducible refine (laws_szRuleS.calls _ _ l0 1048576 t442 _ ?side1 ?side2 A3.out).mono ?_); (case side1 => repeat (first | exact (Kd.C_below HR0.out HB.out) | (with_reducible refine Kd.C_alloc ?_ _) | (with_reducible refine Kd.C_drewN ?_ _) | (with_reducible refine Kd.C_drew ?_))); (case side2 => exact HC0.out); rintro e w' ⟨rfl, ⟨nd, rfl⟩⟩; refine ⟨_, rfl, ?_⟩) | ((with_reducible refine Gv.gate_load (t := 50) rfl ?_); (try (refine gate_guard (by rfl) ?_; dsimp only)); refine wpList_load_row rfl 50 _ rfl gb441 rfl 50 _ _ _ (by first | exact Gv.kb0 BK441.out | exact Gv.kb1 (Gv.kb0 BK441.out)) Try.underlying50 rfl (by kernel_rfl) ?_))
             (try (rw [drewN_self w35]; generalize hq_ : World.drewN w35 _ = w35; have n0_ : Aside0 (w35.heap[gb441]? = some (.cells #[.int .i64 a1_0, .int .i64 a1_1, .int .i64 a1_2, .int .i64 a1_3, .int .i64 a1_4, .int .i64 a1_5, .int .i64 a1_6, .int .i64 a1_7, .int .i64 a1_8, .int .i64 a1_9, .int .i64 a1_10, .int .i64 a1_11, .int .i64 a1_12, .int .i64 a1_13, .int .i64 a1_14, .int .i64 a1_15, .int .i64 a1_16, .int .i64 a1_17, .int .i64 a1_18, .int .i64 a1_19, .int .i64 a1_20] 50 (0, 0))) := ⟨by rw [← hq_]; exact Gv.bk⟩; have n1_ : Aside0 (Below w.heap.size w w35) := ⟨by rw [← hq_]; exact Gv.bw⟩; clear BK441 HB hq_; have BK441 := n0_; have HB := n1_; clear n0_ n1_))
             have n0_ := Gv.a0 (blk_drew BK441.out)
             have n1_ := Gv.a0 (below_drew1 HB.out)
             clear BK441
             clear HB
             have BK441 := n0_
             have HB := n1_
             clear n0_ n1_
             refine start_ (n := 10) (S := fun w' => w'.cell? ⟨gb441, 0, none⟩ = some (.int .i64 a1_0) ∧ w'.cell? ⟨gb441, 1, none⟩ = some (.int .i64 a1_1) ∧ w'.cell? ⟨gb441, 2, none⟩ = some (.int .i64 a1_2) ∧ w'.cell? ⟨gb441, 3, none⟩ = some (.int .i64 a1_3) ∧ w'.cell? ⟨gb441, 4, none⟩ = some (.int .i64 a1_4) ∧ w'.cell? ⟨gb441, 5, none⟩ = some (.int .i64 a1_5) ∧ w'.cell? ⟨gb441, 6, none⟩ = some (.int .i64 a1_6) ∧ w'.cell? ⟨gb441, 7, none⟩ = some (.int .i64 a1_7) ∧ w'.cell? ⟨gb441, 8, none⟩ = some (.int .i64 a1_8) ∧ w'.cell? ⟨gb441, 9, none⟩ = some (.int .i64 a1_9) ∧ w'.cell? ⟨gb441, 10, none⟩ = some (.int .i64 a1_10) ∧ w'.cell? ⟨gb441, 11, none⟩ = some (.int .i64 a1_11) ∧ w'.cell? ⟨gb441, 12, none⟩ = some (.int .i64 a1_12) ∧ w'.cell? ⟨gb441, 13, none⟩ = some (.int .i64 a1_13) ∧ w'.cell? ⟨gb441, 14, none⟩ = some (.int .i64 a1_14) ∧ w'.cell? ⟨gb441, 15, none⟩ = some (.int .i64 a1_15) ∧ w'.cell? ⟨gb441, 16, none⟩ = some (.int .i64 a1_16) ∧ w'.cell? ⟨gb441, 17, none⟩ = some (.int .i64 a1_17) ∧ w'.cell? ⟨gb441, 18, none⟩ = some (.int .i64 a1_18) ∧ w'.cell? ⟨gb441, 19, none⟩ = some (.int .i64 a1_19) ∧ w'.cell? ⟨gb441, 20, none⟩ = some (.int .i64 a1_20)) (ds := []) #[false, false, false, false, false, false, false, false, false, false] (by kernel_rfl) rfl rfl ⟨(blk_cell BK441.out 0).trans rfl, (blk_cell BK441.out 1).trans rfl, (blk_cell BK441.out 2).trans rfl, (blk_cell BK441.out 3).trans rfl, (blk_cell BK441.out 4).trans rfl, (blk_cell BK441.out 5).trans rfl, (blk_cell BK441.out 6).trans rfl, (blk_cell BK441.out 7).trans rfl, (blk_cell BK441.out 8).trans rfl, (blk_cell BK441.out 9).trans rfl, (blk_cell BK441.out 10).trans rfl, (blk_cell BK441.out 11).trans rfl, (blk_cell BK441.out 12).trans rfl, (blk_cell BK441.out 13).trans rfl, (blk_cell BK441.out 14).trans rfl, (blk_cell BK441.out 15).trans rfl, (blk_cell BK441.out 16).trans rfl, (blk_cell BK441.out 17).trans rfl, (blk_cell BK441.out 18).trans rfl, (blk_cell BK441.out 19).trans rfl, (blk_cell BK441.out 20).trans rfl⟩ (fun hHeld => ?_); refine with_tabW laws_FnExactRuleAdd.tab5 laws_FnExactRuleAdd.bits5 (fun HT_ HW_ => ?_)
             generalize w35.drew = w36 at BK441 HB hHeld ⊢
             refine Gv.pu 0 (some 22) HT_ ?_
             refine take_ (i := 2) (N := some 24) (v := ?_) (a' := ?_) #[true, false, true, false, false, false, false, false, false, false] rfl rfl (take_ofW HT_.out HW_.out (by kernel_rfl)) (fun _ _ _ h => h) (Or.inl ⟨by rfl, ?_⟩) hHeld ?_ ?_
             rotate_left
             ·rintro w' ⟨s0, s1, s2, s3, s4, s5, s6, s7, s8, s9, s10, s11, s12, s13, s14, s15, s16, s17, s18, s19, s20⟩
              first | ((refine Gv.load_run (t := 50) (A := ⟨gb441, 0, none⟩) (cs := [_, _, _, _, _, _, _, _, _, _, _, _, _, _, _, _, _, _, _, _, _]) (x := ?xx51_) ?ho51_ ?hx51_ ⟨s0, s1, s2, s3, s4, s5, s6, s7, s8, s9, s10, s11, s12, s13, s14, s15, s16, s17, s18, s19, s20, trivial⟩ Try.underlying50 rfl (by kernel_rfl)); (case ho51_ => rfl); (case hx51_ => rfl)) | (go_simp; with_reducible rfl)
             rotate_left
             ·simp only [Act.put, List.setIfInBounds_toArray, List.set_cons_zero, List.set_cons_succ, i64_w, i32_w]
              rfl
             refine one_ (i := 1) (N := some 23) #[true, true, true, false, false, false, false, false, false, false] rfl rfl (one_of HT_.out (by kernel_rfl)) (by decide) (fun K hK => ?_)
             refine goes_ Try.func10 (by kernel_rfl) rfl #[.slice A0 l0.length c0] (by rfl) rfl rfl Gv.lm ?_
             with_reducible refine (laws_toRuleS.calls k _ _ l0 t443 _ ?side1 ?side2 A6.out).mono ?_
             (case side1 => repeat (first | exact (Kd.C_below HR0.out HB.out) | (with_reducible refine Kd.C_alloc ?_ _) | (with_reducible refine Kd.C_drewN ?_ _) | (with_reducible refine Kd.C_drew ?_)))
             (case side2 => exact HC0.out)
             rintro e w37 ⟨v444, rfl, ho0, hb⟩
             refine ⟨_, rfl, ?_⟩
             have n0_ := Gv.a0 (Kd.R_lower ho0 (below_size Gv.bw))
             have n1_ := Gv.a0 (Gv.bb BK441.out hb)
             have n2_ := Gv.a0 (below_step Gv.bw hb)
             clear BK441
             clear HB
             have HO445 := n0_
             have BK441 := n1_
             have HB := n2_
             clear n0_ n1_ n2_
             (try clear hb)
             (try clear hb2)
             (try clear hk)
             (try clear hi)
             (try clear ho0)
             refine hK.out _ _ ⟨(blk_cell BK441.out 0).trans rfl, (blk_cell BK441.out 1).trans rfl, (blk_cell BK441.out 2).trans rfl, (blk_cell BK441.out 3).trans rfl, (blk_cell BK441.out 4).trans rfl, (blk_cell BK441.out 5).trans rfl, (blk_cell BK441.out 6).trans rfl, (blk_cell BK441.out 7).trans rfl, (blk_cell BK441.out 8).trans rfl, (blk_cell BK441.out 9).trans rfl, (blk_cell BK441.out 10).trans rfl, (blk_cell BK441.out 11).trans rfl, (blk_cell BK441.out 12).trans rfl, (blk_cell BK441.out 13).trans rfl, (blk_cell BK441.out 14).trans rfl, (blk_cell BK441.out 15).trans rfl, (blk_cell BK441.out 16).trans rfl, (blk_cell BK441.out 17).trans rfl, (blk_cell BK441.out 18).trans rfl, (blk_cell BK441.out 19).trans rfl, (blk_cell BK441.out 20).trans rfl⟩ (fun hHeld => ?_)
             clear hK K
             refine norm_ (a' := ?_) ?_ ?_
             rotate_left
             ·show Act.put _ (some 23) _ = _
              simp only [Act.put, List.setIfInBounds_toArray, List.set_cons_zero, List.set_cons_succ, i64_w, i32_w]
              rfl
             refine one_ (i := 3) (N := some 25) #[true, true, true, true, false, false, false, false, false, false] rfl rfl (one_of HT_.out (by kernel_rfl)) (by decide) (fun K hK => ?_)
             refine goes_ Try.func26 (by kernel_rfl) rfl #[.agg #[.int .i64 a1_0, .int .i64 a1_1, .int .i64 a1_2, .int .i64 a1_3, .int .i64 a1_4, .int .i64 a1_5, .int .i64 a1_6, .int .i64 a1_7, .int .i64 a1_8, .int .i64 a1_9, .int .i64 a1_10, .int .i64 a1_11, .int .i64 a1_12, .int .i64 a1_13, .int .i64 a1_14, .int .i64 a1_15, .int .i64 a1_16, .int .i64 a1_17, .int .i64 a1_18, .int .i64 a1_19, .int .i64 a1_20]] (by rfl) rfl rfl Gv.lm ?_
             with_reducible refine (laws_toRule.calls a1_0 a1_1 a1_2 a1_3 a1_4 a1_5 a1_6 a1_7 a1_8 a1_9 a1_10 a1_11 a1_12 a1_13 a1_14 a1_15 a1_16 a1_17 a1_18 a1_19 a1_20 t446 t447 t448 t449 t450 t451 t452 t453 t454 t455 t456 t457 t458 t459 t460 t461 t462 t463 t464 t465 t466 _ A7.out).mono ?_
             rintro e w38 ⟨rfl, hb⟩
             refine ⟨_, rfl, ?_⟩
             have n0_ := Gv.a0 (Kd.R_below (Gv.kr HO445.out) hb)
             have n1_ := Gv.a0 (Gv.bb BK441.out hb)
             have n2_ := Gv.a0 (below_step Gv.bw hb)
             clear HO445
             clear BK441
             clear HB
             have HO445 := n0_
             have BK441 := n1_
             have HB := n2_
             clear n0_ n1_ n2_
             (try clear hb)
             (try clear hb2)
             (try clear hk)
             (try clear hi)
             obtain ⟨Ao39, co39, eo39⟩ := Kd.R_slice HO445.out
             (first | subst eo39 | (injection eo39 with f1_ f2_ f3_; have f4_ := f1_.symm; have f5_ := f3_.symm; clear f1_ f2_ f3_; subst f4_; subst f5_))
             refine hK.out _ _ ⟨(blk_cell BK441.out 0).trans rfl, (blk_cell BK441.out 1).trans rfl, (blk_cell BK441.out 2).trans rfl, (blk_cell BK441.out 3).trans rfl, (blk_cell BK441.out 4).trans rfl, (blk_cell BK441.out 5).trans rfl, (blk_cell BK441.out 6).trans rfl, (blk_cell BK441.out 7).trans rfl, (blk_cell BK441.out 8).trans rfl, (blk_cell BK441.out 9).trans rfl, (blk_cell BK441.out 10).trans rfl, (blk_cell BK441.out 11).trans rfl, (blk_cell BK441.out 12).trans rfl, (blk_cell BK441.out 13).trans rfl, (blk_cell BK441.out 14).trans rfl, (blk_cell BK441.out 15).trans rfl, (blk_cell BK441.out 16).trans rfl, (blk_cell BK441.out 17).trans rfl, (blk_cell BK441.out 18).trans rfl, (blk_cell BK441.out 19).trans rfl, (blk_cell BK441.out 20).trans rfl⟩ (fun hHeld => ?_)
             clear hK K
             refine norm_ (a' := ?_) ?_ ?_
             rotate_left
             ·show Act.put _ (some 25) _ = _
              simp only [Act.put, List.setIfInBounds_toArray, List.set_cons_zero, List.set_cons_succ, i64_w, i32_w]
              rfl
             refine one_ (i := 4) (N := some 26) #[true, true, true, true, true, false, false, false, false, false] rfl rfl (one_of HT_.out (by kernel_rfl)) (by decide) (fun K hK => ?_)
             refine goes_ Try.func25 (by kernel_rfl) rfl #[.slice Ao39 t443.length co39, .agg #[.int .i64 t446, .int .i64 t447, .int .i64 t448, .int .i64 t449, .int .i64 t450, .int .i64 t451, .int .i64 t452, .int .i64 t453, .int .i64 t454, .int .i64 t455, .int .i64 t456, .int .i64 t457, .int .i64 t458, .int .i64 t459, .int .i64 t460, .int .i64 t461, .int .i64 t462, .int .i64 t463, .int .i64 t464, .int .i64 t465, .int .i64 t466]] (by rfl) rfl rfl Gv.lm ?_
             with_reducible refine (spec_RuleAdd.calls k _ _ t443 t446 t447 t448 t449 t450 t451 t452 t453 t454 t455 t456 t457 t458 t459 t460 t461 t462 t463 t464 t465 t466 t467 t470 _ ?side1 ?side2 A8.out).mono ?_
             (case side1 => repeat (first | exact (Kd.R_reads' HO445.out).2.2 | (with_reducible refine Kd.C_alloc ?_ _) | (with_reducible refine Kd.C_drewN ?_ _) | (with_reducible refine Kd.C_drew ?_)))
             (case side2 => exact (Kd.R_reads' HO445.out).2.1)
             rintro e w40 ⟨v468, rfl, ho0, hb⟩
             refine ⟨_, rfl, ?_⟩
             have n0_ := Gv.a0 (Kd.R_elder' (Gv.kr HO445.out) (Kd.R_base ho0) hb)
             have n1_ := Gv.a0 (Kd.R_lower (Kd.R_new' ho0 (Kd.R_lt (Gv.kr HO445.out))) (below_size Gv.bw))
             have n2_ := Gv.a0 (Gv.bb BK441.out hb)
             have n3_ := Gv.a0 (below_step Gv.bw hb)
             clear HO445
             clear BK441
             clear HB
             have HO445 := n0_
             have HO469 := n1_
             have BK441 := n2_
             have HB := n3_
             clear n0_ n1_ n2_ n3_
             (try clear hb)
             (try clear hb2)
             (try clear hk)
             (try clear hi)
             (try clear ho0)
             refine hK.out _ _ ⟨(blk_cell BK441.out 0).trans rfl, (blk_cell BK441.out 1).trans rfl, (blk_cell BK441.out 2).trans rfl, (blk_cell BK441.out 3).trans rfl, (blk_cell BK441.out 4).trans rfl, (blk_cell BK441.out 5).trans rfl, (blk_cell BK441.out 6).trans rfl, (blk_cell BK441.out 7).trans rfl, (blk_cell BK441.out 8).trans rfl, (blk_cell BK441.out 9).trans rfl, (blk_cell BK441.out 10).trans rfl, (blk_cell BK441.out 11).trans rfl, (blk_cell BK441.out 12).trans rfl, (blk_cell BK441.out 13).trans rfl, (blk_cell BK441.out 14).trans rfl, (blk_cell BK441.out 15).trans rfl, (blk_cell BK441.out 16).trans rfl, (blk_cell BK441.out 17).trans rfl, (blk_cell BK441.out 18).trans rfl, (blk_cell BK441.out 19).trans rfl, (blk_cell BK441.out 20).trans rfl⟩ (fun hHeld => ?_)
             clear hK K
             refine norm_ (a' := ?_) ?_ ?_
             rotate_left
             ·show Act.put _ (some 26) _ = _
              simp only [Act.put, List.setIfInBounds_toArray, List.set_cons_zero, List.set_cons_succ, i64_w, i32_w]
              rfl
             refine Gv.pu 5 (some 21) HT_ ?_
             refine Gv.pu 6 (some 27) HT_ ?_
             refine Gv.pu 7 (some 28) HT_ ?_
             refine Gv.pu 8 (some 6) HT_ ?_
             refine Gv.pu 9 (some 7) HT_ ?_
             refine done_ (done_of HT_.out (by kernel_rfl)) ?_
             try go_wp2_with (first | ((with_reducible refine gate_callee (f := 10) rfl ?_); refine goesL_ (some 30) rfl rfl Try.func10 (by kernel_rfl) rfl #[.slice A0 l0.length c0] rfl Gv.lm ?_; (with_reducible refine (laws_toRuleS.calls k _ _ l0 t471 _ ?side1 ?side2 A9.out).mono ?_); (case side1 => repeat (first | exact (Kd.C_below HR0.out HB.out) | (with_reducible refine Kd.C_alloc ?_ _) | (with_reducible refine Kd.C_drewN ?_ _) | (with_reducible refine Kd.C_drew ?_))); (case side2 => exact HC0.out); rintro e w41 ⟨v472, rfl, ho0, hb⟩; refine ⟨_, rfl, ?_⟩; have n0_ := Gv.a0 (Kd.R_elder' (Gv.kr HO445.out) (Kd.R_base ho0) hb); have n1_ := Gv.a0 (Kd.R_elder' (Gv.kr HO469.out) (Kd.R_base ho0) hb); have n2_ := Gv.a0 (Kd.R_lower (Kd.R_new' (Kd.R_new' ho0 (Kd.R_lt (Gv.kr HO445.out))) (Kd.R_lt (Gv.kr HO469.out))) (below_size Gv.bw)); have n3_ := Gv.a0 (Gv.bb BK441.out hb); have n4_ := Gv.a0 (below_step Gv.bw hb); clear HO445; clear HO469; clear BK441; clear HB; have HO445 := n0_; have HO469 := n1_; have HO473 := n2_; have BK441 := n3_; have HB := n4_; clear n0_ n1_ n2_ n3_ n4_; (try clear hb); (try clear hb2); (try clear hk); (try clear hi); (try clear ho0); obtain ⟨hcz42_0, hcz42_1, hcz42_2, hcz42_3, hcz42_4, hcz42_5, hcz42_6, hcz42_7, hcz42_8, hcz42_9, hcz42_10, hcz42_11, hcz42_12, hcz42_13, hcz42_14, hcz42_15, hcz42_16, hcz42_17, hcz42_18, hcz42_19, hcz42_20⟩ := Gv.c21 BK441.out) | ((with_reducible refine gate_callee (f := 26) rfl ?_); refine goesL_ (some 34) rfl rfl Try.func26 (by kernel_rfl) rfl #[.agg #[.int .i64 a1_0, .int .i64 a1_1, .int .i64 a1_2, .int .i64 a1_3, .int .i64 a1_4, .int .i64 a1_5, .int .i64 a1_6, .int .i64 a1_7, .int .i64 a1_8, .int .i64 a1_9, .int .i64 a1_10, .int .i64 a1_11, .int .i64 a1_12, .int .i64 a1_13, .int .i64 a1_14, .int .i64 a1_15, .int .i64 a1_16, .int .i64 a1_17, .int .i64 a1_18, .int .i64 a1_19, .int .i64 a1_20]] rfl Gv.lm ?_; (with_reducible refine (laws_toRule.calls a1_0 a1_1 a1_2 a1_3 a1_4 a1_5 a1_6 a1_7 a1_8 a1_9 a1_10 a1_11 a1_12 a1_13 a1_14 a1_15 a1_16 a1_17 a1_18 a1_19 a1_20 t474 t475 t476 t477 t478 t479 t480 t481 t482 t483 t484 t485 t486 t487 t488 t489 t490 t491 t492 t493 t494 _ A10.out).mono ?_); rintro e w43 ⟨rfl, hb⟩; refine ⟨_, rfl, ?_⟩; have n0_ := Gv.a0 (Kd.R_below (Gv.kr HO445.out) hb); have n1_ := Gv.a0 (Kd.R_below (Gv.kr HO469.out) hb); have n2_ := Gv.a0 (Kd.R_below (Gv.kr HO473.out) hb); have n3_ := Gv.a0 (Gv.bb BK441.out hb); have n4_ := Gv.a0 (below_step Gv.bw hb); clear HO445; clear HO469; clear HO473; clear BK441; clear HB; have HO445 := n0_; have HO469 := n1_; have HO473 := n2_; have BK441 := n3_; have HB := n4_; clear n0_ n1_ n2_ n3_ n4_; (try clear hb); (try clear hb2); (try clear hk); (try clear hi); obtain ⟨Ao44, co44, eo44⟩ := Kd.R_slice HO473.out; subst eo44) | ((with_reducible refine gate_callee (f := 27) rfl ?_); refine goesL_ (some 35) rfl rfl Try.func27 (by kernel_rfl) rfl #[.slice Ao44 t471.length co44, .agg #[.int .i64 t474, .int .i64 t475, .int .i64 t476, .int .i64 t477, .int .i64 t478, .int .i64 t479, .int .i64 t480, .int .i64 t481, .int .i64 t482, .int .i64 t483, .int .i64 t484, .int .i64 t485, .int .i64 t486, .int .i64 t487, .int .i64 t488, .int .i64 t489, .int .i64 t490, .int .i64 t491, .int .i64 t492, .int .i64 t493, .int .i64 t494]] rfl Gv.lm ?_; (with_reducible refine (impl_RuleAdd.calls k (fun k_ => some k_ = (.slice Ao44 t471.length co44 : Value).ownBlock) _ _ t471 t474 t475 t476 t477 t478 t479 t480 t481 t482 t483 t484 t485 t486 t487 t488 t489 t490 t491 t492 t493 t494 t495 t498 _ ?side1 A11.out).mono ?_); (case side1 => exact Kd.R_V (Kd.R_tight rfl (Kd.R_types (HO473.out) BK441.out (by decide)))); rintro e w45 ⟨v496, rfl, ho0, hb⟩; refine ⟨_, rfl, ?_⟩; have n0_ := Gv.a0 (Kd.R_elder' (Gv.kr HO445.out) (Kd.R_base ho0) hb); have n1_ := Gv.a0 (Kd.R_elder' (Gv.kr HO469.out) (Kd.R_base ho0) hb); have n2_ := Gv.a0 (Kd.R_elder' (Gv.kr HO473.out) (Kd.R_base ho0) hb); have n3_ := Gv.a0 (Kd.R_lower (Kd.R_new' (Kd.R_new' (Kd.R_new' (Kd.R_mono (ok' := fun k_ => True) ho0 (fun _ hk_ => trivial)) (Kd.R_lt (Gv.kr HO445.out))) (Kd.R_lt (Gv.kr HO469.out))) (Kd.R_lt (Gv.kr HO473.out))) (below_size Gv.bw)); have n4_ := Gv.a0 (Gv.bb BK441.out hb); have n5_ := Gv.a0 (below_step Gv.bw hb); clear HO445; clear HO469; clear HO473; clear BK441; clear HB; have HO445 := n0_; have HO469 := n1_; have HO473 := n2_; have HO497 := n3_; have BK441 := n4_; have HB := n5_; clear n0_ n1_ n2_ n3_ n4_ n5_; (try clear hb); (try clear hb2); (try clear hk); (try clear hi); (try clear ho0); obtain ⟨Ao46, co46, eo46⟩ := Kd.R_slice HO497.out; subst eo46; obtain ⟨Ao47, co47, eo47⟩ := Kd.R_slice HO469.out; subst eo47) | ((with_reducible refine gate_callee (f := 12) rfl ?_); refine goesL_ (some 40) rfl rfl Try.func12 (by kernel_rfl) rfl #[.slice Ao46 t495.length co46, .slice Ao47 t467.length co47] rfl Gv.lm ?_; (with_reducible refine (laws_eqRuleS.calls k _ _ t495 _ _ t467 true _ ?side1 ?side2 ?side3 ?side4 A12.out).mono ?_); (case side1 => repeat (first | exact (Kd.R_reads' HO497.out).2.2 | (with_reducible refine Kd.C_alloc ?_ _) | (with_reducible refine Kd.C_drewN ?_ _) | (with_reducible refine Kd.C_drew ?_))); (case side2 => exact (Kd.R_reads' HO497.out).2.1); (case side3 => repeat (first | exact (Kd.R_reads' HO469.out).2.2 | (with_reducible refine Kd.C_alloc ?_ _) | (with_reducible refine Kd.C_drewN ?_ _) | (with_reducible refine Kd.C_drew ?_))); (case side4 => exact (Kd.R_reads' HO469.out).2.1); rintro e w48 ⟨rfl, hb⟩; refine ⟨_, rfl, ?_⟩; have n0_ := Gv.a0 (Kd.R_below (Gv.kr HO445.out) hb); have n1_ := Gv.a0 (Kd.R_below (Gv.kr HO469.out) hb); have n2_ := Gv.a0 (Kd.R_below (Gv.kr HO473.out) hb); have n3_ := Gv.a0 (Kd.R_below (Gv.kr HO497.out) hb); have n4_ := Gv.a0 (Gv.bb BK441.out hb); have n5_ := Gv.a0 (below_step Gv.bw hb); clear HO445; clear HO469; clear HO473; clear HO497; clear BK441; clear HB; have HO445 := n0_; have HO469 := n1_; have HO473 := n2_; have HO497 := n3_; have BK441 := n4_; have HB := n5_; clear n0_ n1_ n2_ n3_ n4_ n5_; (try clear hb); (try clear hb2); (try clear hk); (try clear hi)) | ((with_reducible refine gate_callee (f := 10) rfl ?_); refine goesL_ (some 49) rfl rfl Try.func10 (by kernel_rfl) rfl #[.slice A0 l0.length c0] rfl Gv.lm ?_; (with_reducible refine (laws_toRuleS.calls k _ _ l0 t500 _ ?side1 ?side2 A15.out).mono ?_); (case side1 => repeat (first | exact (Kd.C_below HR0.out HB.out) | (with_reducible refine Kd.C_alloc ?_ _) | (with_reducible refine Kd.C_drewN ?_ _) | (with_reducible refine Kd.C_drew ?_))); (case side2 => exact HC0.out); rintro e w49 ⟨v501, rfl, ho0, hb⟩; refine ⟨_, rfl, ?_⟩; have n0_ := Gv.a0 (Kd.R_elder' (Gv.kr HO445.out) (Kd.R_base ho0) hb); have n1_ := Gv.a0 (Kd.R_elder' (Gv.kr HO469.out) (Kd.R_base ho0) hb); have n2_ := Gv.a0 (Kd.R_elder' (Gv.kr HO473.out) (Kd.R_base ho0) hb); have n3_ := Gv.a0 (Kd.R_elder' (Gv.kr HO497.out) (Kd.R_base ho0) hb); have n4_ := Gv.a0 (Kd.R_lower (Kd.R_new' (Kd.R_new' (Kd.R_new' (Kd.R_new' ho0 (Kd.R_lt (Gv.kr HO445.out))) (Kd.R_lt (Gv.kr HO469.out))) (Kd.R_lt (Gv.kr HO473.out))) (Kd.R_lt (Gv.kr HO497.out))) (below_size Gv.bw)); have n5_ := Gv.a0 (Gv.bb BK441.out hb); have n6_ := Gv.a0 (below_step Gv.bw hb); clear HO445; clear HO469; clear HO473; clear HO497; clear BK441; clear HB; have HO445 := n0_; have HO469 := n1_; have HO473 := n2_; have HO497 := n3_; have HO502 := n4_; have BK441 := n5_; have HB := n6_; clear n0_ n1_ n2_ n3_ n4_ n5_ n6_; (try clear hb); (try clear hb2); (try clear hk); (try clear hi); (try clear ho0); obtain ⟨Ao50, co50, eo50⟩ := Kd.R_slice HO502.out; subst eo50) | ((with_reducible refine gate_callee (f := 12) rfl ?_); refine goesL_ (some 50) rfl rfl Try.func12 (by kernel_rfl) rfl #[.slice Ao44 t471.length co44, .slice Ao50 t500.length co50] rfl Gv.lm ?_; (with_reducible refine (laws_eqRuleS.calls k _ _ t471 _ _ t500 true _ ?side1 ?side2 ?side3 ?side4 A16.out).mono ?_); (case side1 => repeat (first | exact (Kd.R_reads' HO473.out).2.2 | (with_reducible refine Kd.C_alloc ?_ _) | (with_reducible refine Kd.C_drewN ?_ _) | (with_reducible refine Kd.C_drew ?_))); (case side2 => exact (Kd.R_reads' HO473.out).2.1); (case side3 => repeat (first | exact (Kd.R_reads' HO502.out).2.2 | (with_reducible refine Kd.C_alloc ?_ _) | (with_reducible refine Kd.C_drewN ?_ _) | (with_reducible refine Kd.C_drew ?_))); (case side4 => exact (Kd.R_reads' HO502.out).2.1); rintro e w51 ⟨rfl, hb⟩; refine ⟨_, rfl, ?_⟩; have n0_ := Gv.a0 (Kd.R_below (Gv.kr HO445.out) hb); have n1_ := Gv.a0 (Kd.R_below (Gv.kr HO469.out) hb); have n2_ := Gv.a0 (Kd.R_below (Gv.kr HO473.out) hb); have n3_ := Gv.a0 (Kd.R_below (Gv.kr HO497.out) hb); have n4_ := Gv.a0 (Kd.R_below (Gv.kr HO502.out) hb); have n5_ := Gv.a0 (Gv.bb BK441.out hb); have n6_ := Gv.a0 (below_step Gv.bw hb); clear HO445; clear HO469; clear HO473; clear HO497; clear HO502; clear BK441; clear HB; have HO445 := n0_; have HO469 := n1_; have HO473 := n2_; have HO497 := n3_; have HO502 := n4_; have BK441 := n5_; have HB := n6_; clear n0_ n1_ n2_ n3_ n4_ n5_ n6_; (try clear hb); (try clear hb2); (try clear hk); (try clear hi)) | ((with_reducible refine gate_callee (f := 19) rfl ?_); refine goesL_ (some 54) rfl rfl Try.func19 (by kernel_rfl) rfl #[.slice Ao44 t471.length co44, .int .i64 1] rfl Gv.lm ?_; (with_reducible refine (laws_markRuleS.calls (fun k_ => some k_ = (.slice Ao44 t471.length co44 : Value).ownBlock) (.slice Ao44 t471.length co44) t471 1 t504 t505 w _ ?side1 ?side2 A18.out).mono ?_); (case side1 => repeat (first | (with_reducible first | exact HB.out | apply below_alloc | apply pw_below_drewN | apply below_drew1 | refine below_set ?_ GE441.out) | exact HB.out)); (case side2 => exact Kd.R_tight rfl HO473.out); rintro e w52 ⟨rfl, hy0, hb, hkp⟩; refine ⟨_, rfl, ?_⟩; have n0_ := Gv.a0 (blk_kept Gv.bk hkp (fun hs_ => (fun e_ => (Kd.R_ne HO473.out BK441.out (by decide)) e_) hs_)); have n1_ := Gv.a0 (Kd.R_mono (ok' := fun k_ => some k_ ≠ (.slice Ao47 t467.length co47 : Value).ownBlock ∧ some k_ ≠ (.slice Ao44 t471.length co44 : Value).ownBlock ∧ some k_ ≠ (.slice Ao46 t495.length co46 : Value).ownBlock ∧ some k_ ≠ (.slice Ao50 t500.length co50 : Value).ownBlock) (Kd.R_keptB (HO445.out) hkp (fun k_ hk_ hs_ => (hk_.1.1.2) hs_)) (fun k_ hk_ => ⟨hk_.1.1.1.1.2, hk_.1.1.1.2, hk_.1.1.2, hk_.1.2⟩)); have n2_ := Gv.a0 (Kd.R_mono (ok' := fun k_ => some k_ ≠ (.slice Ao39 t443.length co39 : Value).ownBlock ∧ some k_ ≠ (.slice Ao44 t471.length co44 : Value).ownBlock ∧ some k_ ≠ (.slice Ao46 t495.length co46 : Value).ownBlock ∧ some k_ ≠ (.slice Ao50 t500.length co50 : Value).ownBlock) (Kd.R_keptB (HO469.out) hkp (fun k_ hk_ hs_ => (hk_.1.1.2) hs_)) (fun k_ hk_ => ⟨hk_.1.1.1.1.2, hk_.1.1.1.2, hk_.1.1.2, hk_.1.2⟩)); have n3_ := Gv.a0 (Kd.R_reok rfl hy0 (fun k_ e_ => HO473.out.1 k_ e_)); have n4_ := Gv.a0 (Kd.R_mono (ok' := fun k_ => some k_ ≠ (.slice Ao39 t443.length co39 : Value).ownBlock ∧ some k_ ≠ (.slice Ao47 t467.length co47 : Value).ownBlock ∧ some k_ ≠ (.slice Ao44 t471.length co44 : Value).ownBlock ∧ some k_ ≠ (.slice Ao50 t500.length co50 : Value).ownBlock) (Kd.R_keptB (HO497.out) hkp (fun k_ hk_ hs_ => (hk_.1.2) hs_)) (fun k_ hk_ => ⟨hk_.1.1.1.1.2, hk_.1.1.1.2, hk_.1.1.2, hk_.1.2⟩)); have n5_ := Gv.a0 (Kd.R_mono (ok' := fun k_ => some k_ ≠ (.slice Ao39 t443.length co39 : Value).ownBlock ∧ some k_ ≠ (.slice Ao47 t467.length co47 : Value).ownBlock ∧ some k_ ≠ (.slice Ao44 t471.length co44 : Value).ownBlock ∧ some k_ ≠ (.slice Ao46 t495.length co46 : Value).ownBlock) (Kd.R_keptB (HO502.out) hkp (fun k_ hk_ hs_ => (hk_.1.2) hs_)) (fun k_ hk_ => ⟨hk_.1.1.1.1.2, hk_.1.1.1.2, hk_.1.1.2, hk_.1.2⟩)); have n6_ := Gv.a0 (hb); clear BK441; clear HO445; clear HO469; clear HO473; clear HO497; clear HO502; clear HB; have BK441 := n0_; have HO445 := n1_; have HO469 := n2_; have HO473 := n3_; have HO497 := n4_; have HO502 := n5_; have HB := n6_; clear n0_ n1_ n2_ n3_ n4_ n5_ n6_; (try clear hb); (try clear hkp); (try clear hy0)) | (go_at_call 12; (with_reducible refine (laws_eqRuleS.calls k _ _ t495 _ _ t467 true _ ?side1 ?side2 ?side3 ?side4 A20.out).mono ?_); (case side1 => repeat (first | exact (Kd.R_reads' HO497.out).2.2 | (with_reducible refine Kd.C_alloc ?_ _) | (with_reducible refine Kd.C_drewN ?_ _) | (with_reducible refine Kd.C_drew ?_))); (case side2 => exact (Kd.R_reads' HO497.out).2.1); (case side3 => repeat (first | exact (Kd.R_reads' HO469.out).2.2 | (with_reducible refine Kd.C_alloc ?_ _) | (with_reducible refine Kd.C_drewN ?_ _) | (with_reducible refine Kd.C_drew ?_))); (case side4 => exact (Kd.R_reads' HO469.out).2.1); rintro e w53 ⟨rfl, hb⟩; have n0_ := Gv.a0 (Kd.R_below (Gv.kr HO445.out) hb); have n1_ := Gv.a0 (Kd.R_below (Gv.kr HO469.out) hb); have n2_ := Gv.a0 (Kd.R_below (Gv.kr HO473.out) hb); have n3_ := Gv.a0 (Kd.R_below (Gv.kr HO497.out) hb); have n4_ := Gv.a0 (Kd.R_below (Gv.kr HO502.out) hb); have n5_ := Gv.a0 (Gv.bb BK441.out hb); have n6_ := Gv.a0 (below_step Gv.bw hb); clear HO445; clear HO469; clear HO473; clear HO497; clear HO502; clear BK441; clear HB; have HO445 := n0_; have HO469 := n1_; have HO473 := n2_; have HO497 := n3_; have HO502 := n4_; have BK441 := n5_; have HB := n6_; clear n0_ n1_ n2_ n3_ n4_ n5_ n6_; (try clear hb); (try clear hb2); (try clear hk); (try clear hi)) | ((with_reducible refine gate_callee (f := 19) rfl ?_); refine goesL_ (some 70) rfl rfl Try.func19 (by kernel_rfl) rfl #[.slice Ao46 t495.length co46, .int .i64 1] rfl Gv.lm ?_; (with_reducible refine (laws_markRuleS.calls (fun k_ => some k_ = (.slice Ao46 t495.length co46 : Value).ownBlock) (.slice Ao46 t495.length co46) t495 1 t507 t508 w _ ?side1 ?side2 A22.out).mono ?_); (case side1 => repeat (first | (with_reducible first | exact HB.out | apply below_alloc | apply pw_below_drewN | apply below_drew1 | refine below_set ?_ GE441.out) | exact HB.out)); (case side2 => exact Kd.R_tight rfl HO497.out); rintro e w54 ⟨rfl, hy0, hb, hkp⟩; refine ⟨_, rfl, ?_⟩; have n0_ := Gv.a0 (blk_kept Gv.bk hkp (fun hs_ => (fun e_ => (Kd.R_ne HO497.out BK441.out (by decide)) e_) hs_)); have n1_ := Gv.a0 (Kd.R_mono (ok' := fun k_ => some k_ ≠ (.slice Ao47 t467.length co47 : Value).ownBlock ∧ some k_ ≠ (.slice Ao44 t471.length co44 : Value).ownBlock ∧ some k_ ≠ (.slice Ao46 t495.length co46 : Value).ownBlock ∧ some k_ ≠ (.slice Ao50 t500.length co50 : Value).ownBlock) (Kd.R_keptB (HO445.out) hkp (fun k_ hk_ hs_ => (hk_.2.2.1) hs_)) (fun k_ hk_ => ⟨hk_.1.1, hk_.1.2.1, hk_.1.2.2.1, hk_.1.2.2.2⟩)); have n2_ := Gv.a0 (Kd.R_mono (ok' := fun k_ => some k_ ≠ (.slice Ao39 t443.length co39 : Value).ownBlock ∧ some k_ ≠ (.slice Ao44 t471.length co44 : Value).ownBlock ∧ some k_ ≠ (.slice Ao46 t495.length co46 : Value).ownBlock ∧ some k_ ≠ (.slice Ao50 t500.length co50 : Value).ownBlock) (Kd.R_keptB (HO469.out) hkp (fun k_ hk_ hs_ => (hk_.2.2.1) hs_)) (fun k_ hk_ => ⟨hk_.1.1, hk_.1.2.1, hk_.1.2.2.1, hk_.1.2.2.2⟩)); have n3_ := Gv.a0 (Kd.R_mono (ok' := fun k_ => some k_ ≠ (.slice Ao39 t443.length co39 : Value).ownBlock ∧ some k_ ≠ (.slice Ao47 t467.length co47 : Value).ownBlock ∧ some k_ ≠ (.slice Ao46 t495.length co46 : Value).ownBlock ∧ some k_ ≠ (.slice Ao50 t500.length co50 : Value).ownBlock) (Kd.R_keptB (HO473.out) hkp (fun k_ hk_ hs_ => (hk_.1.2) hs_)) (fun k_ hk_ => ⟨hk_.1.1.1.1.2, hk_.1.1.1.2, hk_.1.1.2, hk_.1.2⟩)); have n4_ := Gv.a0 (Kd.R_reok rfl hy0 (fun k_ e_ => HO497.out.1 k_ e_)); have n5_ := Gv.a0 (Kd.R_mono (ok' := fun k_ => some k_ ≠ (.slice Ao39 t443.length co39 : Value).ownBlock ∧ some k_ ≠ (.slice Ao47 t467.length co47 : Value).ownBlock ∧ some k_ ≠ (.slice Ao44 t471.length co44 : Value).ownBlock ∧ some k_ ≠ (.slice Ao46 t495.length co46 : Value).ownBlock) (Kd.R_keptB (HO502.out) hkp (fun k_ hk_ hs_ => (hk_.2.2.2) hs_)) (fun k_ hk_ => ⟨hk_.1.1, hk_.1.2.1, hk_.1.2.2.1, hk_.1.2.2.2⟩)); have n6_ := Gv.a0 (hb); clear BK441; clear HO445; clear HO469; clear HO473; clear HO497; clear HO502; clear HB; have BK441 := n0_; have HO445 := n1_; have HO469 := n2_; have HO473 := n3_; have HO497 := n4_; have HO502 := n5_; have HB := n6_; clear n0_ n1_ n2_ n3_ n4_ n5_ n6_; (try clear hb); (try clear hkp); (try clear hy0)) | ((with_reducible refine gate_callee (f := 24) rfl ?_); refine goesL_ (some 73) rfl rfl Try.func24 (by kernel_rfl) rfl #[.slice Ao46 t508.length co46, .int .i64 1] rfl (by (try simp only [List.map_toArray, List.map_cons, List.map_nil]); first | done | (rw [show t508.length = t495.length from (Kd.R_reads' HO497.out).1.symm] <;> rfl) | rfl | (simp only [List.length_drop, List.length_take]; rfl)) ?_; (with_reducible refine (laws_heldRuleS.calls _ _ t508 1 t509 _ ?side1 ?side2 A23.out).mono ?_); (case side1 => repeat (first | exact (Kd.R_reads' HO497.out).2.2 | (with_reducible refine Kd.C_alloc ?_ _) | (with_reducible refine Kd.C_drewN ?_ _) | (with_reducible refine Kd.C_drew ?_))); (case side2 => rw [show t508.length = t495.length from (Kd.R_reads' HO497.out).1.symm]; exact (Kd.R_reads' HO497.out).2.1); rintro e w55 ⟨rfl, hb⟩; refine ⟨_, rfl, ?_⟩; have n0_ := Gv.a0 (Kd.R_below (Gv.kr HO445.out) hb); have n1_ := Gv.a0 (Kd.R_below (Gv.kr HO469.out) hb); have n2_ := Gv.a0 (Kd.R_below (Gv.kr HO473.out) hb); have n3_ := Gv.a0 (Kd.R_below (Gv.kr HO497.out) hb); have n4_ := Gv.a0 (Kd.R_below (Gv.kr HO502.out) hb); have n5_ := Gv.a0 (Gv.bb BK441.out hb); have n6_ := Gv.a0 (below_step Gv.bw hb); clear HO445; clear HO469; clear HO473; clear HO497; clear HO502; clear BK441; clear HB; have HO445 := n0_; have HO469 := n1_; have HO473 := n2_; have HO497 := n3_; have HO502 := n4_; have BK441 := n5_; have HB := n6_; clear n0_ n1_ n2_ n3_ n4_ n5_ n6_; (try clear hb); (try clear hb2); (try clear hk); (try clear hi)) | ((with_reducible refine Gv.gate_load (t := 50) rfl ?_); (try (refine gate_guard (by rfl) ?_; dsimp only)); refine wpList_load_row rfl 50 _ rfl gb441 rfl 50 _ _ _ (by first | exact Gv.kb0 BK441.out | exact Gv.kb1 (Gv.kb0 BK441.out)) Try.underlying50 rfl (by kernel_rfl) ?_))
             have n0_ := Gv.a0 (Kd.R_drew HO445.out)
             have n1_ := Gv.a0 (Kd.R_drew HO469.out)
             have n2_ := Gv.a0 (Kd.R_drew HO473.out)
             have n3_ := Gv.a0 (Kd.R_drew HO497.out)
             have n4_ := Gv.a0 (Kd.R_drew HO502.out)
             have n5_ := Gv.a0 (blk_drew BK441.out)
             have n6_ := Gv.a0 (below_drew1 HB.out)
             clear HO445
             clear HO469
             clear HO473
             clear HO497
             clear HO502
             clear BK441
             clear HB
             have HO445 := n0_
             have HO469 := n1_
             have HO473 := n2_
             have HO497 := n3_
             have HO502 := n4_
             have BK441 := n5_
             have HB := n6_
             clear n0_ n1_ n2_ n3_ n4_ n5_ n6_
             refine start_ (n := 10) (S := fun w' => w'.cell? ⟨gb441, 0, none⟩ = some (.int .i64 a1_0) ∧ w'.cell? ⟨gb441, 1, none⟩ = some (.int .i64 a1_1) ∧ w'.cell? ⟨gb441, 2, none⟩ = some (.int .i64 a1_2) ∧ w'.cell? ⟨gb441, 3, none⟩ = some (.int .i64 a1_3) ∧ w'.cell? ⟨gb441, 4, none⟩ = some (.int .i64 a1_4) ∧ w'.cell? ⟨gb441, 5, none⟩ = some (.int .i64 a1_5) ∧ w'.cell? ⟨gb441, 6, none⟩ = some (.int .i64 a1_6) ∧ w'.cell? ⟨gb441, 7, none⟩ = some (.int .i64 a1_7) ∧ w'.cell? ⟨gb441, 8, none⟩ = some (.int .i64 a1_8) ∧ w'.cell? ⟨gb441, 9, none⟩ = some (.int .i64 a1_9) ∧ w'.cell? ⟨gb441, 10, none⟩ = some (.int .i64 a1_10) ∧ w'.cell? ⟨gb441, 11, none⟩ = some (.int .i64 a1_11) ∧ w'.cell? ⟨gb441, 12, none⟩ = some (.int .i64 a1_12) ∧ w'.cell? ⟨gb441, 13, none⟩ = some (.int .i64 a1_13) ∧ w'.cell? ⟨gb441, 14, none⟩ = some (.int .i64 a1_14) ∧ w'.cell? ⟨gb441, 15, none⟩ = some (.int .i64 a1_15) ∧ w'.cell? ⟨gb441, 16, none⟩ = some (.int .i64 a1_16) ∧ w'.cell? ⟨gb441, 17, none⟩ = some (.int .i64 a1_17) ∧ w'.cell? ⟨gb441, 18, none⟩ = some (.int .i64 a1_18) ∧ w'.cell? ⟨gb441, 19, none⟩ = some (.int .i64 a1_19) ∧ w'.cell? ⟨gb441, 20, none⟩ = some (.int .i64 a1_20)) (ds := []) #[false, false, false, false, false, false, false, false, false, false] (by kernel_rfl) rfl rfl ⟨(blk_cell BK441.out 0).trans rfl, (blk_cell BK441.out 1).trans rfl, (blk_cell BK441.out 2).trans rfl, (blk_cell BK441.out 3).trans rfl, (blk_cell BK441.out 4).trans rfl, (blk_cell BK441.out 5).trans rfl, (blk_cell BK441.out 6).trans rfl, (blk_cell BK441.out 7).trans rfl, (blk_cell BK441.out 8).trans rfl, (blk_cell BK441.out 9).trans rfl, (blk_cell BK441.out 10).trans rfl, (blk_cell BK441.out 11).trans rfl, (blk_cell BK441.out 12).trans rfl, (blk_cell BK441.out 13).trans rfl, (blk_cell BK441.out 14).trans rfl, (blk_cell BK441.out 15).trans rfl, (blk_cell BK441.out 16).trans rfl, (blk_cell BK441.out 17).trans rfl, (blk_cell BK441.out 18).trans rfl, (blk_cell BK441.out 19).trans rfl, (blk_cell BK441.out 20).trans rfl⟩ (fun hHeld => ?_); refine with_tabW laws_FnExactRuleAdd.tab24 laws_FnExactRuleAdd.bits24 (fun HT_ HW_ => ?_)
             generalize w55.drew = w56 at HO445 HO469 HO473 HO497 HO502 BK441 HB hHeld ⊢
             refine Gv.pu 0 (some 80) HT_ ?_
             refine take_ (i := 2) (N := some 82) (v := ?_) (a' := ?_) #[true, false, true, false, false, false, false, false, false, false] rfl rfl (take_ofW HT_.out HW_.out (by kernel_rfl)) (fun _ _ _ h => h) (Or.inl ⟨by rfl, ?_⟩) hHeld ?_ ?_
             rotate_left
             ·rintro w' ⟨s0, s1, s2, s3, s4, s5, s6, s7, s8, s9, s10, s11, s12, s13, s14, s15, s16, s17, s18, s19, s20⟩
              first | ((refine Gv.load_run (t := 50) (A := ⟨gb441, 0, none⟩) (cs := [_, _, _, _, _, _, _, _, _, _, _, _, _, _, _, _, _, _, _, _, _]) (x := ?xx53_) ?ho53_ ?hx53_ ⟨s0, s1, s2, s3, s4, s5, s6, s7, s8, s9, s10, s11, s12, s13, s14, s15, s16, s17, s18, s19, s20, trivial⟩ Try.underlying50 rfl (by kernel_rfl)); (case ho53_ => rfl); (case hx53_ => rfl)) | (go_simp; with_reducible rfl)
             rotate_left
             ·simp only [Act.put, List.setIfInBounds_toArray, List.set_cons_zero, List.set_cons_succ, i64_w, i32_w]
              rfl
             refine one_ (i := 1) (N := some 81) #[true, true, true, false, false, false, false, false, false, false] rfl rfl (one_of HT_.out (by kernel_rfl)) (by decide) (fun K hK => ?_)
             refine goes_ Try.func10 (by kernel_rfl) rfl #[.slice A0 l0.length c0] (by rfl) rfl rfl Gv.lm ?_
             with_reducible refine (laws_toRuleS.calls k _ _ l0 t510 _ ?side1 ?side2 A26.out).mono ?_
             (case side1 => repeat (first | exact (Kd.C_below HR0.out HB.out) | (with_reducible refine Kd.C_alloc ?_ _) | (with_reducible refine Kd.C_drewN ?_ _) | (with_reducible refine Kd.C_drew ?_)))
             (case side2 => exact HC0.out)
             rintro e w57 ⟨v511, rfl, ho0, hb⟩
             refine ⟨_, rfl, ?_⟩
             have n0_ := Gv.a0 (Kd.R_elder' (Gv.kr HO445.out) (Kd.R_base ho0) hb)
             have n1_ := Gv.a0 (Kd.R_elder' (Gv.kr HO469.out) (Kd.R_base ho0) hb)
             have n2_ := Gv.a0 (Kd.R_elder' (Gv.kr HO473.out) (Kd.R_base ho0) hb)
             have n3_ := Gv.a0 (Kd.R_elder' (Gv.kr HO497.out) (Kd.R_base ho0) hb)
             have n4_ := Gv.a0 (Kd.R_elder' (Gv.kr HO502.out) (Kd.R_base ho0) hb)
             have n5_ := Gv.a0 (Kd.R_lower (Kd.R_new' (Kd.R_new' (Kd.R_new' (Kd.R_new' (Kd.R_new' ho0 (Kd.R_lt (Gv.kr HO445.out))) (Kd.R_lt (Gv.kr HO469.out))) (Kd.R_lt (Gv.kr HO473.out))) (Kd.R_lt (Gv.kr HO497.out))) (Kd.R_lt (Gv.kr HO502.out))) (below_size Gv.bw))
             have n6_ := Gv.a0 (Gv.bb BK441.out hb)
             have n7_ := Gv.a0 (below_step Gv.bw hb)
             clear HO445
             clear HO469
             clear HO473
             clear HO497
             clear HO502
             clear BK441
             clear HB
             have HO445 := n0_
             have HO469 := n1_
             have HO473 := n2_
             have HO497 := n3_
             have HO502 := n4_
             have HO512 := n5_
             have BK441 := n6_
             have HB := n7_
             clear n0_ n1_ n2_ n3_ n4_ n5_ n6_ n7_
             (try clear hb)
             (try clear hb2)
             (try clear hk)
             (try clear hi)
             (try clear ho0)
             refine hK.out _ _ ⟨(blk_cell BK441.out 0).trans rfl, (blk_cell BK441.out 1).trans rfl, (blk_cell BK441.out 2).trans rfl, (blk_cell BK441.out 3).trans rfl, (blk_cell BK441.out 4).trans rfl, (blk_cell BK441.out 5).trans rfl, (blk_cell BK441.out 6).trans rfl, (blk_cell BK441.out 7).trans rfl, (blk_cell BK441.out 8).trans rfl, (blk_cell BK441.out 9).trans rfl, (blk_cell BK441.out 10).trans rfl, (blk_cell BK441.out 11).trans rfl, (blk_cell BK441.out 12).trans rfl, (blk_cell BK441.out 13).trans rfl, (blk_cell BK441.out 14).trans rfl, (blk_cell BK441.out 15).trans rfl, (blk_cell BK441.out 16).trans rfl, (blk_cell BK441.out 17).trans rfl, (blk_cell BK441.out 18).trans rfl, (blk_cell BK441.out 19).trans rfl, (blk_cell BK441.out 20).trans rfl⟩ (fun hHeld => ?_)
             clear hK K
             refine norm_ (a' := ?_) ?_ ?_
             rotate_left
             ·show Act.put _ (some 81) _ = _
              simp only [Act.put, List.setIfInBounds_toArray, List.set_cons_zero, List.set_cons_succ, i64_w, i32_w]
              rfl
             refine one_ (i := 3) (N := some 83) #[true, true, true, true, false, false, false, false, false, false] rfl rfl (one_of HT_.out (by kernel_rfl)) (by decide) (fun K hK => ?_)
             refine goes_ Try.func26 (by kernel_rfl) rfl #[.agg #[.int .i64 a1_0, .int .i64 a1_1, .int .i64 a1_2, .int .i64 a1_3, .int .i64 a1_4, .int .i64 a1_5, .int .i64 a1_6, .int .i64 a1_7, .int .i64 a1_8, .int .i64 a1_9, .int .i64 a1_10, .int .i64 a1_11, .int .i64 a1_12, .int .i64 a1_13, .int .i64 a1_14, .int .i64 a1_15, .int .i64 a1_16, .int .i64 a1_17, .int .i64 a1_18, .int .i64 a1_19, .int .i64 a1_20]] (by rfl) rfl rfl Gv.lm ?_
             with_reducible refine (laws_toRule.calls a1_0 a1_1 a1_2 a1_3 a1_4 a1_5 a1_6 a1_7 a1_8 a1_9 a1_10 a1_11 a1_12 a1_13 a1_14 a1_15 a1_16 a1_17 a1_18 a1_19 a1_20 t513 t514 t515 t516 t517 t518 t519 t520 t521 t522 t523 t524 t525 t526 t527 t528 t529 t530 t531 t532 t533 _ A27.out).mono ?_
             rintro e w58 ⟨rfl, hb⟩
             refine ⟨_, rfl, ?_⟩
             have n0_ := Gv.a0 (Kd.R_below (Gv.kr HO445.out) hb)
             have n1_ := Gv.a0 (Kd.R_below (Gv.kr HO469.out) hb)
             have n2_ := Gv.a0 (Kd.R_below (Gv.kr HO473.out) hb)
             have n3_ := Gv.a0 (Kd.R_below (Gv.kr HO497.out) hb)
             have n4_ := Gv.a0 (Kd.R_below (Gv.kr HO502.out) hb)
             have n5_ := Gv.a0 (Kd.R_below (Gv.kr HO512.out) hb)
             have n6_ := Gv.a0 (Gv.bb BK441.out hb)
             have n7_ := Gv.a0 (below_step Gv.bw hb)
             clear HO445
             clear HO469
             clear HO473
             clear HO497
             clear HO502
             clear HO512
             clear BK441
             clear HB
             have HO445 := n0_
             have HO469 := n1_
             have HO473 := n2_
             have HO497 := n3_
             have HO502 := n4_
             have HO512 := n5_
             have BK441 := n6_
             have HB := n7_
             clear n0_ n1_ n2_ n3_ n4_ n5_ n6_ n7_
             (try clear hb)
             (try clear hb2)
             (try clear hk)
             (try clear hi)
             obtain ⟨Ao59, co59, eo59⟩ := Kd.R_slice HO512.out
             (first | subst eo59 | (injection eo59 with f1_ f2_ f3_; have f4_ := f1_.symm; have f5_ := f3_.symm; clear f1_ f2_ f3_; subst f4_; subst f5_))
             refine hK.out _ _ ⟨(blk_cell BK441.out 0).trans rfl, (blk_cell BK441.out 1).trans rfl, (blk_cell BK441.out 2).trans rfl, (blk_cell BK441.out 3).trans rfl, (blk_cell BK441.out 4).trans rfl, (blk_cell BK441.out 5).trans rfl, (blk_cell BK441.out 6).trans rfl, (blk_cell BK441.out 7).trans rfl, (blk_cell BK441.out 8).trans rfl, (blk_cell BK441.out 9).trans rfl, (blk_cell BK441.out 10).trans rfl, (blk_cell BK441.out 11).trans rfl, (blk_cell BK441.out 12).trans rfl, (blk_cell BK441.out 13).trans rfl, (blk_cell BK441.out 14).trans rfl, (blk_cell BK441.out 15).trans rfl, (blk_cell BK441.out 16).trans rfl, (blk_cell BK441.out 17).trans rfl, (blk_cell BK441.out 18).trans rfl, (blk_cell BK441.out 19).trans rfl, (blk_cell BK441.out 20).trans rfl⟩ (fun hHeld => ?_)
             clear hK K
             refine norm_ (a' := ?_) ?_ ?_
             rotate_left
             ·show Act.put _ (some 83) _ = _
              simp only [Act.put, List.setIfInBounds_toArray, List.set_cons_zero, List.set_cons_succ, i64_w, i32_w]
              rfl
             refine one_ (i := 4) (N := some 84) #[true, true, true, true, true, false, false, false, false, false] rfl rfl (one_of HT_.out (by kernel_rfl)) (by decide) (fun K hK => ?_)
             refine goes_ Try.func27 (by kernel_rfl) rfl #[.slice Ao59 t510.length co59, .agg #[.int .i64 t513, .int .i64 t514, .int .i64 t515, .int .i64 t516, .int .i64 t517, .int .i64 t518, .int .i64 t519, .int .i64 t520, .int .i64 t521, .int .i64 t522, .int .i64 t523, .int .i64 t524, .int .i64 t525, .int .i64 t526, .int .i64 t527, .int .i64 t528, .int .i64 t529, .int .i64 t530, .int .i64 t531, .int .i64 t532, .int .i64 t533]] (by rfl) rfl rfl Gv.lm ?_
             with_reducible refine (impl_RuleAdd.calls k (fun k_ => some k_ = (.slice Ao59 t510.length co59 : Value).ownBlock) _ _ t510 t513 t514 t515 t516 t517 t518 t519 t520 t521 t522 t523 t524 t525 t526 t527 t528 t529 t530 t531 t532 t533 t534 t537 _ ?side1 A28.out).mono ?_
             (case side1 => exact Kd.R_V (Kd.R_tight rfl (Kd.R_types (HO512.out) BK441.out (by decide))))
             rintro e w60 ⟨v535, rfl, ho0, hb⟩
             refine ⟨_, rfl, ?_⟩
             have n0_ := Gv.a0 (Kd.R_elder' (Gv.kr HO445.out) (Kd.R_base ho0) hb)
             have n1_ := Gv.a0 (Kd.R_elder' (Gv.kr HO469.out) (Kd.R_base ho0) hb)
             have n2_ := Gv.a0 (Kd.R_elder' (Gv.kr HO473.out) (Kd.R_base ho0) hb)
             have n3_ := Gv.a0 (Kd.R_elder' (Gv.kr HO497.out) (Kd.R_base ho0) hb)
             have n4_ := Gv.a0 (Kd.R_elder' (Gv.kr HO502.out) (Kd.R_base ho0) hb)
             have n5_ := Gv.a0 (Kd.R_elder' (Gv.kr HO512.out) (Kd.R_base ho0) hb)
             have n6_ := Gv.a0 (Kd.R_lower (Kd.R_new' (Kd.R_new' (Kd.R_new' (Kd.R_new' (Kd.R_new' (Kd.R_new' (Kd.R_mono (ok' := fun k_ => True) ho0 (fun _ hk_ => trivial)) (Kd.R_lt (Gv.kr HO445.out))) (Kd.R_lt (Gv.kr HO469.out))) (Kd.R_lt (Gv.kr HO473.out))) (Kd.R_lt (Gv.kr HO497.out))) (Kd.R_lt (Gv.kr HO502.out))) (Kd.R_lt (Gv.kr HO512.out))) (below_size Gv.bw))
             have n7_ := Gv.a0 (Gv.bb BK441.out hb)
             have n8_ := Gv.a0 (below_step Gv.bw hb)
             clear HO445
             clear HO469
             clear HO473
             clear HO497
             clear HO502
             clear HO512
             clear BK441
             clear HB
             have HO445 := n0_
             have HO469 := n1_
             have HO473 := n2_
             have HO497 := n3_
             have HO502 := n4_
             have HO512 := n5_
             have HO536 := n6_
             have BK441 := n7_
             have HB := n8_
             clear n0_ n1_ n2_ n3_ n4_ n5_ n6_ n7_ n8_
             (try clear hb)
             (try clear hb2)
             (try clear hk)
             (try clear hi)
             (try clear ho0)
             refine hK.out _ _ ⟨(blk_cell BK441.out 0).trans rfl, (blk_cell BK441.out 1).trans rfl, (blk_cell BK441.out 2).trans rfl, (blk_cell BK441.out 3).trans rfl, (blk_cell BK441.out 4).trans rfl, (blk_cell BK441.out 5).trans rfl, (blk_cell BK441.out 6).trans rfl, (blk_cell BK441.out 7).trans rfl, (blk_cell BK441.out 8).trans rfl, (blk_cell BK441.out 9).trans rfl, (blk_cell BK441.out 10).trans rfl, (blk_cell BK441.out 11).trans rfl, (blk_cell BK441.out 12).trans rfl, (blk_cell BK441.out 13).trans rfl, (blk_cell BK441.out 14).trans rfl, (blk_cell BK441.out 15).trans rfl, (blk_cell BK441.out 16).trans rfl, (blk_cell BK441.out 17).trans rfl, (blk_cell BK441.out 18).trans rfl, (blk_cell BK441.out 19).trans rfl, (blk_cell BK441.out 20).trans rfl⟩ (fun hHeld => ?_)
             clear hK K
             refine norm_ (a' := ?_) ?_ ?_
             rotate_left
             ·show Act.put _ (some 84) _ = _
              simp only [Act.put, List.setIfInBounds_toArray, List.set_cons_zero, List.set_cons_succ, i64_w, i32_w]
              rfl
             refine Gv.pu 5 (some 79) HT_ ?_
             refine Gv.pu 6 (some 85) HT_ ?_
             refine Gv.pu 7 (some 86) HT_ ?_
             refine Gv.pu 8 (some 14) HT_ ?_
             refine Gv.pu 9 (some 15) HT_ ?_
             refine done_ (done_of HT_.out (by kernel_rfl)) ?_
             obtain ⟨Ao61, co61, eo61⟩ := Kd.R_slice HO536.out
             subst eo61
             try go_wp2_with (first | ((with_reducible refine gate_callee (f := 12) rfl ?_); refine goesL_ (some 89) rfl rfl Try.func12 (by kernel_rfl) rfl #[.slice Ao61 t534.length co61, .slice Ao47 t467.length co47] rfl Gv.lm ?_; (with_reducible refine (laws_eqRuleS.calls k _ _ t534 _ _ t467 true _ ?side1 ?side2 ?side3 ?side4 A29.out).mono ?_); (case side1 => repeat (first | exact (Kd.R_reads' HO536.out).2.2 | (with_reducible refine Kd.C_alloc ?_ _) | (with_reducible refine Kd.C_drewN ?_ _) | (with_reducible refine Kd.C_drew ?_))); (case side2 => exact (Kd.R_reads' HO536.out).2.1); (case side3 => repeat (first | exact (Kd.R_reads' HO469.out).2.2 | (with_reducible refine Kd.C_alloc ?_ _) | (with_reducible refine Kd.C_drewN ?_ _) | (with_reducible refine Kd.C_drew ?_))); (case side4 => exact (Kd.R_reads' HO469.out).2.1); rintro e w62 ⟨rfl, hb⟩; refine ⟨_, rfl, ?_⟩; have n0_ := Gv.a0 (Kd.R_below (Gv.kr HO445.out) hb); have n1_ := Gv.a0 (Kd.R_below (Gv.kr HO469.out) hb); have n2_ := Gv.a0 (Kd.R_below (Gv.kr HO473.out) hb); have n3_ := Gv.a0 (Kd.R_below (Gv.kr HO497.out) hb); have n4_ := Gv.a0 (Kd.R_below (Gv.kr HO502.out) hb); have n5_ := Gv.a0 (Kd.R_below (Gv.kr HO512.out) hb); have n6_ := Gv.a0 (Kd.R_below (Gv.kr HO536.out) hb); have n7_ := Gv.a0 (Gv.bb BK441.out hb); have n8_ := Gv.a0 (below_step Gv.bw hb); clear HO445; clear HO469; clear HO473; clear HO497; clear HO502; clear HO512; clear HO536; clear BK441; clear HB; have HO445 := n0_; have HO469 := n1_; have HO473 := n2_; have HO497 := n3_; have HO502 := n4_; have HO512 := n5_; have HO536 := n6_; have BK441 := n7_; have HB := n8_; clear n0_ n1_ n2_ n3_ n4_ n5_ n6_ n7_ n8_; (try clear hb); (try clear hb2); (try clear hk); (try clear hi)) | ((with_reducible refine gate_callee (f := 24) rfl ?_); refine goesL_ (some 98) rfl rfl Try.func24 (by kernel_rfl) rfl #[.slice Ao46 t508.length co46, .int .i64 1] rfl (by (try simp only [List.map_toArray, List.map_cons, List.map_nil]); first | done | (rw [show t508.length = t495.length from (Kd.R_reads' HO497.out).1.symm] <;> rfl) | rfl | (simp only [List.length_drop, List.length_take]; rfl)) ?_; (with_reducible refine (laws_heldRuleS.calls _ _ t508 1 t539 _ ?side1 ?side2 A32.out).mono ?_); (case side1 => repeat (first | exact (Kd.R_reads' HO497.out).2.2 | (with_reducible refine Kd.C_alloc ?_ _) | (with_reducible refine Kd.C_drewN ?_ _) | (with_reducible refine Kd.C_drew ?_))); (case side2 => rw [show t508.length = t495.length from (Kd.R_reads' HO497.out).1.symm]; exact (Kd.R_reads' HO497.out).2.1); rintro e w63 ⟨rfl, hb⟩; refine ⟨_, rfl, ?_⟩; have n0_ := Gv.a0 (Kd.R_below (Gv.kr HO445.out) hb); have n1_ := Gv.a0 (Kd.R_below (Gv.kr HO469.out) hb); have n2_ := Gv.a0 (Kd.R_below (Gv.kr HO473.out) hb); have n3_ := Gv.a0 (Kd.R_below (Gv.kr HO497.out) hb); have n4_ := Gv.a0 (Kd.R_below (Gv.kr HO502.out) hb); have n5_ := Gv.a0 (Kd.R_below (Gv.kr HO512.out) hb); have n6_ := Gv.a0 (Kd.R_below (Gv.kr HO536.out) hb); have n7_ := Gv.a0 (Gv.bb BK441.out hb); have n8_ := Gv.a0 (below_step Gv.bw hb); clear HO445; clear HO469; clear HO473; clear HO497; clear HO502; clear HO512; clear HO536; clear BK441; clear HB; have HO445 := n0_; have HO469 := n1_; have HO473 := n2_; have HO497 := n3_; have HO502 := n4_; have HO512 := n5_; have HO536 := n6_; have BK441 := n7_; have HB := n8_; clear n0_ n1_ n2_ n3_ n4_ n5_ n6_ n7_ n8_; (try clear hb); (try clear hb2); (try clear hk); (try clear hi)) | ((with_reducible refine Gv.gate_load (t := 50) rfl ?_); (try (refine gate_guard (by rfl) ?_; dsimp only)); refine wpList_load_row rfl 50 _ rfl gb441 rfl 50 _ _ _ (by first | exact Gv.kb0 BK441.out | exact Gv.kb1 (Gv.kb0 BK441.out)) Try.underlying50 rfl (by kernel_rfl) ?_))
             go_ret
             exact ⟨Gv.rt, Gv.bw⟩
            ·rw [if_neg c34] at H
             exact absurd H (by simp)
          ·rw [if_neg c31] at H
           exact absurd H (by simp)
         ·replace c30 := Bool.eq_false_iff.mpr c30
          subst c30
          have H1 : (none) = some r := by rw [if_neg (show ¬ (false = true) by decide)] at H; exact H
          clear H
          have H := H1
          clear H1
          exact absurd H (by simp)
        ·rw [if_neg c25] at H
         exact absurd H (by simp)
      ·replace c21 := Bool.eq_false_iff.mpr c21
       subst c21
       have H1 : (none) = some r := by rw [if_neg (show ¬ (false = true) by decide)] at H; exact H
       clear H
       have H := H1
       clear H1
       exact absurd H (by simp)
    ·replace c17 := Bool.eq_false_iff.mpr c17
     subst c17
     have H1 : (none) = some r := by rw [if_neg (show ¬ (false = true) by decide)] at H; exact H
     clear H
     have H := H1
     clear H1
     exact absurd H (by simp)
   ·rw [if_neg c14] at H
    exact absurd H (by simp)
  ·replace c13 := Bool.eq_false_iff.mpr c13
   subst c13
   have H1 : (none) = some r := by rw [if_neg (show ¬ (false = true) by decide)] at H; exact H
   clear H
   have H := H1
   clear H1
   exact absurd H (by simp)

end Go.Proofs.Ytbihbbkdciebhaa.PRa
