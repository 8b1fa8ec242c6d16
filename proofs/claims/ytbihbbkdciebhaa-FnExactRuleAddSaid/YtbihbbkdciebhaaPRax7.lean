/- Plain Lean functions of a law's Go functions, their contracts, by a program of this session (wip/pr.py over the kit's print). -/
import Derived.Test.YtbihbbkdciebhaaPRax0
import Derived.Test.YtbihbbkdciebhaaPRax5
import Derived.Test.YtbihbbkdciebhaaPRax6
namespace Go.Proofs.Ytbihbbkdciebhaa.PRa
open Go.RowKit Go.Proofs.YtbihbbkdciebhaaW.PrintWords Go.Proofs.YtbihbbkdciebhaaW.PrintLast Go.Proofs.YtbihbbkdciebhaaW.PrintMore
attribute [local go_sem] max2_int min2_int max_two min_two max_three min_three max_four min_four   -- for this text's walks alone
set_option linter.unusedVariables false
set_option linter.unusedSimpArgs false

/-! ### impl_RuleOk: function 29 -/
def impl_RuleOk.j0 : Nat → Bool → Int → Int → Int → Int → Int → Int → Int → Int → Int → Int → Int → Int → Int → Int → Int → Int → Int → Int → Int → Int → Int → Option (Bool)
 | 0, _, _, _, _, _, _, _, _, _, _, _, _, _, _, _, _, _, _, _, _, _, _ => none
 | k + 1, x40, x372000, x372001, x372002, x372003, x372004, x372005, x372006, x372007, x372008, x372009, x372010, x372011, x372012, x372013, x372014, x372015, x372016, x372017, x372018, x372019, x372020 => if x40 = true then (some false) else ((impl_within.f x372018 1 8).bind fun t378 => (if t378 = true then ((impl_within.f x372019 1 10).bind fun t379 => (if t379 = true then ((impl_within.f x372020 1 8).bind fun t380 => (some t380)) else (some false))) else (some false)))
def impl_RuleOk.f (k : Nat) (a0_0 : Int) (a0_1 : Int) (a0_2 : Int) (a0_3 : Int) (a0_4 : Int) (a0_5 : Int) (a0_6 : Int) (a0_7 : Int) (a0_8 : Int) (a0_9 : Int) (a0_10 : Int) (a0_11 : Int) (a0_12 : Int) (a0_13 : Int) (a0_14 : Int) (a0_15 : Int) (a0_16 : Int) (a0_17 : Int) (a0_18 : Int) (a0_19 : Int) (a0_20 : Int) : Option (Bool) := (impl_within.f a0_0 1 9999).bind fun t372 => (if t372 = true then ((impl_PrefixOk.f k a0_1 a0_2 a0_3 a0_4 a0_5 a0_6).bind fun t373 => (if t373 = true then ((impl_PrefixOk.f k a0_7 a0_8 a0_9 a0_10 a0_11 a0_12).bind fun t374 => (if t374 = true then ((impl_within.f a0_13 (-1) 255).bind fun t375 => (if t375 = true then ((impl_isRange.f a0_14 a0_15).bind fun t376 => (if t376 = true then ((impl_isRange.f a0_16 a0_17).bind fun t377 => (impl_RuleOk.j0 k (!t377) a0_0 a0_1 a0_2 a0_3 a0_4 a0_5 a0_6 a0_7 a0_8 a0_9 a0_10 a0_11 a0_12 a0_13 a0_14 a0_15 a0_16 a0_17 a0_18 a0_19 a0_20)) else (impl_RuleOk.j0 k true a0_0 a0_1 a0_2 a0_3 a0_4 a0_5 a0_6 a0_7 a0_8 a0_9 a0_10 a0_11 a0_12 a0_13 a0_14 a0_15 a0_16 a0_17 a0_18 a0_19 a0_20))) else (impl_RuleOk.j0 k true a0_0 a0_1 a0_2 a0_3 a0_4 a0_5 a0_6 a0_7 a0_8 a0_9 a0_10 a0_11 a0_12 a0_13 a0_14 a0_15 a0_16 a0_17 a0_18 a0_19 a0_20))) else (impl_RuleOk.j0 k true a0_0 a0_1 a0_2 a0_3 a0_4 a0_5 a0_6 a0_7 a0_8 a0_9 a0_10 a0_11 a0_12 a0_13 a0_14 a0_15 a0_16 a0_17 a0_18 a0_19 a0_20))) else (impl_RuleOk.j0 k true a0_0 a0_1 a0_2 a0_3 a0_4 a0_5 a0_6 a0_7 a0_8 a0_9 a0_10 a0_11 a0_12 a0_13 a0_14 a0_15 a0_16 a0_17 a0_18 a0_19 a0_20))) else (impl_RuleOk.j0 k true a0_0 a0_1 a0_2 a0_3 a0_4 a0_5 a0_6 a0_7 a0_8 a0_9 a0_10 a0_11 a0_12 a0_13 a0_14 a0_15 a0_16 a0_17 a0_18 a0_19 a0_20))
theorem impl_RuleOk.mono_l : ∀ k, (∀ y0 y1 y2 y3 y4 y5 y6 y7 y8 y9 y10 y11 y12 y13 y14 y15 y16 y17 y18 y19 y20 y21, LeO (impl_RuleOk.j0 k y0 y1 y2 y3 y4 y5 y6 y7 y8 y9 y10 y11 y12 y13 y14 y15 y16 y17 y18 y19 y20 y21) (impl_RuleOk.j0 (k + 1) y0 y1 y2 y3 y4 y5 y6 y7 y8 y9 y10 y11 y12 y13 y14 y15 y16 y17 y18 y19 y20 y21))
 | 0 => fun _ _ _ _ _ _ _ _ _ _ _ _ _ _ _ _ _ _ _ _ _ _ r h => by simp [impl_RuleOk.j0] at h
 | k + 1 => by
  have ih0 := impl_RuleOk.mono_l k
  ·intro y0 y1 y2 y3 y4 y5 y6 y7 y8 y9 y10 y11 y12 y13 y14 y15 y16 y17 y18 y19 y20 y21
   unfold impl_RuleOk.j0
   repeat' first
   | (with_reducible exact ih0 _ _ _ _ _ _ _ _ _ _ _ _ _ _ _ _ _ _ _ _ _ _)
   | (with_reducible exact impl_PrefixOk.mono _ _ _ _ _ _ _)
   | (with_reducible exact LeO.refl _)
   | (with_reducible exact LeO.none _)
   | (with_reducible refine LeO.ite ?_ ?_)
   | (with_reducible refine LeO.bind ?_ (fun _ => ?_))
   | exact ih0 _ _ _ _ _ _ _ _ _ _ _ _ _ _ _ _ _ _ _ _ _ _
   | exact impl_PrefixOk.mono _ _ _ _ _ _ _
   | exact LeO.none _
   | refine LeO.ite ?_ ?_
   | refine LeO.bind ?_ (fun _ => ?_)
theorem impl_RuleOk.mono : ∀ a0 a1 a2 a3 a4 a5 a6 a7 a8 a9 a10 a11 a12 a13 a14 a15 a16 a17 a18 a19 a20 k, LeO (impl_RuleOk.f k a0 a1 a2 a3 a4 a5 a6 a7 a8 a9 a10 a11 a12 a13 a14 a15 a16 a17 a18 a19 a20) (impl_RuleOk.f (k + 1) a0 a1 a2 a3 a4 a5 a6 a7 a8 a9 a10 a11 a12 a13 a14 a15 a16 a17 a18 a19 a20) := by
 intro a0 a1 a2 a3 a4 a5 a6 a7 a8 a9 a10 a11 a12 a13 a14 a15 a16 a17 a18 a19 a20 k
 have ih0 := impl_RuleOk.mono_l k
 unfold impl_RuleOk.f
 repeat' first
   | (with_reducible exact ih0 _ _ _ _ _ _ _ _ _ _ _ _ _ _ _ _ _ _ _ _ _ _)
   | (with_reducible exact impl_PrefixOk.mono _ _ _ _ _ _ _)
   | (with_reducible exact LeO.refl _)
   | (with_reducible exact LeO.none _)
   | (with_reducible refine LeO.ite ?_ ?_)
   | (with_reducible refine LeO.bind ?_ (fun _ => ?_))
   | exact ih0 _ _ _ _ _ _ _ _ _ _ _ _ _ _ _ _ _ _ _ _ _ _
   | exact impl_PrefixOk.mono _ _ _ _ _ _ _
   | exact LeO.none _
   | refine LeO.ite ?_ ?_
   | refine LeO.bind ?_ (fun _ => ?_)
set_option maxHeartbeats 8000000 in
set_option maxRecDepth 100000 in
theorem impl_RuleOk.calls (k : Nat) (a0_0 : Int) (a0_1 : Int) (a0_2 : Int) (a0_3 : Int) (a0_4 : Int) (a0_5 : Int) (a0_6 : Int) (a0_7 : Int) (a0_8 : Int) (a0_9 : Int) (a0_10 : Int) (a0_11 : Int) (a0_12 : Int) (a0_13 : Int) (a0_14 : Int) (a0_15 : Int) (a0_16 : Int) (a0_17 : Int) (a0_18 : Int) (a0_19 : Int) (a0_20 : Int) (r : Bool) (w : World) (h : impl_RuleOk.f k a0_0 a0_1 a0_2 a0_3 a0_4 a0_5 a0_6 a0_7 a0_8 a0_9 a0_10 a0_11 a0_12 a0_13 a0_14 a0_15 a0_16 a0_17 a0_18 a0_19 a0_20 = some r) :
  Calls Try.prog 29 #[.agg #[.int .i64 a0_0, .int .i64 a0_1, .int .i64 a0_2, .int .i64 a0_3, .int .i64 a0_4, .int .i64 a0_5, .int .i64 a0_6, .int .i64 a0_7, .int .i64 a0_8, .int .i64 a0_9, .int .i64 a0_10, .int .i64 a0_11, .int .i64 a0_12, .int .i64 a0_13, .int .i64 a0_14, .int .i64 a0_15, .int .i64 a0_16, .int .i64 a0_17, .int .i64 a0_18, .int .i64 a0_19, .int .i64 a0_20]] w fun e w' => e = .returned (.bool r) ∧ Below w.heap.size w w' := by
 have hu55 := Try.underlying55
 have hu53 := Try.underlying53
 have HB := Gv.a0 (Below.refl w.heap.size w)
 have H : ((impl_within.f a0_0 1 9999).bind fun t372 => (if t372 = true then ((impl_PrefixOk.f k a0_1 a0_2 a0_3 a0_4 a0_5 a0_6).bind fun t373 => (if t373 = true then ((impl_PrefixOk.f k a0_7 a0_8 a0_9 a0_10 a0_11 a0_12).bind fun t374 => (if t374 = true then ((impl_within.f a0_13 (-1) 255).bind fun t375 => (if t375 = true then ((impl_isRange.f a0_14 a0_15).bind fun t376 => (if t376 = true then ((impl_isRange.f a0_16 a0_17).bind fun t377 => (impl_RuleOk.j0 k (!t377) a0_0 a0_1 a0_2 a0_3 a0_4 a0_5 a0_6 a0_7 a0_8 a0_9 a0_10 a0_11 a0_12 a0_13 a0_14 a0_15 a0_16 a0_17 a0_18 a0_19 a0_20)) else (impl_RuleOk.j0 k true a0_0 a0_1 a0_2 a0_3 a0_4 a0_5 a0_6 a0_7 a0_8 a0_9 a0_10 a0_11 a0_12 a0_13 a0_14 a0_15 a0_16 a0_17 a0_18 a0_19 a0_20))) else (impl_RuleOk.j0 k true a0_0 a0_1 a0_2 a0_3 a0_4 a0_5 a0_6 a0_7 a0_8 a0_9 a0_10 a0_11 a0_12 a0_13 a0_14 a0_15 a0_16 a0_17 a0_18 a0_19 a0_20))) else (impl_RuleOk.j0 k true a0_0 a0_1 a0_2 a0_3 a0_4 a0_5 a0_6 a0_7 a0_8 a0_9 a0_10 a0_11 a0_12 a0_13 a0_14 a0_15 a0_16 a0_17 a0_18 a0_19 a0_20))) else (impl_RuleOk.j0 k true a0_0 a0_1 a0_2 a0_3 a0_4 a0_5 a0_6 a0_7 a0_8 a0_9 a0_10 a0_11 a0_12 a0_13 a0_14 a0_15 a0_16 a0_17 a0_18 a0_19 a0_20))) else (impl_RuleOk.j0 k true a0_0 a0_1 a0_2 a0_3 a0_4 a0_5 a0_6 a0_7 a0_8 a0_9 a0_10 a0_11 a0_12 a0_13 a0_14 a0_15 a0_16 a0_17 a0_18 a0_19 a0_20))) = some r := h
 clear h
 have HC2 := Gv.a0 H
 clear H
 go_enter Try.func29, Try.ntmps29
 go_upto_region 1 with (first | ((with_reducible refine gate_dst (N := 1) rfl ?_); refine box_event ?hg (N := 1) ?hd (cs := #[.int .i64 a0_0, .int .i64 a0_1, .int .i64 a0_2, .int .i64 a0_3, .int .i64 a0_4, .int .i64 a0_5, .int .i64 a0_6, .int .i64 a0_7, .int .i64 a0_8, .int .i64 a0_9, .int .i64 a0_10, .int .i64 a0_11, .int .i64 a0_12, .int .i64 a0_13, .int .i64 a0_14, .int .i64 a0_15, .int .i64 a0_16, .int .i64 a0_17, .int .i64 a0_18, .int .i64 a0_19, .int .i64 a0_20]) (t := 55) ?hr ?_; (case hd => rfl); (case hg => rfl); (case hr => first | (go_simp; done) | (go_simp; rfl)); intro gb371 hg w3 hbox hb; have n0_ := Gv.a0 (below_step Gv.bw hb); have n1_ := Gv.a0 (hbox); have n2_ := Gv.a0 ((Gv.ble hg Gv.bw : w.heap.size ≤ gb371)); have n3_ := Gv.a0 ((Gv.ble hg Gv.bw : w.heap.size ≤ gb371)); clear HB; have HB := n0_; have BK371 := n1_; have GW371 := n2_; have GE371 := n3_; clear n0_ n1_ n2_ n3_; clear hb hbox hg) | ((with_reducible refine gate_store (t := 55) (p := 1) rfl ?_); refine Gv.store_event rfl rfl rfl rfl rfl (Gv.kb BK371.out) (by kernel_rfl) rfl (by simp; and_intros <;> rfl) ?_; intro w3s hbox hoth hbel; have n0_ := Gv.a0 (hbox); have n1_ := Gv.a0 (hbel w Gv.bw GE371.out); clear BK371 HB; have BK371 := n0_; have HB := n1_; clear n0_ n1_ hbox hoth hbel) | ((with_reducible refine Gv.gate_load (t := 55) rfl ?_); (try (refine gate_guard (by rfl) ?_; dsimp only)); refine wpList_load_row rfl 55 _ rfl gb371 rfl 55 _ _ _ (by first | exact Gv.kb0 BK371.out | exact Gv.kb1 (Gv.kb0 BK371.out)) Try.underlying55 rfl (by kernel_rfl) ?_))
 (try simp only [Act.put, List.setIfInBounds_toArray, List.set_cons_zero, List.set_cons_succ])
 go_cut [40] (fun v40 wc => ∃ (kq : Nat) (x40_1 : Bool), v40 = .bool x40_1 ∧ Aside0 (impl_RuleOk.j0 kq x40_1 a0_0 a0_1 a0_2 a0_3 a0_4 a0_5 a0_6 a0_7 a0_8 a0_9 a0_10 a0_11 a0_12 a0_13 a0_14 a0_15 a0_16 a0_17 a0_18 a0_19 a0_20 = some r) ∧ Aside0 (kq ≤ k) ∧ Aside0 (wc.heap[gb371]? = some (.cells #[.int .i64 a0_0, .int .i64 a0_1, .int .i64 a0_2, .int .i64 a0_3, .int .i64 a0_4, .int .i64 a0_5, .int .i64 a0_6, .int .i64 a0_7, .int .i64 a0_8, .int .i64 a0_9, .int .i64 a0_10, .int .i64 a0_11, .int .i64 a0_12, .int .i64 a0_13, .int .i64 a0_14, .int .i64 a0_15, .int .i64 a0_16, .int .i64 a0_17, .int .i64 a0_18, .int .i64 a0_19, .int .i64 a0_20] 55 (0, 0))) ∧ Aside0 (Below w.heap.size w wc))
 case first =>
  have H := HC2.out
  clear HC2
  replace H := Option.bind_eq_some_iff.mp H
  obtain ⟨t372, A40, H⟩ := H
  replace H : (if t372 = true then ((impl_PrefixOk.f k a0_1 a0_2 a0_3 a0_4 a0_5 a0_6).bind fun t373 => (if t373 = true then ((impl_PrefixOk.f k a0_7 a0_8 a0_9 a0_10 a0_11 a0_12).bind fun t374 => (if t374 = true then ((impl_within.f a0_13 (-1) 255).bind fun t375 => (if t375 = true then ((impl_isRange.f a0_14 a0_15).bind fun t376 => (if t376 = true then ((impl_isRange.f a0_16 a0_17).bind fun t377 => (impl_RuleOk.j0 k (!t377) a0_0 a0_1 a0_2 a0_3 a0_4 a0_5 a0_6 a0_7 a0_8 a0_9 a0_10 a0_11 a0_12 a0_13 a0_14 a0_15 a0_16 a0_17 a0_18 a0_19 a0_20)) else (impl_RuleOk.j0 k true a0_0 a0_1 a0_2 a0_3 a0_4 a0_5 a0_6 a0_7 a0_8 a0_9 a0_10 a0_11 a0_12 a0_13 a0_14 a0_15 a0_16 a0_17 a0_18 a0_19 a0_20))) else (impl_RuleOk.j0 k true a0_0 a0_1 a0_2 a0_3 a0_4 a0_5 a0_6 a0_7 a0_8 a0_9 a0_10 a0_11 a0_12 a0_13 a0_14 a0_15 a0_16 a0_17 a0_18 a0_19 a0_20))) else (impl_RuleOk.j0 k true a0_0 a0_1 a0_2 a0_3 a0_4 a0_5 a0_6 a0_7 a0_8 a0_9 a0_10 a0_11 a0_12 a0_13 a0_14 a0_15 a0_16 a0_17 a0_18 a0_19 a0_20))) else (impl_RuleOk.j0 k true a0_0 a0_1 a0_2 a0_3 a0_4 a0_5 a0_6 a0_7 a0_8 a0_9 a0_10 a0_11 a0_12 a0_13 a0_14 a0_15 a0_16 a0_17 a0_18 a0_19 a0_20))) else (impl_RuleOk.j0 k true a0_0 a0_1 a0_2 a0_3 a0_4 a0_5 a0_6 a0_7 a0_8 a0_9 a0_10 a0_11 a0_12 a0_13 a0_14 a0_15 a0_16 a0_17 a0_18 a0_19 a0_20)) = some r := H
  have A4 := Gv.a0 A40
  clear A40
  by_cases c5 : t372 = true
  ·subst c5
   have H1 : ((impl_PrefixOk.f k a0_1 a0_2 a0_3 a0_4 a0_5 a0_6).bind fun t373 => (if t373 = true then ((impl_PrefixOk.f k a0_7 a0_8 a0_9 a0_10 a0_11 a0_12).bind fun t374 => (if t374 = true then ((impl_within.f a0_13 (-1) 255).bind fun t375 => (if t375 = true then ((impl_isRange.f a0_14 a0_15).bind fun t376 => (if t376 = true then ((impl_isRange.f a0_16 a0_17).bind fun t377 => (impl_RuleOk.j0 k (!t377) a0_0 a0_1 a0_2 a0_3 a0_4 a0_5 a0_6 a0_7 a0_8 a0_9 a0_10 a0_11 a0_12 a0_13 a0_14 a0_15 a0_16 a0_17 a0_18 a0_19 a0_20)) else (impl_RuleOk.j0 k true a0_0 a0_1 a0_2 a0_3 a0_4 a0_5 a0_6 a0_7 a0_8 a0_9 a0_10 a0_11 a0_12 a0_13 a0_14 a0_15 a0_16 a0_17 a0_18 a0_19 a0_20))) else (impl_RuleOk.j0 k true a0_0 a0_1 a0_2 a0_3 a0_4 a0_5 a0_6 a0_7 a0_8 a0_9 a0_10 a0_11 a0_12 a0_13 a0_14 a0_15 a0_16 a0_17 a0_18 a0_19 a0_20))) else (impl_RuleOk.j0 k true a0_0 a0_1 a0_2 a0_3 a0_4 a0_5 a0_6 a0_7 a0_8 a0_9 a0_10 a0_11 a0_12 a0_13 a0_14 a0_15 a0_16 a0_17 a0_18 a0_19 a0_20))) else (impl_RuleOk.j0 k true a0_0 a0_1 a0_2 a0_3 a0_4 a0_5 a0_6 a0_7 a0_8 a0_9 a0_10 a0_11 a0_12 a0_13 a0_14 a0_15 a0_16 a0_17 a0_18 a0_19 a0_20))) = some r := by rw [if_pos rfl] at H; exact H
   clear H
   have H := H1
   clear H1
   replace H := Option.bind_eq_some_iff.mp H
   obtain ⟨t373, A60, H⟩ := H
   replace H : (if t373 = true then ((impl_PrefixOk.f k a0_7 a0_8 a0_9 a0_10 a0_11 a0_12).bind fun t374 => (if t374 = true then ((impl_within.f a0_13 (-1) 255).bind fun t375 => (if t375 = true then ((impl_isRange.f a0_14 a0_15).bind fun t376 => (if t376 = true then ((impl_isRange.f a0_16 a0_17).bind fun t377 => (impl_RuleOk.j0 k (!t377) a0_0 a0_1 a0_2 a0_3 a0_4 a0_5 a0_6 a0_7 a0_8 a0_9 a0_10 a0_11 a0_12 a0_13 a0_14 a0_15 a0_16 a0_17 a0_18 a0_19 a0_20)) else (impl_RuleOk.j0 k true a0_0 a0_1 a0_2 a0_3 a0_4 a0_5 a0_6 a0_7 a0_8 a0_9 a0_10 a0_11 a0_12 a0_13 a0_14 a0_15 a0_16 a0_17 a0_18 a0_19 a0_20))) else (impl_RuleOk.j0 k true a0_0 a0_1 a0_2 a0_3 a0_4 a0_5 a0_6 a0_7 a0_8 a0_9 a0_10 a0_11 a0_12 a0_13 a0_14 a0_15 a0_16 a0_17 a0_18 a0_19 a0_20))) else (impl_RuleOk.j0 k true a0_0 a0_1 a0_2 a0_3 a0_4 a0_5 a0_6 a0_7 a0_8 a0_9 a0_10 a0_11 a0_12 a0_13 a0_14 a0_15 a0_16 a0_17 a0_18 a0_19 a0_20))) else (impl_RuleOk.j0 k true a0_0 a0_1 a0_2 a0_3 a0_4 a0_5 a0_6 a0_7 a0_8 a0_9 a0_10 a0_11 a0_12 a0_13 a0_14 a0_15 a0_16 a0_17 a0_18 a0_19 a0_20)) = some r := H
   have A6 := Gv.a0 A60
   clear A60
   by_cases c7 : t373 = true
   ·subst c7
    have H1 : ((impl_PrefixOk.f k a0_7 a0_8 a0_9 a0_10 a0_11 a0_12).bind fun t374 => (if t374 = true then ((impl_within.f a0_13 (-1) 255).bind fun t375 => (if t375 = true then ((impl_isRange.f a0_14 a0_15).bind fun t376 => (if t376 = true then ((impl_isRange.f a0_16 a0_17).bind fun t377 => (impl_RuleOk.j0 k (!t377) a0_0 a0_1 a0_2 a0_3 a0_4 a0_5 a0_6 a0_7 a0_8 a0_9 a0_10 a0_11 a0_12 a0_13 a0_14 a0_15 a0_16 a0_17 a0_18 a0_19 a0_20)) else (impl_RuleOk.j0 k true a0_0 a0_1 a0_2 a0_3 a0_4 a0_5 a0_6 a0_7 a0_8 a0_9 a0_10 a0_11 a0_12 a0_13 a0_14 a0_15 a0_16 a0_17 a0_18 a0_19 a0_20))) else (impl_RuleOk.j0 k true a0_0 a0_1 a0_2 a0_3 a0_4 a0_5 a0_6 a0_7 a0_8 a0_9 a0_10 a0_11 a0_12 a0_13 a0_14 a0_15 a0_16 a0_17 a0_18 a0_19 a0_20))) else (impl_RuleOk.j0 k true a0_0 a0_1 a0_2 a0_3 a0_4 a0_5 a0_6 a0_7 a0_8 a0_9 a0_10 a0_11 a0_12 a0_13 a0_14 a0_15 a0_16 a0_17 a0_18 a0_19 a0_20))) = some r := by rw [if_pos rfl] at H; exact H
    clear H
    have H := H1
    clear H1
    replace H := Option.bind_eq_some_iff.mp H
    obtain ⟨t374, A80, H⟩ := H
    replace H : (if t374 = true then ((impl_within.f a0_13 (-1) 255).bind fun t375 => (if t375 = true then ((impl_isRange.f a0_14 a0_15).bind fun t376 => (if t376 = true then ((impl_isRange.f a0_16 a0_17).bind fun t377 => (impl_RuleOk.j0 k (!t377) a0_0 a0_1 a0_2 a0_3 a0_4 a0_5 a0_6 a0_7 a0_8 a0_9 a0_10 a0_11 a0_12 a0_13 a0_14 a0_15 a0_16 a0_17 a0_18 a0_19 a0_20)) else (impl_RuleOk.j0 k true a0_0 a0_1 a0_2 a0_3 a0_4 a0_5 a0_6 a0_7 a0_8 a0_9 a0_10 a0_11 a0_12 a0_13 a0_14 a0_15 a0_16 a0_17 a0_18 a0_19 a0_20))) else (impl_RuleOk.j0 k true a0_0 a0_1 a0_2 a0_3 a0_4 a0_5 a0_6 a0_7 a0_8 a0_9 a0_10 a0_11 a0_12 a0_13 a0_14 a0_15 a0_16 a0_17 a0_18 a0_19 a0_20))) else (impl_RuleOk.j0 k true a0_0 a0_1 a0_2 a0_3 a0_4 a0_5 a0_6 a0_7 a0_8 a0_9 a0_10 a0_11 a0_12 a0_13 a0_14 a0_15 a0_16 a0_17 a0_18 a0_19 a0_20)) = some r := H
    have A8 := Gv.a0 A80
    clear A80
    by_cases c9 : t374 = true
    ·subst c9
     have H1 : ((impl_within.f a0_13 (-1) 255).bind fun t375 => (if t375 = true then ((impl_isRange.f a0_14 a0_15).bind fun t376 => (if t376 = true then ((impl_isRange.f a0_16 a0_17).bind fun t377 => (impl_RuleOk.j0 k (!t377) a0_0 a0_1 a0_2 a0_3 a0_4 a0_5 a0_6 a0_7 a0_8 a0_9 a0_10 a0_11 a0_12 a0_13 a0_14 a0_15 a0_16 a0_17 a0_18 a0_19 a0_20)) else (impl_RuleOk.j0 k true a0_0 a0_1 a0_2 a0_3 a0_4 a0_5 a0_6 a0_7 a0_8 a0_9 a0_10 a0_11 a0_12 a0_13 a0_14 a0_15 a0_16 a0_17 a0_18 a0_19 a0_20))) else (impl_RuleOk.j0 k true a0_0 a0_1 a0_2 a0_3 a0_4 a0_5 a0_6 a0_7 a0_8 a0_9 a0_10 a0_11 a0_12 a0_13 a0_14 a0_15 a0_16 a0_17 a0_18 a0_19 a0_20))) = some r := by rw [if_pos rfl] at H; exact H
     clear H
     have H := H1
     clear H1
     replace H := Option.bind_eq_some_iff.mp H
     obtain ⟨t375, A100, H⟩ := H
     replace H : (if t375 = true then ((impl_isRange.f a0_14 a0_15).bind fun t376 => (if t376 = true then ((impl_isRange.f a0_16 a0_17).bind fun t377 => (impl_RuleOk.j0 k (!t377) a0_0 a0_1 a0_2 a0_3 a0_4 a0_5 a0_6 a0_7 a0_8 a0_9 a0_10 a0_11 a0_12 a0_13 a0_14 a0_15 a0_16 a0_17 a0_18 a0_19 a0_20)) else (impl_RuleOk.j0 k true a0_0 a0_1 a0_2 a0_3 a0_4 a0_5 a0_6 a0_7 a0_8 a0_9 a0_10 a0_11 a0_12 a0_13 a0_14 a0_15 a0_16 a0_17 a0_18 a0_19 a0_20))) else (impl_RuleOk.j0 k true a0_0 a0_1 a0_2 a0_3 a0_4 a0_5 a0_6 a0_7 a0_8 a0_9 a0_10 a0_11 a0_12 a0_13 a0_14 a0_15 a0_16 a0_17 a0_18 a0_19 a0_20)) = some r := H
     have A10 := Gv.a0 A100
     clear A100
     by_cases c11 : t375 = true
     ·subst c11
      have H1 : ((impl_isRange.f a0_14 a0_15).bind fun t376 => (if t376 = true then ((impl_isRange.f a0_16 a0_17).bind fun t377 => (impl_RuleOk.j0 k (!t377) a0_0 a0_1 a0_2 a0_3 a0_4 a0_5 a0_6 a0_7 a0_8 a0_9 a0_10 a0_11 a0_12 a0_13 a0_14 a0_15 a0_16 a0_17 a0_18 a0_19 a0_20)) else (impl_RuleOk.j0 k true a0_0 a0_1 a0_2 a0_3 a0_4 a0_5 a0_6 a0_7 a0_8 a0_9 a0_10 a0_11 a0_12 a0_13 a0_14 a0_15 a0_16 a0_17 a0_18 a0_19 a0_20))) = some r := by rw [if_pos rfl] at H; exact H
      clear H
      have H := H1
      clear H1
      replace H := Option.bind_eq_some_iff.mp H
      obtain ⟨t376, A120, H⟩ := H
      replace H : (if t376 = true then ((impl_isRange.f a0_16 a0_17).bind fun t377 => (impl_RuleOk.j0 k (!t377) a0_0 a0_1 a0_2 a0_3 a0_4 a0_5 a0_6 a0_7 a0_8 a0_9 a0_10 a0_11 a0_12 a0_13 a0_14 a0_15 a0_16 a0_17 a0_18 a0_19 a0_20)) else (impl_RuleOk.j0 k true a0_0 a0_1 a0_2 a0_3 a0_4 a0_5 a0_6 a0_7 a0_8 a0_9 a0_10 a0_11 a0_12 a0_13 a0_14 a0_15 a0_16 a0_17 a0_18 a0_19 a0_20)) = some r := H
      have A12 := Gv.a0 A120
      clear A120
      by_cases c13 : t376 = true
      ·subst c13
       have H1 : ((impl_isRange.f a0_16 a0_17).bind fun t377 => (impl_RuleOk.j0 k (!t377) a0_0 a0_1 a0_2 a0_3 a0_4 a0_5 a0_6 a0_7 a0_8 a0_9 a0_10 a0_11 a0_12 a0_13 a0_14 a0_15 a0_16 a0_17 a0_18 a0_19 a0_20)) = some r := by rw [if_pos rfl] at H; exact H
       clear H
       have H := H1
       clear H1
       replace H := Option.bind_eq_some_iff.mp H
       obtain ⟨t377, A140, H⟩ := H
       replace H : (impl_RuleOk.j0 k (!t377) a0_0 a0_1 a0_2 a0_3 a0_4 a0_5 a0_6 a0_7 a0_8 a0_9 a0_10 a0_11 a0_12 a0_13 a0_14 a0_15 a0_16 a0_17 a0_18 a0_19 a0_20) = some r := H
       have A14 := Gv.a0 A140
       clear A140
       have H' := Gv.a0 H
       clear H
       obtain ⟨hcz15_0, hcz15_1, hcz15_2, hcz15_3, hcz15_4, hcz15_5, hcz15_6, hcz15_7, hcz15_8, hcz15_9, hcz15_10, hcz15_11, hcz15_12, hcz15_13, hcz15_14, hcz15_15, hcz15_16, hcz15_17, hcz15_18, hcz15_19, hcz15_20⟩ := Gv.c21 BK371.out
       go_wp2_with (first | ((with_reducible refine gate_callee (f := 46) rfl ?_); refine goesL_ (some 5) rfl rfl Try.func46 (by kernel_rfl) rfl #[.int .i64 a0_0, .int .i64 1, .int .i64 9999] rfl Gv.lm ?_; (with_reducible refine (impl_within.calls a0_0 1 9999 true _ A4.out).mono ?_); rintro e w' ⟨rfl, ⟨nd, rfl⟩⟩; refine ⟨_, rfl, ?_⟩) | (go_at_call 47; (with_reducible refine (impl_PrefixOk.calls k a0_1 a0_2 a0_3 a0_4 a0_5 a0_6 true _ A6.out).mono ?_); rintro e w16 ⟨rfl, hb⟩; have n0_ := Gv.a0 (Gv.bb BK371.out hb); have n1_ := Gv.a0 (below_step Gv.bw hb); clear BK371; clear HB; have BK371 := n0_; have HB := n1_; clear n0_ n1_; (try clear hb); (try clear hb2); (try clear hk); (try clear hi); obtain ⟨hcz17_0, hcz17_1, hcz17_2, hcz17_3, hcz17_4, hcz17_5, hcz17_6, hcz17_7, hcz17_8, hcz17_9, hcz17_10, hcz17_11, hcz17_12, hcz17_13, hcz17_14, hcz17_15, hcz17_16, hcz17_17, hcz17_18, hcz17_19, hcz17_20⟩ := Gv.c21 BK371.out) | (go_at_call 47; (with_reducible refine (impl_PrefixOk.calls k a0_7 a0_8 a0_9 a0_10 a0_11 a0_12 true _ A8.out).mono ?_); rintro e w18 ⟨rfl, hb⟩; have n0_ := Gv.a0 (Gv.bb BK371.out hb); have n1_ := Gv.a0 (below_step Gv.bw hb); clear BK371; clear HB; have BK371 := n0_; have HB := n1_; clear n0_ n1_; (try clear hb); (try clear hb2); (try clear hk); (try clear hi); obtain ⟨hcz19_0, hcz19_1, hcz19_2, hcz19_3, hcz19_4, hcz19_5, hcz19_6, hcz19_7, hcz19_8, hcz19_9, hcz19_10, hcz19_11, hcz19_12, hcz19_13, hcz19_14, hcz19_15, hcz19_16, hcz19_17, hcz19_18, hcz19_19, hcz19_20⟩ := Gv.c21 BK371.out) | (go_at_call 46; (with_reducible refine (impl_within.calls a0_13 (-1) 255 true _ A10.out).mono ?_); rintro e w' ⟨rfl, ⟨nd, rfl⟩⟩) | (go_at_call 48; (with_reducible refine (impl_isRange.calls a0_14 a0_15 true _ A12.out).mono ?_); rintro e w' ⟨rfl, ⟨nd, rfl⟩⟩) | (go_at_call 48; (with_reducible refine (impl_isRange.calls a0_16 a0_17 t377 _ A14.out).mono ?_); rintro e w' ⟨rfl, ⟨nd, rfl⟩⟩) | ((with_reducible refine Gv.gate_load (t := 55) rfl ?_); (try (refine gate_guard (by rfl) ?_; dsimp only)); refine wpList_load_row rfl 55 _ rfl gb371 rfl 55 _ _ _ (by first | exact Gv.kb0 BK371.out | exact Gv.kb1 (Gv.kb0 BK371.out)) Try.underlying55 rfl (by kernel_rfl) ?_))
       go_meet
       case rel => exact ⟨_, (!t377), Gv.rq, H', ⟨by first | omega | exact Nat.le_refl _⟩, ⟨by (with_reducible repeat (first | refine blk_drewN ?_ _ | refine blk_drew ?_ | refine blk_alloc ?_ _)); exact BK371.out⟩, ⟨Gv.bw⟩⟩
      ·replace c13 := Bool.eq_false_iff.mpr c13
       subst c13
       have H1 : (impl_RuleOk.j0 k true a0_0 a0_1 a0_2 a0_3 a0_4 a0_5 a0_6 a0_7 a0_8 a0_9 a0_10 a0_11 a0_12 a0_13 a0_14 a0_15 a0_16 a0_17 a0_18 a0_19 a0_20) = some r := by rw [if_neg (show ¬ (false = true) by decide)] at H; exact H
       clear H
       have H := H1
       clear H1
       have H' := Gv.a0 H
       clear H
       obtain ⟨hcz20_0, hcz20_1, hcz20_2, hcz20_3, hcz20_4, hcz20_5, hcz20_6, hcz20_7, hcz20_8, hcz20_9, hcz20_10, hcz20_11, hcz20_12, hcz20_13, hcz20_14, hcz20_15, hcz20_16, hcz20_17, hcz20_18, hcz20_19, hcz20_20⟩ := Gv.c21 BK371.out
       go_wp2_with (first | ((with_reducible refine gate_callee (f := 46) rfl ?_); refine goesL_ (some 5) rfl rfl Try.func46 (by kernel_rfl) rfl #[.int .i64 a0_0, .int .i64 1, .int .i64 9999] rfl Gv.lm ?_; (with_reducible refine (impl_within.calls a0_0 1 9999 true _ A4.out).mono ?_); rintro e w' ⟨rfl, ⟨nd, rfl⟩⟩; refine ⟨_, rfl, ?_⟩) | (go_at_call 47; (with_reducible refine (impl_PrefixOk.calls k a0_1 a0_2 a0_3 a0_4 a0_5 a0_6 true _ A6.out).mono ?_); rintro e w21 ⟨rfl, hb⟩; have n0_ := Gv.a0 (Gv.bb BK371.out hb); have n1_ := Gv.a0 (below_step Gv.bw hb); clear BK371; clear HB; have BK371 := n0_; have HB := n1_; clear n0_ n1_; (try clear hb); (try clear hb2); (try clear hk); (try clear hi); obtain ⟨hcz22_0, hcz22_1, hcz22_2, hcz22_3, hcz22_4, hcz22_5, hcz22_6, hcz22_7, hcz22_8, hcz22_9, hcz22_10, hcz22_11, hcz22_12, hcz22_13, hcz22_14, hcz22_15, hcz22_16, hcz22_17, hcz22_18, hcz22_19, hcz22_20⟩ := Gv.c21 BK371.out) | (go_at_call 47; (with_reducible refine (impl_PrefixOk.calls k a0_7 a0_8 a0_9 a0_10 a0_11 a0_12 true _ A8.out).mono ?_); rintro e w23 ⟨rfl, hb⟩; have n0_ := Gv.a0 (Gv.bb BK371.out hb); have n1_ := Gv.a0 (below_step Gv.bw hb); clear BK371; clear HB; have BK371 := n0_; have HB := n1_; clear n0_ n1_; (try clear hb); (try clear hb2); (try clear hk); (try clear hi); obtain ⟨hcz24_0, hcz24_1, hcz24_2, hcz24_3, hcz24_4, hcz24_5, hcz24_6, hcz24_7, hcz24_8, hcz24_9, hcz24_10, hcz24_11, hcz24_12, hcz24_13, hcz24_14, hcz24_15, hcz24_16, hcz24_17, hcz24_18, hcz24_19, hcz24_20⟩ := Gv.c21 BK371.out) | (go_at_call 46; (with_reducible refine (impl_within.calls a0_13 (-1) 255 true _ A10.out).mono ?_); rintro e w' ⟨rfl, ⟨nd, rfl⟩⟩) | (go_at_call 48; (with_reducible refine (impl_isRange.calls a0_14 a0_15 false _ A12.out).mono ?_); rintro e w' ⟨rfl, ⟨nd, rfl⟩⟩) | ((with_reducible refine Gv.gate_load (t := 55) rfl ?_); (try (refine gate_guard (by rfl) ?_; dsimp only)); refine wpList_load_row rfl 55 _ rfl gb371 rfl 55 _ _ _ (by first | exact Gv.kb0 BK371.out | exact Gv.kb1 (Gv.kb0 BK371.out)) Try.underlying55 rfl (by kernel_rfl) ?_))
       go_meet
       case rel => exact ⟨_, (true), Gv.rq, H', ⟨by first | omega | exact Nat.le_refl _⟩, ⟨by (with_reducible repeat (first | refine blk_drewN ?_ _ | refine blk_drew ?_ | refine blk_alloc ?_ _)); exact BK371.out⟩, ⟨Gv.bw⟩⟩
     ·replace c11 := Bool.eq_false_iff.mpr c11
      subst c11
      have H1 : (impl_RuleOk.j0 k true a0_0 a0_1 a0_2 a0_3 a0_4 a0_5 a0_6 a0_7 a0_8 a0_9 a0_10 a0_11 a0_12 a0_13 a0_14 a0_15 a0_16 a0_17 a0_18 a0_19 a0_20) = some r := by rw [if_neg (show ¬ (false = true) by decide)] at H; exact H
      clear H
      have H := H1
      clear H1
      have H' := Gv.a0 H
      clear H
      obtain ⟨hcz25_0, hcz25_1, hcz25_2, hcz25_3, hcz25_4, hcz25_5, hcz25_6, hcz25_7, hcz25_8, hcz25_9, hcz25_10, hcz25_11, hcz25_12, hcz25_13, hcz25_14, hcz25_15, hcz25_16, hcz25_17, hcz25_18, hcz25_19, hcz25_20⟩ := Gv.c21 BK371.out
      go_wp2_with (first | ((with_reducible refine gate_callee (f := 46) rfl ?_); refine goesL_ (some 5) rfl rfl Try.func46 (by kernel_rfl) rfl #[.int .i64 a0_0, .int .i64 1, .int .i64 9999] rfl Gv.lm ?_; (with_reducible refine (impl_within.calls a0_0 1 9999 true _ A4.out).mono ?_); rintro e w' ⟨rfl, ⟨nd, rfl⟩⟩; refine ⟨_, rfl, ?_⟩) | (go_at_call 47; (with_reducible refine (impl_PrefixOk.calls k a0_1 a0_2 a0_3 a0_4 a0_5 a0_6 true _ A6.out).mono ?_); rintro e w26 ⟨rfl, hb⟩; have n0_ := Gv.a0 (Gv.bb BK371.out hb); have n1_ := Gv.a0 (below_step Gv.bw hb); clear BK371; clear HB; have BK371 := n0_; have HB := n1_; clear n0_ n1_; (try clear hb); (try clear hb2); (try clear hk); (try clear hi); obtain ⟨hcz27_0, hcz27_1, hcz27_2, hcz27_3, hcz27_4, hcz27_5, hcz27_6, hcz27_7, hcz27_8, hcz27_9, hcz27_10, hcz27_11, hcz27_12, hcz27_13, hcz27_14, hcz27_15, hcz27_16, hcz27_17, hcz27_18, hcz27_19, hcz27_20⟩ := Gv.c21 BK371.out) | (go_at_call 47; (with_reducible refine (impl_PrefixOk.calls k a0_7 a0_8 a0_9 a0_10 a0_11 a0_12 true _ A8.out).mono ?_); rintro e w28 ⟨rfl, hb⟩; have n0_ := Gv.a0 (Gv.bb BK371.out hb); have n1_ := Gv.a0 (below_step Gv.bw hb); clear BK371; clear HB; have BK371 := n0_; have HB := n1_; clear n0_ n1_; (try clear hb); (try clear hb2); (try clear hk); (try clear hi); obtain ⟨hcz29_0, hcz29_1, hcz29_2, hcz29_3, hcz29_4, hcz29_5, hcz29_6, hcz29_7, hcz29_8, hcz29_9, hcz29_10, hcz29_11, hcz29_12, hcz29_13, hcz29_14, hcz29_15, hcz29_16, hcz29_17, hcz29_18, hcz29_19, hcz29_20⟩ := Gv.c21 BK371.out) | (go_at_call 46; (with_reducible refine (impl_within.calls a0_13 (-1) 255 false _ A10.out).mono ?_); rintro e w' ⟨rfl, ⟨nd, rfl⟩⟩) | ((with_reducible refine Gv.gate_load (t := 55) rfl ?_); (try (refine gate_guard (by rfl) ?_; dsimp only)); refine wpList_load_row rfl 55 _ rfl gb371 rfl 55 _ _ _ (by first | exact Gv.kb0 BK371.out | exact Gv.kb1 (Gv.kb0 BK371.out)) Try.underlying55 rfl (by kernel_rfl) ?_))
      go_meet
      case rel => exact ⟨_, (true), Gv.rq, H', ⟨by first | omega | exact Nat.le_refl _⟩, ⟨by (with_reducible repeat (first | refine blk_drewN ?_ _ | refine blk_drew ?_ | refine blk_alloc ?_ _)); exact BK371.out⟩, ⟨Gv.bw⟩⟩
    ·replace c9 := Bool.eq_false_iff.mpr c9
     subst c9
     have H1 : (impl_RuleOk.j0 k true a0_0 a0_1 a0_2 a0_3 a0_4 a0_5 a0_6 a0_7 a0_8 a0_9 a0_10 a0_11 a0_12 a0_13 a0_14 a0_15 a0_16 a0_17 a0_18 a0_19 a0_20) = some r := by rw [if_neg (show ¬ (false = true) by decide)] at H; exact H
     clear H
     have H := H1
     clear H1
     have H' := Gv.a0 H
     clear H
     obtain ⟨hcz30_0, hcz30_1, hcz30_2, hcz30_3, hcz30_4, hcz30_5, hcz30_6, hcz30_7, hcz30_8, hcz30_9, hcz30_10, hcz30_11, hcz30_12, hcz30_13, hcz30_14, hcz30_15, hcz30_16, hcz30_17, hcz30_18, hcz30_19, hcz30_20⟩ := Gv.c21 BK371.out
     go_wp2_with (first | ((with_reducible refine gate_callee (f := 46) rfl ?_); refine goesL_ (some 5) rfl rfl Try.func46 (by kernel_rfl) rfl #[.int .i64 a0_0, .int .i64 1, .int .i64 9999] rfl Gv.lm ?_; (with_reducible refine (impl_within.calls a0_0 1 9999 true _ A4.out).mono ?_); rintro e w' ⟨rfl, ⟨nd, rfl⟩⟩; refine ⟨_, rfl, ?_⟩) | (go_at_call 47; (with_reducible refine (impl_PrefixOk.calls k a0_1 a0_2 a0_3 a0_4 a0_5 a0_6 true _ A6.out).mono ?_); rintro e w31 ⟨rfl, hb⟩; have n0_ := Gv.a0 (Gv.bb BK371.out hb); have n1_ := Gv.a0 (below_step Gv.bw hb); clear BK371; clear HB; have BK371 := n0_; have HB := n1_; clear n0_ n1_; (try clear hb); (try clear hb2); (try clear hk); (try clear hi); obtain ⟨hcz32_0, hcz32_1, hcz32_2, hcz32_3, hcz32_4, hcz32_5, hcz32_6, hcz32_7, hcz32_8, hcz32_9, hcz32_10, hcz32_11, hcz32_12, hcz32_13, hcz32_14, hcz32_15, hcz32_16, hcz32_17, hcz32_18, hcz32_19, hcz32_20⟩ := Gv.c21 BK371.out) | (go_at_call 47; (with_reducible refine (impl_PrefixOk.calls k a0_7 a0_8 a0_9 a0_10 a0_11 a0_12 false _ A8.out).mono ?_); rintro e w33 ⟨rfl, hb⟩; have n0_ := Gv.a0 (Gv.bb BK371.out hb); have n1_ := Gv.a0 (below_step Gv.bw hb); clear BK371; clear HB; have BK371 := n0_; have HB := n1_; clear n0_ n1_; (try clear hb); (try clear hb2); (try clear hk); (try clear hi)) | ((with_reducible refine Gv.gate_load (t := 55) rfl ?_); (try (refine gate_guard (by rfl) ?_; dsimp only)); refine wpList_load_row rfl 55 _ rfl gb371 rfl 55 _ _ _ (by first | exact Gv.kb0 BK371.out | exact Gv.kb1 (Gv.kb0 BK371.out)) Try.underlying55 rfl (by kernel_rfl) ?_))
     go_meet
     case rel => exact ⟨_, (true), Gv.rq, H', ⟨by first | omega | exact Nat.le_refl _⟩, ⟨by (with_reducible repeat (first | refine blk_drewN ?_ _ | refine blk_drew ?_ | refine blk_alloc ?_ _)); exact BK371.out⟩, ⟨Gv.bw⟩⟩
   ·replace c7 := Bool.eq_false_iff.mpr c7
    subst c7
    have H1 : (impl_RuleOk.j0 k true a0_0 a0_1 a0_2 a0_3 a0_4 a0_5 a0_6 a0_7 a0_8 a0_9 a0_10 a0_11 a0_12 a0_13 a0_14 a0_15 a0_16 a0_17 a0_18 a0_19 a0_20) = some r := by rw [if_neg (show ¬ (false = true) by decide)] at H; exact H
    clear H
    have H := H1
    clear H1
    have H' := Gv.a0 H
    clear H
    obtain ⟨hcz34_0, hcz34_1, hcz34_2, hcz34_3, hcz34_4, hcz34_5, hcz34_6, hcz34_7, hcz34_8, hcz34_9, hcz34_10, hcz34_11, hcz34_12, hcz34_13, hcz34_14, hcz34_15, hcz34_16, hcz34_17, hcz34_18, hcz34_19, hcz34_20⟩ := Gv.c21 BK371.out
    go_wp2_with (first | ((with_reducible refine gate_callee (f := 46) rfl ?_); refine goesL_ (some 5) rfl rfl Try.func46 (by kernel_rfl) rfl #[.int .i64 a0_0, .int .i64 1, .int .i64 9999] rfl Gv.lm ?_; (with_reducible refine (impl_within.calls a0_0 1 9999 true _ A4.out).mono ?_); rintro e w' ⟨rfl, ⟨nd, rfl⟩⟩; refine ⟨_, rfl, ?_⟩) | (go_at_call 47; (with_reducible refine (impl_PrefixOk.calls k a0_1 a0_2 a0_3 a0_4 a0_5 a0_6 false _ A6.out).mono ?_); rintro e w35 ⟨rfl, hb⟩; have n0_ := Gv.a0 (Gv.bb BK371.out hb); have n1_ := Gv.a0 (below_step Gv.bw hb); clear BK371; clear HB; have BK371 := n0_; have HB := n1_; clear n0_ n1_; (try clear hb); (try clear hb2); (try clear hk); (try clear hi)) | ((with_reducible refine Gv.gate_load (t := 55) rfl ?_); (try (refine gate_guard (by rfl) ?_; dsimp only)); refine wpList_load_row rfl 55 _ rfl gb371 rfl 55 _ _ _ (by first | exact Gv.kb0 BK371.out | exact Gv.kb1 (Gv.kb0 BK371.out)) Try.underlying55 rfl (by kernel_rfl) ?_))
    go_meet
    case rel => exact ⟨_, (true), Gv.rq, H', ⟨by first | omega | exact Nat.le_refl _⟩, ⟨by (with_reducible repeat (first | refine blk_drewN ?_ _ | refine blk_drew ?_ | refine blk_alloc ?_ _)); exact BK371.out⟩, ⟨Gv.bw⟩⟩
  ·replace c5 := Bool.eq_false_iff.mpr c5
   subst c5
   have H1 : (impl_RuleOk.j0 k true a0_0 a0_1 a0_2 a0_3 a0_4 a0_5 a0_6 a0_7 a0_8 a0_9 a0_10 a0_11 a0_12 a0_13 a0_14 a0_15 a0_16 a0_17 a0_18 a0_19 a0_20) = some r := by rw [if_neg (show ¬ (false = true) by decide)] at H; exact H
   clear H
   have H := H1
   clear H1
   have H' := Gv.a0 H
   clear H
   obtain ⟨hcz36_0, hcz36_1, hcz36_2, hcz36_3, hcz36_4, hcz36_5, hcz36_6, hcz36_7, hcz36_8, hcz36_9, hcz36_10, hcz36_11, hcz36_12, hcz36_13, hcz36_14, hcz36_15, hcz36_16, hcz36_17, hcz36_18, hcz36_19, hcz36_20⟩ := Gv.c21 BK371.out
   go_wp2_with (first | ((with_reducible refine gate_callee (f := 46) rfl ?_); refine goesL_ (some 5) rfl rfl Try.func46 (by kernel_rfl) rfl #[.int .i64 a0_0, .int .i64 1, .int .i64 9999] rfl Gv.lm ?_; (with_reducible refine (impl_within.calls a0_0 1 9999 false _ A4.out).mono ?_); rintro e w' ⟨rfl, ⟨nd, rfl⟩⟩; refine ⟨_, rfl, ?_⟩) | ((with_reducible refine Gv.gate_load (t := 55) rfl ?_); (try (refine gate_guard (by rfl) ?_; dsimp only)); refine wpList_load_row rfl 55 _ rfl gb371 rfl 55 _ _ _ (by first | exact Gv.kb0 BK371.out | exact Gv.kb1 (Gv.kb0 BK371.out)) Try.underlying55 rfl (by kernel_rfl) ?_))
   go_meet
   case rel => exact ⟨_, (true), Gv.rq, H', ⟨by first | omega | exact Nat.le_refl _⟩, ⟨by (with_reducible repeat (first | refine blk_drewN ?_ _ | refine blk_drew ?_ | refine blk_alloc ?_ _)); exact BK371.out⟩, ⟨Gv.bw⟩⟩
 case rest =>
  clear HC2
  try clear c1
  try clear c2
  try clear p2
  try clear c4
  try clear c5
  try clear c7
  try clear c9
  try clear c11
  try clear c13
  try clear c29
  try clear hcz15_0 hcz15_1
  try clear hcz15_10 hcz15_11 hcz15_12 hcz15_13 hcz15_14 hcz15_15 hcz15_16 hcz15_17 hcz15_18 hcz15_19
  try clear hcz15_2
  try clear hcz15_20
  try clear hcz15_3 hcz15_4 hcz15_5 hcz15_6 hcz15_7 hcz15_8 hcz15_9
  try clear hcz17_0 hcz17_1
  try clear hcz17_10 hcz17_11 hcz17_12 hcz17_13 hcz17_14 hcz17_15 hcz17_16 hcz17_17 hcz17_18 hcz17_19
  try clear hcz17_2
  try clear hcz17_20
  try clear hcz17_3 hcz17_4 hcz17_5 hcz17_6 hcz17_7 hcz17_8 hcz17_9
  try clear hcz19_0 hcz19_1
  try clear hcz19_10 hcz19_11 hcz19_12 hcz19_13 hcz19_14 hcz19_15 hcz19_16 hcz19_17 hcz19_18 hcz19_19
  try clear hcz19_2
  try clear hcz19_20
  try clear hcz19_3 hcz19_4 hcz19_5 hcz19_6 hcz19_7 hcz19_8 hcz19_9
  try clear hcz20_0 hcz20_1
  try clear hcz20_10 hcz20_11 hcz20_12 hcz20_13 hcz20_14 hcz20_15 hcz20_16 hcz20_17 hcz20_18 hcz20_19
  try clear hcz20_2
  try clear hcz20_20
  try clear hcz20_3 hcz20_4 hcz20_5 hcz20_6 hcz20_7 hcz20_8 hcz20_9
  try clear hcz22_0 hcz22_1
  try clear hcz22_10 hcz22_11 hcz22_12 hcz22_13 hcz22_14 hcz22_15 hcz22_16 hcz22_17 hcz22_18 hcz22_19
  try clear hcz22_2
  try clear hcz22_20
  try clear hcz22_3 hcz22_4 hcz22_5 hcz22_6 hcz22_7 hcz22_8 hcz22_9
  try clear hcz24_0 hcz24_1
  try clear hcz24_10 hcz24_11 hcz24_12 hcz24_13 hcz24_14 hcz24_15 hcz24_16 hcz24_17 hcz24_18 hcz24_19
  try clear hcz24_2
  try clear hcz24_20
  try clear hcz24_3 hcz24_4 hcz24_5 hcz24_6 hcz24_7 hcz24_8 hcz24_9
  try clear hcz25_0 hcz25_1
  try clear hcz25_10 hcz25_11 hcz25_12 hcz25_13 hcz25_14 hcz25_15 hcz25_16 hcz25_17 hcz25_18 hcz25_19
  try clear hcz25_2
  try clear hcz25_20
  try clear hcz25_3 hcz25_4 hcz25_5 hcz25_6 hcz25_7 hcz25_8 hcz25_9
  try clear hcz27_0 hcz27_1
  try clear hcz27_10 hcz27_11 hcz27_12 hcz27_13 hcz27_14 hcz27_15 hcz27_16 hcz27_17 hcz27_18 hcz27_19
  try clear hcz27_2
  try clear hcz27_20
  try clear hcz27_3 hcz27_4 hcz27_5 hcz27_6 hcz27_7 hcz27_8 hcz27_9
  try clear hcz29_0 hcz29_1
  try clear hcz29_10 hcz29_11 hcz29_12 hcz29_13 hcz29_14 hcz29_15 hcz29_16 hcz29_17 hcz29_18 hcz29_19
  try clear hcz29_2
  try clear hcz29_20
  try clear hcz29_3 hcz29_4 hcz29_5 hcz29_6 hcz29_7 hcz29_8 hcz29_9
  try clear hcz30_0 hcz30_1
  try clear hcz30_10 hcz30_11 hcz30_12 hcz30_13 hcz30_14 hcz30_15 hcz30_16 hcz30_17 hcz30_18 hcz30_19
  try clear hcz30_2
  try clear hcz30_20
  try clear hcz30_3 hcz30_4 hcz30_5 hcz30_6 hcz30_7 hcz30_8 hcz30_9
  try clear hcz32_0 hcz32_1
  try clear hcz32_10 hcz32_11 hcz32_12 hcz32_13 hcz32_14 hcz32_15 hcz32_16 hcz32_17 hcz32_18 hcz32_19
  try clear hcz32_2
  try clear hcz32_20
  try clear hcz32_3 hcz32_4 hcz32_5 hcz32_6 hcz32_7 hcz32_8 hcz32_9
  try clear hcz34_0 hcz34_1
  try clear hcz34_10 hcz34_11 hcz34_12 hcz34_13 hcz34_14 hcz34_15 hcz34_16 hcz34_17 hcz34_18 hcz34_19
  try clear hcz34_2
  try clear hcz34_20
  try clear hcz34_3 hcz34_4 hcz34_5 hcz34_6 hcz34_7 hcz34_8 hcz34_9
  try clear hcz36_0 hcz36_1
  try clear hcz36_10 hcz36_11 hcz36_12 hcz36_13 hcz36_14 hcz36_15 hcz36_16 hcz36_17 hcz36_18 hcz36_19
  try clear hcz36_2
  try clear hcz36_20
  try clear hcz36_3 hcz36_4 hcz36_5 hcz36_6 hcz36_7 hcz36_8 hcz36_9
  obtain ⟨kq, x40_1, rfl, HA, HJ1, BK371, HB⟩ := hcut
  cases kq with
  | zero => exact absurd HA.out (by simp [impl_RuleOk.j0])
  | succ kj1 =>
   have H := HA.out
   clear HA
   simp only [impl_RuleOk.j0] at H
   by_cases c37 : x40_1 = true
   ·subst c37
    have H1 : (some false) = some r := by rw [if_pos rfl] at H; exact H
    clear H
    have H := H1
    clear H1
    obtain rfl := Option.some.inj H
    go_wp2_with (first | ((with_reducible refine Gv.gate_load (t := 55) rfl ?_); (try (refine gate_guard (by rfl) ?_; dsimp only)); refine wpList_load_row rfl 55 _ rfl gb371 rfl 55 _ _ _ (by first | exact Gv.kb0 BK371.out | exact Gv.kb1 (Gv.kb0 BK371.out)) Try.underlying55 rfl (by kernel_rfl) ?_))
    go_ret
    exact ⟨Gv.rt, Gv.bw⟩
   ·replace c37 := Bool.eq_false_iff.mpr c37
    subst c37
    have H1 : ((impl_within.f a0_18 1 8).bind fun t378 => (if t378 = true then ((impl_within.f a0_19 1 10).bind fun t379 => (if t379 = true then ((impl_within.f a0_20 1 8).bind fun t380 => (some t380)) else (some false))) else (some false))) = some r := by rw [if_neg (show ¬ (false = true) by decide)] at H; exact H
    clear H
    have H := H1
    clear H1
    replace H := Option.bind_eq_some_iff.mp H
    obtain ⟨t378, A380, H⟩ := H
    replace H : (if t378 = true then ((impl_within.f a0_19 1 10).bind fun t379 => (if t379 = true then ((impl_within.f a0_20 1 8).bind fun t380 => (some t380)) else (some false))) else (some false)) = some r := H
    have A38 := Gv.a0 A380
    clear A380
    by_cases c39 : t378 = true
    ·subst c39
     have H1 : ((impl_within.f a0_19 1 10).bind fun t379 => (if t379 = true then ((impl_within.f a0_20 1 8).bind fun t380 => (some t380)) else (some false))) = some r := by rw [if_pos rfl] at H; exact H
     clear H
     have H := H1
     clear H1
     replace H := Option.bind_eq_some_iff.mp H
     obtain ⟨t379, A400, H⟩ := H
     replace H : (if t379 = true then ((impl_within.f a0_20 1 8).bind fun t380 => (some t380)) else (some false)) = some r := H
     have A40 := Gv.a0 A400
     clear A400
     by_cases c41 : t379 = true
     ·subst c41
      have H1 : ((impl_within.f a0_20 1 8).bind fun t380 => (some t380)) = some r := by rw [if_pos rfl] at H; exact H
      clear H
      have H := H1
      clear H1
      replace H := Option.bind_eq_some_iff.mp H
      obtain ⟨t380, A420, H⟩ := H
      replace H : (some t380) = some r := H
      have A42 := Gv.a0 A420
      clear A420
      obtain rfl := Option.some.inj H
      obtain ⟨hcz43_0, hcz43_1, hcz43_2, hcz43_3, hcz43_4, hcz43_5, hcz43_6, hcz43_7, hcz43_8, hcz43_9, hcz43_10, hcz43_11, hcz43_12, hcz43_13, hcz43_14, hcz43_15, hcz43_16, hcz43_17, hcz43_18, hcz43_19, hcz43_20⟩ := Gv.c21 BK371.out
      go_wp2_with (first | ((with_reducible refine gate_callee (f := 46) rfl ?_); refine goesL_ (some 43) rfl rfl Try.func46 (by kernel_rfl) rfl #[.int .i64 a0_18, .int .i64 1, .int .i64 8] rfl Gv.lm ?_; (with_reducible refine (impl_within.calls a0_18 1 8 true _ A38.out).mono ?_); rintro e w' ⟨rfl, ⟨nd, rfl⟩⟩; refine ⟨_, rfl, ?_⟩) | (go_at_call 46; (with_reducible refine (impl_within.calls a0_19 1 10 true _ A40.out).mono ?_); rintro e w' ⟨rfl, ⟨nd, rfl⟩⟩) | (go_at_call 46; (with_reducible refine (impl_within.calls a0_20 1 8 t380 _ A42.out).mono ?_); rintro e w' ⟨rfl, ⟨nd, rfl⟩⟩) | ((with_reducible refine Gv.gate_load (t := 55) rfl ?_); (try (refine gate_guard (by rfl) ?_; dsimp only)); refine wpList_load_row rfl 55 _ rfl gb371 rfl 55 _ _ _ (by first | exact Gv.kb0 BK371.out | exact Gv.kb1 (Gv.kb0 BK371.out)) Try.underlying55 rfl (by kernel_rfl) ?_))
      go_ret
      exact ⟨Gv.rt, Gv.bw⟩
     ·replace c41 := Bool.eq_false_iff.mpr c41
      subst c41
      have H1 : (some false) = some r := by rw [if_neg (show ¬ (false = true) by decide)] at H; exact H
      clear H
      have H := H1
      clear H1
      obtain rfl := Option.some.inj H
      obtain ⟨hcz44_0, hcz44_1, hcz44_2, hcz44_3, hcz44_4, hcz44_5, hcz44_6, hcz44_7, hcz44_8, hcz44_9, hcz44_10, hcz44_11, hcz44_12, hcz44_13, hcz44_14, hcz44_15, hcz44_16, hcz44_17, hcz44_18, hcz44_19, hcz44_20⟩ := Gv.c21 BK371.out
      go_wp2_with (first | ((with_reducible refine gate_callee (f := 46) rfl ?_); refine goesL_ (some 43) rfl rfl Try.func46 (by kernel_rfl) rfl #[.int .i64 a0_18, .int .i64 1, .int .i64 8] rfl Gv.lm ?_; (with_reducible refine (impl_within.calls a0_18 1 8 true _ A38.out).mono ?_); rintro e w' ⟨rfl, ⟨nd, rfl⟩⟩; refine ⟨_, rfl, ?_⟩) | (go_at_call 46; (with_reducible refine (impl_within.calls a0_19 1 10 false _ A40.out).mono ?_); rintro e w' ⟨rfl, ⟨nd, rfl⟩⟩) | ((with_reducible refine Gv.gate_load (t := 55) rfl ?_); (try (refine gate_guard (by rfl) ?_; dsimp only)); refine wpList_load_row rfl 55 _ rfl gb371 rfl 55 _ _ _ (by first | exact Gv.kb0 BK371.out | exact Gv.kb1 (Gv.kb0 BK371.out)) Try.underlying55 rfl (by kernel_rfl) ?_))
      go_ret
      exact ⟨Gv.rt, Gv.bw⟩
    ·replace c39 := Bool.eq_false_iff.mpr c39
     subst c39
     have H1 : (some false) = some r := by rw [if_neg (show ¬ (false = true) by decide)] at H; exact H
     clear H
     have H := H1
     clear H1
     obtain rfl := Option.some.inj H
     obtain ⟨hcz45_0, hcz45_1, hcz45_2, hcz45_3, hcz45_4, hcz45_5, hcz45_6, hcz45_7, hcz45_8, hcz45_9, hcz45_10, hcz45_11, hcz45_12, hcz45_13, hcz45_14, hcz45_15, hcz45_16, hcz45_17, hcz45_18, hcz45_19, hcz45_20⟩ := Gv.c21 BK371.out
     go_wp2_with (first | ((with_reducible refine gate_callee (f := 46) rfl ?_); refine goesL_ (some 43) rfl rfl Try.func46 (by kernel_rfl) rfl #[.int .i64 a0_18, .int .i64 1, .int .i64 8] rfl Gv.lm ?_; (with_reducible refine (impl_within.calls a0_18 1 8 false _ A38.out).mono ?_); rintro e w' ⟨rfl, ⟨nd, rfl⟩⟩; refine ⟨_, rfl, ?_⟩) | ((with_reducible refine Gv.gate_load (t := 55) rfl ?_); (try (refine gate_guard (by rfl) ?_; dsimp only)); refine wpList_load_row rfl 55 _ rfl gb371 rfl 55 _ _ _ (by first | exact Gv.kb0 BK371.out | exact Gv.kb1 (Gv.kb0 BK371.out)) Try.underlying55 rfl (by kernel_rfl) ?_))
     go_ret
     exact ⟨Gv.rt, Gv.bw⟩

/-! ### impl_RulesOk: function 11 -/
def impl_RulesOk.l0 : Nat → List (S55) → List (S55) → Int → Int → Option (Bool)
 | 0, _, _, _, _ => none
 | k + 1, x0, x5, x6, x7 => if x7 < x6 then (if 0 ≤ x7 then (if x7 < (x5.length : Int) then ((impl_RuleOk.f k ((rd_T55 x5 x7).f0) ((rd_T55 x5 x7).f1.f0.f0) ((rd_T55 x5 x7).f1.f0.f1) ((rd_T55 x5 x7).f1.f0.f2) ((rd_T55 x5 x7).f1.f0.f3) ((rd_T55 x5 x7).f1.f0.f4) ((rd_T55 x5 x7).f1.f1) ((rd_T55 x5 x7).f2.f0.f0) ((rd_T55 x5 x7).f2.f0.f1) ((rd_T55 x5 x7).f2.f0.f2) ((rd_T55 x5 x7).f2.f0.f3) ((rd_T55 x5 x7).f2.f0.f4) ((rd_T55 x5 x7).f2.f1) ((rd_T55 x5 x7).f3) ((rd_T55 x5 x7).f4) ((rd_T55 x5 x7).f5) ((rd_T55 x5 x7).f6) ((rd_T55 x5 x7).f7) ((rd_T55 x5 x7).f8) ((rd_T55 x5 x7).f9) ((rd_T55 x5 x7).f10)).bind fun t383 => (if t383 = true then (if x7 > 0 then (if 0 ≤ (wrap64 (x7 - 1)) then (if (wrap64 (x7 - 1)) < (x0.length : Int) then (if ((rd_T55 x0 (wrap64 (x7 - 1))).f0) ≥ ((rd_T55 x5 x7).f0) then (some false) else (impl_RulesOk.l0 k x0 x5 x6 (wrap64 (x7 + 1)))) else (none)) else (none)) else (impl_RulesOk.l0 k x0 x5 x6 (wrap64 (x7 + 1)))) else (some false))) else (none)) else (none)) else (some (decide ((x0.length : Int) ≤ 32)))
def impl_RulesOk.f (k : Nat) (l0 : List (S55)) : Option (Bool) := impl_RulesOk.l0 k l0 l0 (l0.length : Int) 0
theorem impl_RulesOk.mono_l : ∀ k, (∀ y0 y1 y2 y3, LeO (impl_RulesOk.l0 k y0 y1 y2 y3) (impl_RulesOk.l0 (k + 1) y0 y1 y2 y3))
 | 0 => fun _ _ _ _ r h => by simp [impl_RulesOk.l0] at h
 | k + 1 => by
  have ih0 := impl_RulesOk.mono_l k
  ·intro y0 y1 y2 y3
   unfold impl_RulesOk.l0
   repeat' first
   | (with_reducible exact ih0 _ _ _ _)
   | (with_reducible exact impl_RuleOk.mono _ _ _ _ _ _ _ _ _ _ _ _ _ _ _ _ _ _ _ _ _ _)
   | (with_reducible exact LeO.refl _)
   | (with_reducible exact LeO.none _)
   | (with_reducible refine LeO.ite ?_ ?_)
   | (with_reducible refine LeO.bind ?_ (fun _ => ?_))
   | exact ih0 _ _ _ _
   | exact impl_RuleOk.mono _ _ _ _ _ _ _ _ _ _ _ _ _ _ _ _ _ _ _ _ _ _
   | exact LeO.none _
   | refine LeO.ite ?_ ?_
   | refine LeO.bind ?_ (fun _ => ?_)
theorem impl_RulesOk.mono : ∀ a0 k, LeO (impl_RulesOk.f k a0) (impl_RulesOk.f (k + 1) a0) := by
 intro a0 k
 have ih0 := impl_RulesOk.mono_l k
 unfold impl_RulesOk.f
 repeat' first
   | (with_reducible exact ih0 _ _ _ _)
   | (with_reducible exact impl_RuleOk.mono _ _ _ _ _ _ _ _ _ _ _ _ _ _ _ _ _ _ _ _ _ _)
   | (with_reducible exact LeO.refl _)
   | (with_reducible exact LeO.none _)
   | (with_reducible refine LeO.ite ?_ ?_)
   | (with_reducible refine LeO.bind ?_ (fun _ => ?_))
   | exact ih0 _ _ _ _
   | exact impl_RuleOk.mono _ _ _ _ _ _ _ _ _ _ _ _ _ _ _ _ _ _ _ _ _ _
   | exact LeO.none _
   | refine LeO.ite ?_ ?_
   | refine LeO.bind ?_ (fun _ => ?_)
def impl_RulesOk.T4 : Bool × List (List Nat × List Nat) := (true, [([], []), ([0], [0]), ([1], [1]), ([2, 1], [2]), ([3], [3]), ([4, 3], [3, 4]), ([5, 3, 3], [3, 5]), ([6], [6]), ([6], [6]), ([8, 6], [6, 8]), ([7, 9, 6], [6, 7, 9]), ([10, 6], [6, 10]), ([11, 6], [6, 11]), ([6], [6]), ([13, 6], [6, 13]), ([12, 14, 6], [6, 12, 14]), ([6, 15, 3], [3, 6, 15]), ([3, 16], [3, 16])])
def impl_RulesOk.B4 : List Nat := [0, 1, 3, 7, 15, 31, 63, 127, 127, 383, 1023, 2047, 4095, 127, 8319, 32767, 65535, 131071]
theorem impl_RulesOk.tab4 : rtab .any (opsOf Try.f11 4) = impl_RulesOk.T4 := by kernel_rfl
theorem impl_RulesOk.bits4 : waitsOk impl_RulesOk.T4.2 impl_RulesOk.B4 = true := by kernel_rfl
set_option maxHeartbeats 8000000 in
set_option maxRecDepth 100000 in
theorem impl_RulesOk.calls (k : Nat) (A0 : Option Addr) (c0 : Nat) (l0 : List (S55)) (r : Bool) (w : World) (hr0 : Kd.C k55 w A0 l0.length l0) (hc0 : l0.length ≤ c0) (h : impl_RulesOk.f k l0 = some r) :
  Calls Try.prog 11 #[.slice A0 l0.length c0] w fun e w' => e = .returned (.bool r) ∧ Below w.heap.size w w' := by
 have hu55 := Try.underlying55
 have HR0 := Gv.a0 hr0
 have HC0 := Gv.a0 hc0
 clear hr0 hc0
 have HB := Gv.a0 (Below.refl w.heap.size w)
 have H : (impl_RulesOk.l0 k l0 l0 (l0.length : Int) 0) = some r := h
 clear h
 have H' := Gv.a0 H
 clear H
 go_enter Try.func11, Try.ntmps11
 go_wp2_with (first | ((with_reducible refine Gv.gate_load (t := 55) rfl ?_); (try (refine gate_guard (by rfl) ?_; dsimp only)); refine wpList_load_row rfl 55 _ rfl gb382 rfl 55 _ _ _ (by first | exact Gv.kb0 BK382.out | exact Gv.kb1 (Gv.kb0 BK382.out)) Try.underlying55 rfl (by kernel_rfl) ?_))
 go_loopg [7] k (fun kq v7 w' => ∃ (x7_1 : Int), v7 = .int .i64 x7_1 ∧ Aside0 (impl_RulesOk.l0 kq l0 l0 (l0.length : Int) x7_1 = some r) ∧ Aside0 (kq ≤ k) ∧ Aside0 (Below w.heap.size w w'))
 case atStart => exact ⟨(0), Gv.rq, H', ⟨Nat.le_refl _⟩, ⟨Gv.bw⟩⟩
 case round =>
  clear H'
  try clear c1
  obtain ⟨x7_1, rfl, HA, HK1, HB⟩ := hrel
  cases gk with
  | zero => exact absurd HA.out (by simp [impl_RulesOk.l0])
  | succ k1 =>
   have H := HA.out
   clear HA
   simp only [impl_RulesOk.l0] at H
   by_cases c2 : x7_1 < (l0.length : Int)
   ·rw [if_pos c2] at H
    have c2b0 : decide (x7_1 < (l0.length : Int)) = true := decide_eq_true c2
    clear c2
    by_cases c3 : 0 ≤ x7_1
    ·rw [if_pos c3] at H
     have c3b0 : decide (0 ≤ x7_1) = true := decide_eq_true c3
     clear c3
     by_cases c4 : x7_1 < (l0.length : Int)
     ·rw [if_pos c4] at H
      have c4b0 : decide (x7_1 < (l0.length : Int)) = true := decide_eq_true c4
      clear c4
      replace H := Option.bind_eq_some_iff.mp H
      obtain ⟨t383, A50, H⟩ := H
      replace H : (if t383 = true then (if x7_1 > 0 then (if 0 ≤ (wrap64 (x7_1 - 1)) then (if (wrap64 (x7_1 - 1)) < (l0.length : Int) then (if ((rd_T55 l0 (wrap64 (x7_1 - 1))).f0) ≥ ((rd_T55 l0 x7_1).f0) then (some false) else (impl_RulesOk.l0 k1 l0 l0 (l0.length : Int) (wrap64 (x7_1 + 1)))) else (none)) else (none)) else (impl_RulesOk.l0 k1 l0 l0 (l0.length : Int) (wrap64 (x7_1 + 1)))) else (some false)) = some r := H
      have A5 := Gv.a0 A50
      clear A50
      by_cases c6 : t383 = true
      ·subst c6
       have H1 : (if x7_1 > 0 then (if 0 ≤ (wrap64 (x7_1 - 1)) then (if (wrap64 (x7_1 - 1)) < (l0.length : Int) then (if ((rd_T55 l0 (wrap64 (x7_1 - 1))).f0) ≥ ((rd_T55 l0 x7_1).f0) then (some false) else (impl_RulesOk.l0 k1 l0 l0 (l0.length : Int) (wrap64 (x7_1 + 1)))) else (none)) else (none)) else (impl_RulesOk.l0 k1 l0 l0 (l0.length : Int) (wrap64 (x7_1 + 1)))) = some r := by rw [if_pos rfl] at H; exact H
       clear H
       have H := H1
       clear H1
       by_cases c7 : x7_1 > 0
       ·rw [if_pos c7] at H
        have c7b0 : decide (0 < x7_1) = true := decide_eq_true c7
        clear c7
        obtain ⟨ji8, hji8⟩ : ∃ j_ : Int, (wrap64 (x7_1 - 1)) = j_ := ⟨_, rfl⟩
        replace H : (if 0 ≤ (ji8) then (if (ji8) < (l0.length : Int) then (if ((rd_T55 l0 (ji8)).f0) ≥ ((rd_T55 l0 x7_1).f0) then (some false) else (impl_RulesOk.l0 k1 l0 l0 (l0.length : Int) (wrap64 (x7_1 + 1)))) else (none)) else (none)) = some r := by first | (rw [hji8] at H; exact H) | (simp only [hji8] at H ⊢; exact H)
        (try rw [hji8] at A5)
        have hji8w : (IntKind.i64.wrap (x7_1 - 1)) = ji8 := (i64_w _).trans hji8
        by_cases c9 : 0 ≤ (ji8)
        ·rw [if_pos c9] at H
         have c9b0 : decide (0 ≤ (ji8)) = true := decide_eq_true c9
         clear c9
         by_cases c10 : (ji8) < (l0.length : Int)
         ·rw [if_pos c10] at H
          have c10b0 : decide ((ji8) < (l0.length : Int)) = true := decide_eq_true c10
          clear c10
          by_cases c11 : ((rd_T55 l0 (ji8)).f0) ≥ ((rd_T55 l0 x7_1).f0)
          ·rw [if_pos c11] at H
           have c11b0 : decide (((rd_T55 l0 x7_1).f0) ≤ ((rd_T55 l0 (ji8)).f0)) = true := decide_eq_true c11
           clear c11
           obtain rfl := Option.some.inj H
           have p381 : 0 ≤ (x7_1 : Int) := of_decide_eq_true (by first | (with_reducible assumption) | assumption)
           have q381 : x7_1 < (l0.length : Int) := of_decide_eq_true (by first | (with_reducible assumption) | assumption)
           obtain ⟨ad381, e381, hx381_0, hx381_1, hx381_2, hx381_3, hx381_4, hx381_5, hx381_6, hx381_7, hx381_8, hx381_9, hx381_10, hx381_11, hx381_12, hx381_13, hx381_14, hx381_15, hx381_16, hx381_17, hx381_18, hx381_19, hx381_20⟩ := at_T55 HR0.out x7_1 p381 q381
           cases e381
           replace hx381_0 := Gv.bx HB.out hx381_0
           replace hx381_1 := Gv.bx HB.out hx381_1
           replace hx381_2 := Gv.bx HB.out hx381_2
           replace hx381_3 := Gv.bx HB.out hx381_3
           replace hx381_4 := Gv.bx HB.out hx381_4
           replace hx381_5 := Gv.bx HB.out hx381_5
           replace hx381_6 := Gv.bx HB.out hx381_6
           replace hx381_7 := Gv.bx HB.out hx381_7
           replace hx381_8 := Gv.bx HB.out hx381_8
           replace hx381_9 := Gv.bx HB.out hx381_9
           replace hx381_10 := Gv.bx HB.out hx381_10
           replace hx381_11 := Gv.bx HB.out hx381_11
           replace hx381_12 := Gv.bx HB.out hx381_12
           replace hx381_13 := Gv.bx HB.out hx381_13
           replace hx381_14 := Gv.bx HB.out hx381_14
           replace hx381_15 := Gv.bx HB.out hx381_15
           replace hx381_16 := Gv.bx HB.out hx381_16
           replace hx381_17 := Gv.bx HB.out hx381_17
           replace hx381_18 := Gv.bx HB.out hx381_18
           replace hx381_19 := Gv.bx HB.out hx381_19
           replace hx381_20 := Gv.bx HB.out hx381_20
           replace p381 := eq_true p381
           replace q381 := eq_true q381
           try go_wp2_with (first | ((with_reducible refine gate_dst (N := 4) rfl ?_); refine box_event ?hg (N := 4) ?hd (cs := #[.int .i64 0, .int .i64 0, .int .i64 0, .int .i64 0, .int .i64 0, .int .i64 0, .int .i64 0, .int .i64 0, .int .i64 0, .int .i64 0, .int .i64 0, .int .i64 0, .int .i64 0, .int .i64 0, .int .i64 0, .int .i64 0, .int .i64 0, .int .i64 0, .int .i64 0, .int .i64 0, .int .i64 0]) (t := 55) ?hr ?_; (case hd => rfl); (case hg => rfl); (case hr => first | (go_simp; done) | (go_simp; rfl)); intro gb382 hg w12 hbox hb; have n0_ := Gv.a0 (below_step Gv.bw hb); have n1_ := Gv.a0 (hbox); have n2_ := Gv.a0 ((Gv.ble hg Gv.bw : w.heap.size ≤ gb382)); have n3_ := Gv.a0 ((Gv.ble hg Gv.bw : w.heap.size ≤ gb382)); clear HB; have HB := n0_; have BK382 := n1_; have GW382 := n2_; have GE382 := n3_; clear n0_ n1_ n2_ n3_; clear hb hbox hg; obtain ⟨hcz13_0, hcz13_1, hcz13_2, hcz13_3, hcz13_4, hcz13_5, hcz13_6, hcz13_7, hcz13_8, hcz13_9, hcz13_10, hcz13_11, hcz13_12, hcz13_13, hcz13_14, hcz13_15, hcz13_16, hcz13_17, hcz13_18, hcz13_19, hcz13_20⟩ := Gv.c21 BK382.out) | ((with_reducible refine gate_store (t := 55) (p := 4) rfl ?_); refine Gv.store_event rfl rfl rfl rfl rfl (Gv.kb BK382.out) (by kernel_rfl) rfl (by simp; and_intros <;> rfl) ?_; intro w12s hbox hoth hbel; have n0_ := Gv.a0 (hbox); have n1_ := Gv.a0 (hbel w Gv.bw GE382.out); clear BK382 HB; have BK382 := n0_; have HB := n1_; clear n0_ n1_ hbox hoth hbel; (try clear hcz13_0 hcz13_1 hcz13_2 hcz13_3 hcz13_4 hcz13_5 hcz13_6 hcz13_7 hcz13_8 hcz13_9 hcz13_10 hcz13_11 hcz13_12 hcz13_13 hcz13_14 hcz13_15 hcz13_16 hcz13_17 hcz13_18 hcz13_19 hcz13_20); obtain ⟨hcz13_0, hcz13_1, hcz13_2, hcz13_3, hcz13_4, hcz13_5, hcz13_6, hcz13_7, hcz13_8, hcz13_9, hcz13_10, hcz13_11, hcz13_12, hcz13_13, hcz13_14, hcz13_15, hcz13_16, hcz13_17, hcz13_18, hcz13_19, hcz13_20⟩ := Gv.c21 BK382.out) | ((with_reducible refine Gv.gate_load (t := 55) rfl ?_); (try (refine gate_guard (by rfl) ?_; dsimp only)); refine wpList_load_row rfl 55 _ rfl gb382 rfl 55 _ _ _ (by first | exact Gv.kb0 BK382.out | exact Gv.kb1 (Gv.kb0 BK382.out)) Try.underlying55 rfl (by kernel_rfl) ?_) | ((with_reducible refine Gv.gate_load (t := 55) rfl ?_); refine Gv.load_event (cs := [_, _, _, _, _, _, _, _, _, _, _, _, _, _, _, _, _, _, _, _, _]) rfl rfl rfl ⟨hx381_0, hx381_1, hx381_2, hx381_3, hx381_4, hx381_5, hx381_6, hx381_7, hx381_8, hx381_9, hx381_10, hx381_11, hx381_12, hx381_13, hx381_14, hx381_15, hx381_16, hx381_17, hx381_18, hx381_19, hx381_20, trivial⟩ Try.underlying55 rfl (by kernel_rfl) ?_))
           have n0_ := Gv.a0 (blk_drew BK382.out)
           have n1_ := Gv.a0 (below_drew1 HB.out)
           clear BK382
           clear HB
           have BK382 := n0_
           have HB := n1_
           clear n0_ n1_
           have p384 : 0 ≤ ((ji8) : Int) := of_decide_eq_true (by first | (with_reducible assumption) | assumption)
           have q384 : (ji8) < (l0.length : Int) := of_decide_eq_true (by first | (with_reducible assumption) | assumption)
           obtain ⟨ad384, e384, hx384_0, _, _, _, _, _, _, _, _, _, _, _, _, _, _, _, _, _, _, _, _⟩ := at_T55 HR0.out (ji8) p384 q384
           have hw384_0 := hx384_0
           obtain rfl : ad381 = ad384 := (by injection e384)
           replace hx384_0 := Gv.bx HB.out hx384_0
           replace p384 := eq_true p384
           replace q384 := eq_true q384
           refine start_ (n := 18) (S := fun w' => w'.cell? ⟨gb382, 0, none⟩ = some (.int .i64 ((rd_T55 l0 x7_1).f0)) ∧ w'.cell? ⟨gb382, 1, none⟩ = some (.int .i64 ((rd_T55 l0 x7_1).f1.f0.f0)) ∧ w'.cell? ⟨gb382, 2, none⟩ = some (.int .i64 ((rd_T55 l0 x7_1).f1.f0.f1)) ∧ w'.cell? ⟨gb382, 3, none⟩ = some (.int .i64 ((rd_T55 l0 x7_1).f1.f0.f2)) ∧ w'.cell? ⟨gb382, 4, none⟩ = some (.int .i64 ((rd_T55 l0 x7_1).f1.f0.f3)) ∧ w'.cell? ⟨gb382, 5, none⟩ = some (.int .i64 ((rd_T55 l0 x7_1).f1.f0.f4)) ∧ w'.cell? ⟨gb382, 6, none⟩ = some (.int .i64 ((rd_T55 l0 x7_1).f1.f1)) ∧ w'.cell? ⟨gb382, 7, none⟩ = some (.int .i64 ((rd_T55 l0 x7_1).f2.f0.f0)) ∧ w'.cell? ⟨gb382, 8, none⟩ = some (.int .i64 ((rd_T55 l0 x7_1).f2.f0.f1)) ∧ w'.cell? ⟨gb382, 9, none⟩ = some (.int .i64 ((rd_T55 l0 x7_1).f2.f0.f2)) ∧ w'.cell? ⟨gb382, 10, none⟩ = some (.int .i64 ((rd_T55 l0 x7_1).f2.f0.f3)) ∧ w'.cell? ⟨gb382, 11, none⟩ = some (.int .i64 ((rd_T55 l0 x7_1).f2.f0.f4)) ∧ w'.cell? ⟨gb382, 12, none⟩ = some (.int .i64 ((rd_T55 l0 x7_1).f2.f1)) ∧ w'.cell? ⟨gb382, 13, none⟩ = some (.int .i64 ((rd_T55 l0 x7_1).f3)) ∧ w'.cell? ⟨gb382, 14, none⟩ = some (.int .i64 ((rd_T55 l0 x7_1).f4)) ∧ w'.cell? ⟨gb382, 15, none⟩ = some (.int .i64 ((rd_T55 l0 x7_1).f5)) ∧ w'.cell? ⟨gb382, 16, none⟩ = some (.int .i64 ((rd_T55 l0 x7_1).f6)) ∧ w'.cell? ⟨gb382, 17, none⟩ = some (.int .i64 ((rd_T55 l0 x7_1).f7)) ∧ w'.cell? ⟨gb382, 18, none⟩ = some (.int .i64 ((rd_T55 l0 x7_1).f8)) ∧ w'.cell? ⟨gb382, 19, none⟩ = some (.int .i64 ((rd_T55 l0 x7_1).f9)) ∧ w'.cell? ⟨gb382, 20, none⟩ = some (.int .i64 ((rd_T55 l0 x7_1).f10)) ∧ w'.cell? (ad381.add (((ji8)).toNat * 21)) = some (.int .i64 ((rd_T55 l0 (ji8)).f0))) (ds := []) #[false, false, false, false, false, false, false, false, false, false, false, false, false, false, false, false, false, false] (by kernel_rfl) rfl rfl ⟨(blk_cell BK382.out 0).trans rfl, (blk_cell BK382.out 1).trans rfl, (blk_cell BK382.out 2).trans rfl, (blk_cell BK382.out 3).trans rfl, (blk_cell BK382.out 4).trans rfl, (blk_cell BK382.out 5).trans rfl, (blk_cell BK382.out 6).trans rfl, (blk_cell BK382.out 7).trans rfl, (blk_cell BK382.out 8).trans rfl, (blk_cell BK382.out 9).trans rfl, (blk_cell BK382.out 10).trans rfl, (blk_cell BK382.out 11).trans rfl, (blk_cell BK382.out 12).trans rfl, (blk_cell BK382.out 13).trans rfl, (blk_cell BK382.out 14).trans rfl, (blk_cell BK382.out 15).trans rfl, (blk_cell BK382.out 16).trans rfl, (blk_cell BK382.out 17).trans rfl, (blk_cell BK382.out 18).trans rfl, (blk_cell BK382.out 19).trans rfl, (blk_cell BK382.out 20).trans rfl, (Gv.bx HB.out hw384_0)⟩ (fun hHeld => ?_); refine with_tabW impl_RulesOk.tab4 impl_RulesOk.bits4 (fun HT_ HW_ => ?_)
           generalize w12s.drew = w15 at BK382 HB hx384_0 hHeld ⊢
           refine take_ (i := 0) (N := some 12) (v := ?_) (a' := ?_) #[true, false, false, false, false, false, false, false, false, false, false, false, false, false, false, false, false, false] rfl rfl (take_ofW HT_.out HW_.out (by kernel_rfl)) (fun _ _ _ h => h) (Or.inl ⟨by rfl, ?_⟩) hHeld ?_ ?_
           rotate_left
           ·rintro w' ⟨s0, s1, s2, s3, s4, s5, s6, s7, s8, s9, s10, s11, s12, s13, s14, s15, s16, s17, s18, s19, s20, s21⟩
            first | ((refine Gv.load_run (t := 55) (A := ⟨gb382, 0, none⟩) (cs := [_, _, _, _, _, _, _, _, _, _, _, _, _, _, _, _, _, _, _, _, _]) (x := ?xx23_) ?ho23_ ?hx23_ ⟨s0, s1, s2, s3, s4, s5, s6, s7, s8, s9, s10, s11, s12, s13, s14, s15, s16, s17, s18, s19, s20, trivial⟩ Try.underlying55 rfl (by kernel_rfl)); (case ho23_ => rfl); (case hx23_ => rfl)) | (go_simp; with_reducible rfl)
           rotate_left
           ·simp only [Act.put, List.setIfInBounds_toArray, List.set_cons_zero, List.set_cons_succ, i64_w, i32_w]
            rfl
           refine one_ (i := 1) (N := some 13) #[true, true, false, false, false, false, false, false, false, false, false, false, false, false, false, false, false, false] rfl rfl (one_of HT_.out (by kernel_rfl)) (by decide) (fun K hK => ?_)
           refine goes_ Try.func29 (by kernel_rfl) rfl #[.agg #[.int .i64 ((rd_T55 l0 x7_1).f0), .int .i64 ((rd_T55 l0 x7_1).f1.f0.f0), .int .i64 ((rd_T55 l0 x7_1).f1.f0.f1), .int .i64 ((rd_T55 l0 x7_1).f1.f0.f2), .int .i64 ((rd_T55 l0 x7_1).f1.f0.f3), .int .i64 ((rd_T55 l0 x7_1).f1.f0.f4), .int .i64 ((rd_T55 l0 x7_1).f1.f1), .int .i64 ((rd_T55 l0 x7_1).f2.f0.f0), .int .i64 ((rd_T55 l0 x7_1).f2.f0.f1), .int .i64 ((rd_T55 l0 x7_1).f2.f0.f2), .int .i64 ((rd_T55 l0 x7_1).f2.f0.f3), .int .i64 ((rd_T55 l0 x7_1).f2.f0.f4), .int .i64 ((rd_T55 l0 x7_1).f2.f1), .int .i64 ((rd_T55 l0 x7_1).f3), .int .i64 ((rd_T55 l0 x7_1).f4), .int .i64 ((rd_T55 l0 x7_1).f5), .int .i64 ((rd_T55 l0 x7_1).f6), .int .i64 ((rd_T55 l0 x7_1).f7), .int .i64 ((rd_T55 l0 x7_1).f8), .int .i64 ((rd_T55 l0 x7_1).f9), .int .i64 ((rd_T55 l0 x7_1).f10)]] (by rfl) rfl rfl Gv.lm ?_
           with_reducible refine (impl_RuleOk.calls k1 ((rd_T55 l0 x7_1).f0) ((rd_T55 l0 x7_1).f1.f0.f0) ((rd_T55 l0 x7_1).f1.f0.f1) ((rd_T55 l0 x7_1).f1.f0.f2) ((rd_T55 l0 x7_1).f1.f0.f3) ((rd_T55 l0 x7_1).f1.f0.f4) ((rd_T55 l0 x7_1).f1.f1) ((rd_T55 l0 x7_1).f2.f0.f0) ((rd_T55 l0 x7_1).f2.f0.f1) ((rd_T55 l0 x7_1).f2.f0.f2) ((rd_T55 l0 x7_1).f2.f0.f3) ((rd_T55 l0 x7_1).f2.f0.f4) ((rd_T55 l0 x7_1).f2.f1) ((rd_T55 l0 x7_1).f3) ((rd_T55 l0 x7_1).f4) ((rd_T55 l0 x7_1).f5) ((rd_T55 l0 x7_1).f6) ((rd_T55 l0 x7_1).f7) ((rd_T55 l0 x7_1).f8) ((rd_T55 l0 x7_1).f9) ((rd_T55 l0 x7_1).f10) true _ A5.out).mono ?_
           rintro e w16 ⟨rfl, hb⟩
           refine ⟨_, rfl, ?_⟩
           have n0_ := Gv.a0 (Gv.bb BK382.out hb)
           have n1_ := Gv.a0 (below_step Gv.bw hb)
           clear BK382
           clear HB
           have BK382 := n0_
           have HB := n1_
           clear n0_ n1_
           (try clear hb)
           (try clear hb2)
           (try clear hk)
           (try clear hi)
           refine hK.out _ _ ⟨(blk_cell BK382.out 0).trans rfl, (blk_cell BK382.out 1).trans rfl, (blk_cell BK382.out 2).trans rfl, (blk_cell BK382.out 3).trans rfl, (blk_cell BK382.out 4).trans rfl, (blk_cell BK382.out 5).trans rfl, (blk_cell BK382.out 6).trans rfl, (blk_cell BK382.out 7).trans rfl, (blk_cell BK382.out 8).trans rfl, (blk_cell BK382.out 9).trans rfl, (blk_cell BK382.out 10).trans rfl, (blk_cell BK382.out 11).trans rfl, (blk_cell BK382.out 12).trans rfl, (blk_cell BK382.out 13).trans rfl, (blk_cell BK382.out 14).trans rfl, (blk_cell BK382.out 15).trans rfl, (blk_cell BK382.out 16).trans rfl, (blk_cell BK382.out 17).trans rfl, (blk_cell BK382.out 18).trans rfl, (blk_cell BK382.out 19).trans rfl, (blk_cell BK382.out 20).trans rfl, (Gv.bx HB.out hw384_0)⟩ (fun hHeld => ?_)
           clear hK K
           refine norm_ (a' := ?_) ?_ ?_
           rotate_left
           ·show Act.put _ (some 13) _ = _
            simp only [Act.put, List.setIfInBounds_toArray, List.set_cons_zero, List.set_cons_succ, i64_w, i32_w]
            rfl
           refine Gv.pu 2 (some 14) HT_ ?_
           refine Gv.pu 3 (some 15) HT_ ?_
           refine Gv.pu 4 (some 16) HT_ ?_
           refine Gv.pu 5 (some 17) HT_ ?_
           refine Gv.pu 6 (some 18) HT_ ?_
           refine Gv.pu 7 (some 19) HT_ ?_
           refine Gv.pu 8 (some 20) HT_ ?_
           refine Gv.pu 9 (some 21) HT_ ?_
           refine Gv.pu 10 (some 22) HT_ ?_
           refine Gv.pu 11 (some 23) HT_ ?_
           refine Gv.pu 13 (some 25) HT_ ?_
           refine take_ (i := 12) (N := some 24) (v := ?_) (a' := ?_) #[true, true, true, true, true, true, true, true, true, true, true, true, true, true, false, false, false, false] rfl rfl (take_ofW HT_.out HW_.out (by kernel_rfl)) (fun _ _ _ h => h) (Or.inl ⟨by rfl, ?_⟩) hHeld ?_ ?_
           rotate_left
           ·rintro w' ⟨s0, s1, s2, s3, s4, s5, s6, s7, s8, s9, s10, s11, s12, s13, s14, s15, s16, s17, s18, s19, s20, s21⟩
            first | ((refine Gv.load_run (t := 55) (A := ⟨gb382, 0, none⟩) (cs := [_, _, _, _, _, _, _, _, _, _, _, _, _, _, _, _, _, _, _, _, _]) (x := ?xx25_) ?ho25_ ?hx25_ ⟨s0, s1, s2, s3, s4, s5, s6, s7, s8, s9, s10, s11, s12, s13, s14, s15, s16, s17, s18, s19, s20, trivial⟩ Try.underlying55 rfl (by kernel_rfl)); (case ho25_ => rfl); (case hx25_ => rfl)) | (go_simp; with_reducible rfl)
           rotate_left
           ·simp only [Act.put, List.setIfInBounds_toArray, List.set_cons_zero, List.set_cons_succ, i64_w, i32_w]
            rfl
           refine take_ (i := 14) (N := some 26) (v := ?_) (a' := ?_) #[true, true, true, true, true, true, true, true, true, true, true, true, true, true, true, false, false, false] rfl rfl (take_ofW HT_.out HW_.out (by kernel_rfl)) (fun _ _ _ h => h) (Or.inl ⟨by rfl, ?_⟩) hHeld ?_ ?_
           rotate_left
           ·rintro w' ⟨s0, s1, s2, s3, s4, s5, s6, s7, s8, s9, s10, s11, s12, s13, s14, s15, s16, s17, s18, s19, s20, s21⟩
            first | ((refine Gv.load_run (t := 55) (A := ⟨gb382, 0, none⟩) (cs := [_, _, _, _, _, _, _, _, _, _, _, _, _, _, _, _, _, _, _, _, _]) (x := ?xx27_) ?ho27_ ?hx27_ ⟨s0, s1, s2, s3, s4, s5, s6, s7, s8, s9, s10, s11, s12, s13, s14, s15, s16, s17, s18, s19, s20, trivial⟩ Try.underlying55 rfl (by kernel_rfl)); (case ho27_ => rfl); (case hx27_ => rfl)) | (go_simp; with_reducible rfl)
           rotate_left
           ·simp only [Act.put, List.setIfInBounds_toArray, List.set_cons_zero, List.set_cons_succ, i64_w, i32_w]
            rfl
           refine Gv.pu 15 (some 27) HT_ ?_
           refine Gv.pu 16 (some 28) HT_ ?_
           refine Gv.pu 17 (some 29) HT_ ?_
           refine done_ (done_of HT_.out (by kernel_rfl)) ?_
           try go_wp2
           go_ret
           exact ⟨by first | rfl | (simp [errW_none, errW_some] <;> rfl) | (simp only [← hji8]; first | rfl | (simp [errW_none, errW_some] <;> rfl)) | (simp [*, errW_none, errW_some] <;> rfl), Gv.bw⟩
          ·rw [if_neg c11] at H
           have c11b0 : decide (((rd_T55 l0 x7_1).f0) ≤ ((rd_T55 l0 (ji8)).f0)) = false := decide_eq_false c11
           clear c11
           have H' := Gv.a0 H
           clear H
           have p381 : 0 ≤ (x7_1 : Int) := of_decide_eq_true (by first | (with_reducible assumption) | assumption)
           have q381 : x7_1 < (l0.length : Int) := of_decide_eq_true (by first | (with_reducible assumption) | assumption)
           obtain ⟨ad381, e381, hx381_0, hx381_1, hx381_2, hx381_3, hx381_4, hx381_5, hx381_6, hx381_7, hx381_8, hx381_9, hx381_10, hx381_11, hx381_12, hx381_13, hx381_14, hx381_15, hx381_16, hx381_17, hx381_18, hx381_19, hx381_20⟩ := at_T55 HR0.out x7_1 p381 q381
           cases e381
           replace hx381_0 := Gv.bx HB.out hx381_0
           replace hx381_1 := Gv.bx HB.out hx381_1
           replace hx381_2 := Gv.bx HB.out hx381_2
           replace hx381_3 := Gv.bx HB.out hx381_3
           replace hx381_4 := Gv.bx HB.out hx381_4
           replace hx381_5 := Gv.bx HB.out hx381_5
           replace hx381_6 := Gv.bx HB.out hx381_6
           replace hx381_7 := Gv.bx HB.out hx381_7
           replace hx381_8 := Gv.bx HB.out hx381_8
           replace hx381_9 := Gv.bx HB.out hx381_9
           replace hx381_10 := Gv.bx HB.out hx381_10
           replace hx381_11 := Gv.bx HB.out hx381_11
           replace hx381_12 := Gv.bx HB.out hx381_12
           replace hx381_13 := Gv.bx HB.out hx381_13
           replace hx381_14 := Gv.bx HB.out hx381_14
           replace hx381_15 := Gv.bx HB.out hx381_15
           replace hx381_16 := Gv.bx HB.out hx381_16
           replace hx381_17 := Gv.bx HB.out hx381_17
           replace hx381_18 := Gv.bx HB.out hx381_18
           replace hx381_19 := Gv.bx HB.out hx381_19
           replace hx381_20 := Gv.bx HB.out hx381_20
           replace p381 := eq_true p381
           replace q381 := eq_true q381
           try go_wp2_with (first | ((with_reducible refine gate_dst (N := 4) rfl ?_); refine box_event ?hg (N := 4) ?hd (cs := #[.int .i64 0, .int .i64 0, .int .i64 0, .int .i64 0, .int .i64 0, .int .i64 0, .int .i64 0, .int .i64 0, .int .i64 0, .int .i64 0, .int .i64 0, .int .i64 0, .int .i64 0, .int .i64 0, .int .i64 0, .int .i64 0, .int .i64 0, .int .i64 0, .int .i64 0, .int .i64 0, .int .i64 0]) (t := 55) ?hr ?_; (case hd => rfl); (case hg => rfl); (case hr => first | (go_simp; done) | (go_simp; rfl)); intro gb382 hg w17 hbox hb; have n0_ := Gv.a0 (below_step Gv.bw hb); have n1_ := Gv.a0 (hbox); have n2_ := Gv.a0 ((Gv.ble hg Gv.bw : w.heap.size ≤ gb382)); have n3_ := Gv.a0 ((Gv.ble hg Gv.bw : w.heap.size ≤ gb382)); clear HB; have HB := n0_; have BK382 := n1_; have GW382 := n2_; have GE382 := n3_; clear n0_ n1_ n2_ n3_; clear hb hbox hg; obtain ⟨hcz18_0, hcz18_1, hcz18_2, hcz18_3, hcz18_4, hcz18_5, hcz18_6, hcz18_7, hcz18_8, hcz18_9, hcz18_10, hcz18_11, hcz18_12, hcz18_13, hcz18_14, hcz18_15, hcz18_16, hcz18_17, hcz18_18, hcz18_19, hcz18_20⟩ := Gv.c21 BK382.out) | ((with_reducible refine gate_store (t := 55) (p := 4) rfl ?_); refine Gv.store_event rfl rfl rfl rfl rfl (Gv.kb BK382.out) (by kernel_rfl) rfl (by simp; and_intros <;> rfl) ?_; intro w17s hbox hoth hbel; have n0_ := Gv.a0 (hbox); have n1_ := Gv.a0 (hbel w Gv.bw GE382.out); clear BK382 HB; have BK382 := n0_; have HB := n1_; clear n0_ n1_ hbox hoth hbel; (try clear hcz18_0 hcz18_1 hcz18_2 hcz18_3 hcz18_4 hcz18_5 hcz18_6 hcz18_7 hcz18_8 hcz18_9 hcz18_10 hcz18_11 hcz18_12 hcz18_13 hcz18_14 hcz18_15 hcz18_16 hcz18_17 hcz18_18 hcz18_19 hcz18_20); obtain ⟨hcz18_0, hcz18_1, hcz18_2, hcz18_3, hcz18_4, hcz18_5, hcz18_6, hcz18_7, hcz18_8, hcz18_9, hcz18_10, hcz18_11, hcz18_12, hcz18_13, hcz18_14, hcz18_15, hcz18_16, hcz18_17, hcz18_18, hcz18_19, hcz18_20⟩ := Gv.c21 BK382.out) | ((with_reducible refine Gv.gate_load (t := 55) rfl ?_); (try (refine gate_guard (by rfl) ?_; dsimp only)); refine wpList_load_row rfl 55 _ rfl gb382 rfl 55 _ _ _ (by first | exact Gv.kb0 BK382.out | exact Gv.kb1 (Gv.kb0 BK382.out)) Try.underlying55 rfl (by kernel_rfl) ?_) | ((with_reducible refine Gv.gate_load (t := 55) rfl ?_); refine Gv.load_event (cs := [_, _, _, _, _, _, _, _, _, _, _, _, _, _, _, _, _, _, _, _, _]) rfl rfl rfl ⟨hx381_0, hx381_1, hx381_2, hx381_3, hx381_4, hx381_5, hx381_6, hx381_7, hx381_8, hx381_9, hx381_10, hx381_11, hx381_12, hx381_13, hx381_14, hx381_15, hx381_16, hx381_17, hx381_18, hx381_19, hx381_20, trivial⟩ Try.underlying55 rfl (by kernel_rfl) ?_))
           have n0_ := Gv.a0 (blk_drew BK382.out)
           have n1_ := Gv.a0 (below_drew1 HB.out)
           clear BK382
           clear HB
           have BK382 := n0_
           have HB := n1_
           clear n0_ n1_
           have p384 : 0 ≤ ((ji8) : Int) := of_decide_eq_true (by first | (with_reducible assumption) | assumption)
           have q384 : (ji8) < (l0.length : Int) := of_decide_eq_true (by first | (with_reducible assumption) | assumption)
           obtain ⟨ad384, e384, hx384_0, _, _, _, _, _, _, _, _, _, _, _, _, _, _, _, _, _, _, _, _⟩ := at_T55 HR0.out (ji8) p384 q384
           have hw384_0 := hx384_0
           obtain rfl : ad381 = ad384 := (by injection e384)
           replace hx384_0 := Gv.bx HB.out hx384_0
           replace p384 := eq_true p384
           replace q384 := eq_true q384
           refine start_ (n := 18) (S := fun w' => w'.cell? ⟨gb382, 0, none⟩ = some (.int .i64 ((rd_T55 l0 x7_1).f0)) ∧ w'.cell? ⟨gb382, 1, none⟩ = some (.int .i64 ((rd_T55 l0 x7_1).f1.f0.f0)) ∧ w'.cell? ⟨gb382, 2, none⟩ = some (.int .i64 ((rd_T55 l0 x7_1).f1.f0.f1)) ∧ w'.cell? ⟨gb382, 3, none⟩ = some (.int .i64 ((rd_T55 l0 x7_1).f1.f0.f2)) ∧ w'.cell? ⟨gb382, 4, none⟩ = some (.int .i64 ((rd_T55 l0 x7_1).f1.f0.f3)) ∧ w'.cell? ⟨gb382, 5, none⟩ = some (.int .i64 ((rd_T55 l0 x7_1).f1.f0.f4)) ∧ w'.cell? ⟨gb382, 6, none⟩ = some (.int .i64 ((rd_T55 l0 x7_1).f1.f1)) ∧ w'.cell? ⟨gb382, 7, none⟩ = some (.int .i64 ((rd_T55 l0 x7_1).f2.f0.f0)) ∧ w'.cell? ⟨gb382, 8, none⟩ = some (.int .i64 ((rd_T55 l0 x7_1).f2.f0.f1)) ∧ w'.cell? ⟨gb382, 9, none⟩ = some (.int .i64 ((rd_T55 l0 x7_1).f2.f0.f2)) ∧ w'.cell? ⟨gb382, 10, none⟩ = some (.int .i64 ((rd_T55 l0 x7_1).f2.f0.f3)) ∧ w'.cell? ⟨gb382, 11, none⟩ = some (.int .i64 ((rd_T55 l0 x7_1).f2.f0.f4)) ∧ w'.cell? ⟨gb382, 12, none⟩ = some (.int .i64 ((rd_T55 l0 x7_1).f2.f1)) ∧ w'.cell? ⟨gb382, 13, none⟩ = some (.int .i64 ((rd_T55 l0 x7_1).f3)) ∧ w'.cell? ⟨gb382, 14, none⟩ = some (.int .i64 ((rd_T55 l0 x7_1).f4)) ∧ w'.cell? ⟨gb382, 15, none⟩ = some (.int .i64 ((rd_T55 l0 x7_1).f5)) ∧ w'.cell? ⟨gb382, 16, none⟩ = some (.int .i64 ((rd_T55 l0 x7_1).f6)) ∧ w'.cell? ⟨gb382, 17, none⟩ = some (.int .i64 ((rd_T55 l0 x7_1).f7)) ∧ w'.cell? ⟨gb382, 18, none⟩ = some (.int .i64 ((rd_T55 l0 x7_1).f8)) ∧ w'.cell? ⟨gb382, 19, none⟩ = some (.int .i64 ((rd_T55 l0 x7_1).f9)) ∧ w'.cell? ⟨gb382, 20, none⟩ = some (.int .i64 ((rd_T55 l0 x7_1).f10)) ∧ w'.cell? (ad381.add (((ji8)).toNat * 21)) = some (.int .i64 ((rd_T55 l0 (ji8)).f0))) (ds := []) #[false, false, false, false, false, false, false, false, false, false, false, false, false, false, false, false, false, false] (by kernel_rfl) rfl rfl ⟨(blk_cell BK382.out 0).trans rfl, (blk_cell BK382.out 1).trans rfl, (blk_cell BK382.out 2).trans rfl, (blk_cell BK382.out 3).trans rfl, (blk_cell BK382.out 4).trans rfl, (blk_cell BK382.out 5).trans rfl, (blk_cell BK382.out 6).trans rfl, (blk_cell BK382.out 7).trans rfl, (blk_cell BK382.out 8).trans rfl, (blk_cell BK382.out 9).trans rfl, (blk_cell BK382.out 10).trans rfl, (blk_cell BK382.out 11).trans rfl, (blk_cell BK382.out 12).trans rfl, (blk_cell BK382.out 13).trans rfl, (blk_cell BK382.out 14).trans rfl, (blk_cell BK382.out 15).trans rfl, (blk_cell BK382.out 16).trans rfl, (blk_cell BK382.out 17).trans rfl, (blk_cell BK382.out 18).trans rfl, (blk_cell BK382.out 19).trans rfl, (blk_cell BK382.out 20).trans rfl, (Gv.bx HB.out hw384_0)⟩ (fun hHeld => ?_); refine with_tabW impl_RulesOk.tab4 impl_RulesOk.bits4 (fun HT_ HW_ => ?_)
           generalize w17s.drew = w20 at BK382 HB hx384_0 hHeld ⊢
           refine take_ (i := 0) (N := some 12) (v := ?_) (a' := ?_) #[true, false, false, false, false, false, false, false, false, false, false, false, false, false, false, false, false, false] rfl rfl (take_ofW HT_.out HW_.out (by kernel_rfl)) (fun _ _ _ h => h) (Or.inl ⟨by rfl, ?_⟩) hHeld ?_ ?_
           rotate_left
           ·rintro w' ⟨s0, s1, s2, s3, s4, s5, s6, s7, s8, s9, s10, s11, s12, s13, s14, s15, s16, s17, s18, s19, s20, s21⟩
            first | ((refine Gv.load_run (t := 55) (A := ⟨gb382, 0, none⟩) (cs := [_, _, _, _, _, _, _, _, _, _, _, _, _, _, _, _, _, _, _, _, _]) (x := ?xx29_) ?ho29_ ?hx29_ ⟨s0, s1, s2, s3, s4, s5, s6, s7, s8, s9, s10, s11, s12, s13, s14, s15, s16, s17, s18, s19, s20, trivial⟩ Try.underlying55 rfl (by kernel_rfl)); (case ho29_ => rfl); (case hx29_ => rfl)) | (go_simp; with_reducible rfl)
           rotate_left
           ·simp only [Act.put, List.setIfInBounds_toArray, List.set_cons_zero, List.set_cons_succ, i64_w, i32_w]
            rfl
           refine one_ (i := 1) (N := some 13) #[true, true, false, false, false, false, false, false, false, false, false, false, false, false, false, false, false, false] rfl rfl (one_of HT_.out (by kernel_rfl)) (by decide) (fun K hK => ?_)
           refine goes_ Try.func29 (by kernel_rfl) rfl #[.agg #[.int .i64 ((rd_T55 l0 x7_1).f0), .int .i64 ((rd_T55 l0 x7_1).f1.f0.f0), .int .i64 ((rd_T55 l0 x7_1).f1.f0.f1), .int .i64 ((rd_T55 l0 x7_1).f1.f0.f2), .int .i64 ((rd_T55 l0 x7_1).f1.f0.f3), .int .i64 ((rd_T55 l0 x7_1).f1.f0.f4), .int .i64 ((rd_T55 l0 x7_1).f1.f1), .int .i64 ((rd_T55 l0 x7_1).f2.f0.f0), .int .i64 ((rd_T55 l0 x7_1).f2.f0.f1), .int .i64 ((rd_T55 l0 x7_1).f2.f0.f2), .int .i64 ((rd_T55 l0 x7_1).f2.f0.f3), .int .i64 ((rd_T55 l0 x7_1).f2.f0.f4), .int .i64 ((rd_T55 l0 x7_1).f2.f1), .int .i64 ((rd_T55 l0 x7_1).f3), .int .i64 ((rd_T55 l0 x7_1).f4), .int .i64 ((rd_T55 l0 x7_1).f5), .int .i64 ((rd_T55 l0 x7_1).f6), .int .i64 ((rd_T55 l0 x7_1).f7), .int .i64 ((rd_T55 l0 x7_1).f8), .int .i64 ((rd_T55 l0 x7_1).f9), .int .i64 ((rd_T55 l0 x7_1).f10)]] (by rfl) rfl rfl Gv.lm ?_
           with_reducible refine (impl_RuleOk.calls k1 ((rd_T55 l0 x7_1).f0) ((rd_T55 l0 x7_1).f1.f0.f0) ((rd_T55 l0 x7_1).f1.f0.f1) ((rd_T55 l0 x7_1).f1.f0.f2) ((rd_T55 l0 x7_1).f1.f0.f3) ((rd_T55 l0 x7_1).f1.f0.f4) ((rd_T55 l0 x7_1).f1.f1) ((rd_T55 l0 x7_1).f2.f0.f0) ((rd_T55 l0 x7_1).f2.f0.f1) ((rd_T55 l0 x7_1).f2.f0.f2) ((rd_T55 l0 x7_1).f2.f0.f3) ((rd_T55 l0 x7_1).f2.f0.f4) ((rd_T55 l0 x7_1).f2.f1) ((rd_T55 l0 x7_1).f3) ((rd_T55 l0 x7_1).f4) ((rd_T55 l0 x7_1).f5) ((rd_T55 l0 x7_1).f6) ((rd_T55 l0 x7_1).f7) ((rd_T55 l0 x7_1).f8) ((rd_T55 l0 x7_1).f9) ((rd_T55 l0 x7_1).f10) true _ A5.out).mono ?_
           rintro e w21 ⟨rfl, hb⟩
           refine ⟨_, rfl, ?_⟩
           have n0_ := Gv.a0 (Gv.bb BK382.out hb)
           have n1_ := Gv.a0 (below_step Gv.bw hb)
           clear BK382
           clear HB
           have BK382 := n0_
           have HB := n1_
           clear n0_ n1_
           (try clear hb)
           (try clear hb2)
           (try clear hk)
           (try clear hi)
           refine hK.out _ _ ⟨(blk_cell BK382.out 0).trans rfl, (blk_cell BK382.out 1).trans rfl, (blk_cell BK382.out 2).trans rfl, (blk_cell BK382.out 3).trans rfl, (blk_cell BK382.out 4).trans rfl, (blk_cell BK382.out 5).trans rfl, (blk_cell BK382.out 6).trans rfl, (blk_cell BK382.out 7).trans rfl, (blk_cell BK382.out 8).trans rfl, (blk_cell BK382.out 9).trans rfl, (blk_cell BK382.out 10).trans rfl, (blk_cell BK382.out 11).trans rfl, (blk_cell BK382.out 12).trans rfl, (blk_cell BK382.out 13).trans rfl, (blk_cell BK382.out 14).trans rfl, (blk_cell BK382.out 15).trans rfl, (blk_cell BK382.out 16).trans rfl, (blk_cell BK382.out 17).trans rfl, (blk_cell BK382.out 18).trans rfl, (blk_cell BK382.out 19).trans rfl, (blk_cell BK382.out 20).trans rfl, (Gv.bx HB.out hw384_0)⟩ (fun hHeld => ?_)
           clear hK K
           refine norm_ (a' := ?_) ?_ ?_
           rotate_left
           ·show Act.put _ (some 13) _ = _
            simp only [Act.put, List.setIfInBounds_toArray, List.set_cons_zero, List.set_cons_succ, i64_w, i32_w]
            rfl
           refine Gv.pu 2 (some 14) HT_ ?_
           refine Gv.pu 3 (some 15) HT_ ?_
           refine Gv.pu 4 (some 16) HT_ ?_
           refine Gv.pu 5 (some 17) HT_ ?_
           refine Gv.pu 6 (some 18) HT_ ?_
           refine Gv.pu 7 (some 19) HT_ ?_
           refine Gv.pu 8 (some 20) HT_ ?_
           refine Gv.pu 9 (some 21) HT_ ?_
           refine Gv.pu 10 (some 22) HT_ ?_
           refine Gv.pu 11 (some 23) HT_ ?_
           refine Gv.pu 13 (some 25) HT_ ?_
           refine take_ (i := 12) (N := some 24) (v := ?_) (a' := ?_) #[true, true, true, true, true, true, true, true, true, true, true, true, true, true, false, false, false, false] rfl rfl (take_ofW HT_.out HW_.out (by kernel_rfl)) (fun _ _ _ h => h) (Or.inl ⟨by rfl, ?_⟩) hHeld ?_ ?_
           rotate_left
           ·rintro w' ⟨s0, s1, s2, s3, s4, s5, s6, s7, s8, s9, s10, s11, s12, s13, s14, s15, s16, s17, s18, s19, s20, s21⟩
            first | ((refine Gv.load_run (t := 55) (A := ⟨gb382, 0, none⟩) (cs := [_, _, _, _, _, _, _, _, _, _, _, _, _, _, _, _, _, _, _, _, _]) (x := ?xx31_) ?ho31_ ?hx31_ ⟨s0, s1, s2, s3, s4, s5, s6, s7, s8, s9, s10, s11, s12, s13, s14, s15, s16, s17, s18, s19, s20, trivial⟩ Try.underlying55 rfl (by kernel_rfl)); (case ho31_ => rfl); (case hx31_ => rfl)) | (go_simp; with_reducible rfl)
           rotate_left
           ·simp only [Act.put, List.setIfInBounds_toArray, List.set_cons_zero, List.set_cons_succ, i64_w, i32_w]
            rfl
           refine take_ (i := 14) (N := some 26) (v := ?_) (a' := ?_) #[true, true, true, true, true, true, true, true, true, true, true, true, true, true, true, false, false, false] rfl rfl (take_ofW HT_.out HW_.out (by kernel_rfl)) (fun _ _ _ h => h) (Or.inl ⟨by rfl, ?_⟩) hHeld ?_ ?_
           rotate_left
           ·rintro w' ⟨s0, s1, s2, s3, s4, s5, s6, s7, s8, s9, s10, s11, s12, s13, s14, s15, s16, s17, s18, s19, s20, s21⟩
            first | ((refine Gv.load_run (t := 55) (A := ⟨gb382, 0, none⟩) (cs := [_, _, _, _, _, _, _, _, _, _, _, _, _, _, _, _, _, _, _, _, _]) (x := ?xx33_) ?ho33_ ?hx33_ ⟨s0, s1, s2, s3, s4, s5, s6, s7, s8, s9, s10, s11, s12, s13, s14, s15, s16, s17, s18, s19, s20, trivial⟩ Try.underlying55 rfl (by kernel_rfl)); (case ho33_ => rfl); (case hx33_ => rfl)) | (go_simp; with_reducible rfl)
           rotate_left
           ·simp only [Act.put, List.setIfInBounds_toArray, List.set_cons_zero, List.set_cons_succ, i64_w, i32_w]
            rfl
           refine Gv.pu 15 (some 27) HT_ ?_
           refine Gv.pu 16 (some 28) HT_ ?_
           refine Gv.pu 17 (some 29) HT_ ?_
           refine done_ (done_of HT_.out (by kernel_rfl)) ?_
           try go_wp2
           go_roundg k1
           case measure => have := HK1.out; omega
           case rel => exact ⟨(wrap64 (x7_1 + 1)), Gv.rq, H', ⟨by have := HK1.out; omega⟩, ⟨Gv.bw⟩⟩
         ·rw [if_neg c10] at H
          exact absurd H (by simp)
        ·rw [if_neg c9] at H
         exact absurd H (by simp)
       ·rw [if_neg c7] at H
        have c7b0 : decide (0 < x7_1) = false := decide_eq_false c7
        clear c7
        have H' := Gv.a0 H
        clear H
        have p381 : 0 ≤ (x7_1 : Int) := of_decide_eq_true (by first | (with_reducible assumption) | assumption)
        have q381 : x7_1 < (l0.length : Int) := of_decide_eq_true (by first | (with_reducible assumption) | assumption)
        obtain ⟨ad381, e381, hx381_0, hx381_1, hx381_2, hx381_3, hx381_4, hx381_5, hx381_6, hx381_7, hx381_8, hx381_9, hx381_10, hx381_11, hx381_12, hx381_13, hx381_14, hx381_15, hx381_16, hx381_17, hx381_18, hx381_19, hx381_20⟩ := at_T55 HR0.out x7_1 p381 q381
        cases e381
        replace hx381_0 := Gv.bx HB.out hx381_0
        replace hx381_1 := Gv.bx HB.out hx381_1
        replace hx381_2 := Gv.bx HB.out hx381_2
        replace hx381_3 := Gv.bx HB.out hx381_3
        replace hx381_4 := Gv.bx HB.out hx381_4
        replace hx381_5 := Gv.bx HB.out hx381_5
        replace hx381_6 := Gv.bx HB.out hx381_6
        replace hx381_7 := Gv.bx HB.out hx381_7
        replace hx381_8 := Gv.bx HB.out hx381_8
        replace hx381_9 := Gv.bx HB.out hx381_9
        replace hx381_10 := Gv.bx HB.out hx381_10
        replace hx381_11 := Gv.bx HB.out hx381_11
        replace hx381_12 := Gv.bx HB.out hx381_12
        replace hx381_13 := Gv.bx HB.out hx381_13
        replace hx381_14 := Gv.bx HB.out hx381_14
        replace hx381_15 := Gv.bx HB.out hx381_15
        replace hx381_16 := Gv.bx HB.out hx381_16
        replace hx381_17 := Gv.bx HB.out hx381_17
        replace hx381_18 := Gv.bx HB.out hx381_18
        replace hx381_19 := Gv.bx HB.out hx381_19
        replace hx381_20 := Gv.bx HB.out hx381_20
        replace p381 := eq_true p381
        replace q381 := eq_true q381
        try go_wp2_with (first | ((with_reducible refine gate_dst (N := 4) rfl ?_); refine box_event ?hg (N := 4) ?hd (cs := #[.int .i64 0, .int .i64 0, .int .i64 0, .int .i64 0, .int .i64 0, .int .i64 0, .int .i64 0, .int .i64 0, .int .i64 0, .int .i64 0, .int .i64 0, .int .i64 0, .int .i64 0, .int .i64 0, .int .i64 0, .int .i64 0, .int .i64 0, .int .i64 0, .int .i64 0, .int .i64 0, .int .i64 0]) (t := 55) ?hr ?_; (case hd => rfl); (case hg => rfl); (case hr => first | (go_simp; done) | (go_simp; rfl)); intro gb382 hg w22 hbox hb; have n0_ := Gv.a0 (below_step Gv.bw hb); have n1_ := Gv.a0 (hbox); have n2_ := Gv.a0 ((Gv.ble hg Gv.bw : w.heap.size ≤ gb382)); have n3_ := Gv.a0 ((Gv.ble hg Gv.bw : w.heap.size ≤ gb382)); clear HB; have HB := n0_; have BK382 := n1_; have GW382 := n2_; have GE382 := n3_; clear n0_ n1_ n2_ n3_; clear hb hbox hg; obtain ⟨hcz23_0, hcz23_1, hcz23_2, hcz23_3, hcz23_4, hcz23_5, hcz23_6, hcz23_7, hcz23_8, hcz23_9, hcz23_10, hcz23_11, hcz23_12, hcz23_13, hcz23_14, hcz23_15, hcz23_16, hcz23_17, hcz23_18, hcz23_19, hcz23_20⟩ := Gv.c21 BK382.out) | ((with_reducible refine gate_store (t := 55) (p := 4) rfl ?_); refine Gv.store_event rfl rfl rfl rfl rfl (Gv.kb BK382.out) (by kernel_rfl) rfl (by simp; and_intros <;> rfl) ?_; intro w22s hbox hoth hbel; have n0_ := Gv.a0 (hbox); have n1_ := Gv.a0 (hbel w Gv.bw GE382.out); clear BK382 HB; have BK382 := n0_; have HB := n1_; clear n0_ n1_ hbox hoth hbel; (try clear hcz23_0 hcz23_1 hcz23_2 hcz23_3 hcz23_4 hcz23_5 hcz23_6 hcz23_7 hcz23_8 hcz23_9 hcz23_10 hcz23_11 hcz23_12 hcz23_13 hcz23_14 hcz23_15 hcz23_16 hcz23_17 hcz23_18 hcz23_19 hcz23_20); obtain ⟨hcz23_0, hcz23_1, hcz23_2, hcz23_3, hcz23_4, hcz23_5, hcz23_6, hcz23_7, hcz23_8, hcz23_9, hcz23_10, hcz23_11, hcz23_12, hcz23_13, hcz23_14, hcz23_15, hcz23_16, hcz23_17, hcz23_18, hcz23_19, hcz23_20⟩ := Gv.c21 BK382.out) | ((with_reducible refine Gv.gate_load (t := 55) rfl ?_); (try (refine gate_guard (by rfl) ?_; dsimp only)); refine wpList_load_row rfl 55 _ rfl gb382 rfl 55 _ _ _ (by first | exact Gv.kb0 BK382.out | exact Gv.kb1 (Gv.kb0 BK382.out)) Try.underlying55 rfl (by kernel_rfl) ?_) | ((with_reducible refine Gv.gate_load (t := 55) rfl ?_); refine Gv.load_event (cs := [_, _, _, _, _, _, _, _, _, _, _, _, _, _, _, _, _, _, _, _, _]) rfl rfl rfl ⟨hx381_0, hx381_1, hx381_2, hx381_3, hx381_4, hx381_5, hx381_6, hx381_7, hx381_8, hx381_9, hx381_10, hx381_11, hx381_12, hx381_13, hx381_14, hx381_15, hx381_16, hx381_17, hx381_18, hx381_19, hx381_20, trivial⟩ Try.underlying55 rfl (by kernel_rfl) ?_))
        have n0_ := Gv.a0 (blk_drew BK382.out)
        have n1_ := Gv.a0 (below_drew1 HB.out)
        clear BK382
        clear HB
        have BK382 := n0_
        have HB := n1_
        clear n0_ n1_
        refine start_ (n := 18) (S := fun w' => w'.cell? ⟨gb382, 0, none⟩ = some (.int .i64 ((rd_T55 l0 x7_1).f0)) ∧ w'.cell? ⟨gb382, 1, none⟩ = some (.int .i64 ((rd_T55 l0 x7_1).f1.f0.f0)) ∧ w'.cell? ⟨gb382, 2, none⟩ = some (.int .i64 ((rd_T55 l0 x7_1).f1.f0.f1)) ∧ w'.cell? ⟨gb382, 3, none⟩ = some (.int .i64 ((rd_T55 l0 x7_1).f1.f0.f2)) ∧ w'.cell? ⟨gb382, 4, none⟩ = some (.int .i64 ((rd_T55 l0 x7_1).f1.f0.f3)) ∧ w'.cell? ⟨gb382, 5, none⟩ = some (.int .i64 ((rd_T55 l0 x7_1).f1.f0.f4)) ∧ w'.cell? ⟨gb382, 6, none⟩ = some (.int .i64 ((rd_T55 l0 x7_1).f1.f1)) ∧ w'.cell? ⟨gb382, 7, none⟩ = some (.int .i64 ((rd_T55 l0 x7_1).f2.f0.f0)) ∧ w'.cell? ⟨gb382, 8, none⟩ = some (.int .i64 ((rd_T55 l0 x7_1).f2.f0.f1)) ∧ w'.cell? ⟨gb382, 9, none⟩ = some (.int .i64 ((rd_T55 l0 x7_1).f2.f0.f2)) ∧ w'.cell? ⟨gb382, 10, none⟩ = some (.int .i64 ((rd_T55 l0 x7_1).f2.f0.f3)) ∧ w'.cell? ⟨gb382, 11, none⟩ = some (.int .i64 ((rd_T55 l0 x7_1).f2.f0.f4)) ∧ w'.cell? ⟨gb382, 12, none⟩ = some (.int .i64 ((rd_T55 l0 x7_1).f2.f1)) ∧ w'.cell? ⟨gb382, 13, none⟩ = some (.int .i64 ((rd_T55 l0 x7_1).f3)) ∧ w'.cell? ⟨gb382, 14, none⟩ = some (.int .i64 ((rd_T55 l0 x7_1).f4)) ∧ w'.cell? ⟨gb382, 15, none⟩ = some (.int .i64 ((rd_T55 l0 x7_1).f5)) ∧ w'.cell? ⟨gb382, 16, none⟩ = some (.int .i64 ((rd_T55 l0 x7_1).f6)) ∧ w'.cell? ⟨gb382, 17, none⟩ = some (.int .i64 ((rd_T55 l0 x7_1).f7)) ∧ w'.cell? ⟨gb382, 18, none⟩ = some (.int .i64 ((rd_T55 l0 x7_1).f8)) ∧ w'.cell? ⟨gb382, 19, none⟩ = some (.int .i64 ((rd_T55 l0 x7_1).f9)) ∧ w'.cell? ⟨gb382, 20, none⟩ = some (.int .i64 ((rd_T55 l0 x7_1).f10))) (ds := []) #[false, false, false, false, false, false, false, false, false, false, false, false, false, false, false, false, false, false] (by kernel_rfl) rfl rfl ⟨(blk_cell BK382.out 0).trans rfl, (blk_cell BK382.out 1).trans rfl, (blk_cell BK382.out 2).trans rfl, (blk_cell BK382.out 3).trans rfl, (blk_cell BK382.out 4).trans rfl, (blk_cell BK382.out 5).trans rfl, (blk_cell BK382.out 6).trans rfl, (blk_cell BK382.out 7).trans rfl, (blk_cell BK382.out 8).trans rfl, (blk_cell BK382.out 9).trans rfl, (blk_cell BK382.out 10).trans rfl, (blk_cell BK382.out 11).trans rfl, (blk_cell BK382.out 12).trans rfl, (blk_cell BK382.out 13).trans rfl, (blk_cell BK382.out 14).trans rfl, (blk_cell BK382.out 15).trans rfl, (blk_cell BK382.out 16).trans rfl, (blk_cell BK382.out 17).trans rfl, (blk_cell BK382.out 18).trans rfl, (blk_cell BK382.out 19).trans rfl, (blk_cell BK382.out 20).trans rfl⟩ (fun hHeld => ?_); refine with_tabW impl_RulesOk.tab4 impl_RulesOk.bits4 (fun HT_ HW_ => ?_)
        generalize w22s.drew = w25 at BK382 HB hHeld ⊢
        refine take_ (i := 0) (N := some 12) (v := ?_) (a' := ?_) #[true, false, false, false, false, false, false, false, false, false, false, false, false, false, false, false, false, false] rfl rfl (take_ofW HT_.out HW_.out (by kernel_rfl)) (fun _ _ _ h => h) (Or.inl ⟨by rfl, ?_⟩) hHeld ?_ ?_
        rotate_left
        ·rintro w' ⟨s0, s1, s2, s3, s4, s5, s6, s7, s8, s9, s10, s11, s12, s13, s14, s15, s16, s17, s18, s19, s20⟩
         first | ((refine Gv.load_run (t := 55) (A := ⟨gb382, 0, none⟩) (cs := [_, _, _, _, _, _, _, _, _, _, _, _, _, _, _, _, _, _, _, _, _]) (x := ?xx35_) ?ho35_ ?hx35_ ⟨s0, s1, s2, s3, s4, s5, s6, s7, s8, s9, s10, s11, s12, s13, s14, s15, s16, s17, s18, s19, s20, trivial⟩ Try.underlying55 rfl (by kernel_rfl)); (case ho35_ => rfl); (case hx35_ => rfl)) | (go_simp; with_reducible rfl)
        rotate_left
        ·simp only [Act.put, List.setIfInBounds_toArray, List.set_cons_zero, List.set_cons_succ, i64_w, i32_w]
         rfl
        refine one_ (i := 1) (N := some 13) #[true, true, false, false, false, false, false, false, false, false, false, false, false, false, false, false, false, false] rfl rfl (one_of HT_.out (by kernel_rfl)) (by decide) (fun K hK => ?_)
        refine goes_ Try.func29 (by kernel_rfl) rfl #[.agg #[.int .i64 ((rd_T55 l0 x7_1).f0), .int .i64 ((rd_T55 l0 x7_1).f1.f0.f0), .int .i64 ((rd_T55 l0 x7_1).f1.f0.f1), .int .i64 ((rd_T55 l0 x7_1).f1.f0.f2), .int .i64 ((rd_T55 l0 x7_1).f1.f0.f3), .int .i64 ((rd_T55 l0 x7_1).f1.f0.f4), .int .i64 ((rd_T55 l0 x7_1).f1.f1), .int .i64 ((rd_T55 l0 x7_1).f2.f0.f0), .int .i64 ((rd_T55 l0 x7_1).f2.f0.f1), .int .i64 ((rd_T55 l0 x7_1).f2.f0.f2), .int .i64 ((rd_T55 l0 x7_1).f2.f0.f3), .int .i64 ((rd_T55 l0 x7_1).f2.f0.f4), .int .i64 ((rd_T55 l0 x7_1).f2.f1), .int .i64 ((rd_T55 l0 x7_1).f3), .int .i64 ((rd_T55 l0 x7_1).f4), .int .i64 ((rd_T55 l0 x7_1).f5), .int .i64 ((rd_T55 l0 x7_1).f6), .int .i64 ((rd_T55 l0 x7_1).f7), .int .i64 ((rd_T55 l0 x7_1).f8), .int .i64 ((rd_T55 l0 x7_1).f9), .int .i64 ((rd_T55 l0 x7_1).f10)]] (by rfl) rfl rfl Gv.lm ?_
        with_reducible refine (impl_RuleOk.calls k1 ((rd_T55 l0 x7_1).f0) ((rd_T55 l0 x7_1).f1.f0.f0) ((rd_T55 l0 x7_1).f1.f0.f1) ((rd_T55 l0 x7_1).f1.f0.f2) ((rd_T55 l0 x7_1).f1.f0.f3) ((rd_T55 l0 x7_1).f1.f0.f4) ((rd_T55 l0 x7_1).f1.f1) ((rd_T55 l0 x7_1).f2.f0.f0) ((rd_T55 l0 x7_1).f2.f0.f1) ((rd_T55 l0 x7_1).f2.f0.f2) ((rd_T55 l0 x7_1).f2.f0.f3) ((rd_T55 l0 x7_1).f2.f0.f4) ((rd_T55 l0 x7_1).f2.f1) ((rd_T55 l0 x7_1).f3) ((rd_T55 l0 x7_1).f4) ((rd_T55 l0 x7_1).f5) ((rd_T55 l0 x7_1).f6) ((rd_T55 l0 x7_1).f7) ((rd_T55 l0 x7_1).f8) ((rd_T55 l0 x7_1).f9) ((rd_T55 l0 x7_1).f10) true _ A5.out).mono ?_
        rintro e w26 ⟨rfl, hb⟩
        refine ⟨_, rfl, ?_⟩
        have n0_ := Gv.a0 (Gv.bb BK382.out hb)
        have n1_ := Gv.a0 (below_step Gv.bw hb)
        clear BK382
        clear HB
        have BK382 := n0_
        have HB := n1_
        clear n0_ n1_
        (try clear hb)
        (try clear hb2)
        (try clear hk)
        (try clear hi)
        refine hK.out _ _ ⟨(blk_cell BK382.out 0).trans rfl, (blk_cell BK382.out 1).trans rfl, (blk_cell BK382.out 2).trans rfl, (blk_cell BK382.out 3).trans rfl, (blk_cell BK382.out 4).trans rfl, (blk_cell BK382.out 5).trans rfl, (blk_cell BK382.out 6).trans rfl, (blk_cell BK382.out 7).trans rfl, (blk_cell BK382.out 8).trans rfl, (blk_cell BK382.out 9).trans rfl, (blk_cell BK382.out 10).trans rfl, (blk_cell BK382.out 11).trans rfl, (blk_cell BK382.out 12).trans rfl, (blk_cell BK382.out 13).trans rfl, (blk_cell BK382.out 14).trans rfl, (blk_cell BK382.out 15).trans rfl, (blk_cell BK382.out 16).trans rfl, (blk_cell BK382.out 17).trans rfl, (blk_cell BK382.out 18).trans rfl, (blk_cell BK382.out 19).trans rfl, (blk_cell BK382.out 20).trans rfl⟩ (fun hHeld => ?_)
        clear hK K
        refine norm_ (a' := ?_) ?_ ?_
        rotate_left
        ·show Act.put _ (some 13) _ = _
         simp only [Act.put, List.setIfInBounds_toArray, List.set_cons_zero, List.set_cons_succ, i64_w, i32_w]
         rfl
        refine Gv.pu 2 (some 14) HT_ ?_
        refine Gv.pu 3 (some 15) HT_ ?_
        refine Gv.pu 4 (some 16) HT_ ?_
        refine Gv.pu 5 (some 17) HT_ ?_
        refine Gv.pu 6 (some 18) HT_ ?_
        refine Gv.pn 7 (some 19) HT_ ?_
        refine Gv.pn 8 (some 20) HT_ ?_
        refine Gv.pn 9 (some 21) HT_ ?_
        refine Gv.pn 10 (some 22) HT_ ?_
        refine Gv.pn 11 (some 23) HT_ ?_
        refine Gv.pn 12 (some 24) HT_ ?_
        refine Gv.pn 13 (some 25) HT_ ?_
        refine Gv.pn 14 (some 26) HT_ ?_
        refine Gv.pn 15 (some 27) HT_ ?_
        refine Gv.pu 16 (some 28) HT_ ?_
        refine Gv.pu 17 (some 29) HT_ ?_
        refine done_ (done_of HT_.out (by kernel_rfl)) ?_
        try go_wp2
        go_roundg k1
        case measure => have := HK1.out; omega
        case rel => exact ⟨(wrap64 (x7_1 + 1)), Gv.rq, H', ⟨by have := HK1.out; omega⟩, ⟨Gv.bw⟩⟩
      ·replace c6 := Bool.eq_false_iff.mpr c6
       subst c6
       have H1 : (some false) = some r := by rw [if_neg (show ¬ (false = true) by decide)] at H; exact H
       clear H
       have H := H1
       clear H1
       obtain rfl := Option.some.inj H
       have p381 : 0 ≤ (x7_1 : Int) := of_decide_eq_true (by first | (with_reducible assumption) | assumption)
       have q381 : x7_1 < (l0.length : Int) := of_decide_eq_true (by first | (with_reducible assumption) | assumption)
       obtain ⟨ad381, e381, hx381_0, hx381_1, hx381_2, hx381_3, hx381_4, hx381_5, hx381_6, hx381_7, hx381_8, hx381_9, hx381_10, hx381_11, hx381_12, hx381_13, hx381_14, hx381_15, hx381_16, hx381_17, hx381_18, hx381_19, hx381_20⟩ := at_T55 HR0.out x7_1 p381 q381
       cases e381
       replace hx381_0 := Gv.bx HB.out hx381_0
       replace hx381_1 := Gv.bx HB.out hx381_1
       replace hx381_2 := Gv.bx HB.out hx381_2
       replace hx381_3 := Gv.bx HB.out hx381_3
       replace hx381_4 := Gv.bx HB.out hx381_4
       replace hx381_5 := Gv.bx HB.out hx381_5
       replace hx381_6 := Gv.bx HB.out hx381_6
       replace hx381_7 := Gv.bx HB.out hx381_7
       replace hx381_8 := Gv.bx HB.out hx381_8
       replace hx381_9 := Gv.bx HB.out hx381_9
       replace hx381_10 := Gv.bx HB.out hx381_10
       replace hx381_11 := Gv.bx HB.out hx381_11
       replace hx381_12 := Gv.bx HB.out hx381_12
       replace hx381_13 := Gv.bx HB.out hx381_13
       replace hx381_14 := Gv.bx HB.out hx381_14
       replace hx381_15 := Gv.bx HB.out hx381_15
       replace hx381_16 := Gv.bx HB.out hx381_16
       replace hx381_17 := Gv.bx HB.out hx381_17
       replace hx381_18 := Gv.bx HB.out hx381_18
       replace hx381_19 := Gv.bx HB.out hx381_19
       replace hx381_20 := Gv.bx HB.out hx381_20
       replace p381 := eq_true p381
       replace q381 := eq_true q381
       try go_wp2_with (first | ((with_reducible refine gate_dst (N := 4) rfl ?_); refine box_event ?hg (N := 4) ?hd (cs := #[.int .i64 0, .int .i64 0, .int .i64 0, .int .i64 0, .int .i64 0, .int .i64 0, .int .i64 0, .int .i64 0, .int .i64 0, .int .i64 0, .int .i64 0, .int .i64 0, .int .i64 0, .int .i64 0, .int .i64 0, .int .i64 0, .int .i64 0, .int .i64 0, .int .i64 0, .int .i64 0, .int .i64 0]) (t := 55) ?hr ?_; (case hd => rfl); (case hg => rfl); (case hr => first | (go_simp; done) | (go_simp; rfl)); intro gb382 hg w27 hbox hb; have n0_ := Gv.a0 (below_step Gv.bw hb); have n1_ := Gv.a0 (hbox); have n2_ := Gv.a0 ((Gv.ble hg Gv.bw : w.heap.size ≤ gb382)); have n3_ := Gv.a0 ((Gv.ble hg Gv.bw : w.heap.size ≤ gb382)); clear HB; have HB := n0_; have BK382 := n1_; have GW382 := n2_; have GE382 := n3_; clear n0_ n1_ n2_ n3_; clear hb hbox hg; obtain ⟨hcz28_0, hcz28_1, hcz28_2, hcz28_3, hcz28_4, hcz28_5, hcz28_6, hcz28_7, hcz28_8, hcz28_9, hcz28_10, hcz28_11, hcz28_12, hcz28_13, hcz28_14, hcz28_15, hcz28_16, hcz28_17, hcz28_18, hcz28_19, hcz28_20⟩ := Gv.c21 BK382.out) | ((with_reducible refine gate_store (t := 55) (p := 4) rfl ?_); refine Gv.store_event rfl rfl rfl rfl rfl (Gv.kb BK382.out) (by kernel_rfl) rfl (by simp; and_intros <;> rfl) ?_; intro w27s hbox hoth hbel; have n0_ := Gv.a0 (hbox); have n1_ := Gv.a0 (hbel w Gv.bw GE382.out); clear BK382 HB; have BK382 := n0_; have HB := n1_; clear n0_ n1_ hbox hoth hbel; (try clear hcz28_0 hcz28_1 hcz28_2 hcz28_3 hcz28_4 hcz28_5 hcz28_6 hcz28_7 hcz28_8 hcz28_9 hcz28_10 hcz28_11 hcz28_12 hcz28_13 hcz28_14 hcz28_15 hcz28_16 hcz28_17 hcz28_18 hcz28_19 hcz28_20); obtain ⟨hcz28_0, hcz28_1, hcz28_2, hcz28_3, hcz28_4, hcz28_5, hcz28_6, hcz28_7, hcz28_8, hcz28_9, hcz28_10, hcz28_11, hcz28_12, hcz28_13, hcz28_14, hcz28_15, hcz28_16, hcz28_17, hcz28_18, hcz28_19, hcz28_20⟩ := Gv.c21 BK382.out) | ((with_reducible refine Gv.gate_load (t := 55) rfl ?_); (try (refine gate_guard (by rfl) ?_; dsimp only)); refine wpList_load_row rfl 55 _ rfl gb382 rfl 55 _ _ _ (by first | exact Gv.kb0 BK382.out | exact Gv.kb1 (Gv.kb0 BK382.out)) Try.underlying55 rfl (by kernel_rfl) ?_) | ((with_reducible refine Gv.gate_load (t := 55) rfl ?_); refine Gv.load_event (cs := [_, _, _, _, _, _, _, _, _, _, _, _, _, _, _, _, _, _, _, _, _]) rfl rfl rfl ⟨hx381_0, hx381_1, hx381_2, hx381_3, hx381_4, hx381_5, hx381_6, hx381_7, hx381_8, hx381_9, hx381_10, hx381_11, hx381_12, hx381_13, hx381_14, hx381_15, hx381_16, hx381_17, hx381_18, hx381_19, hx381_20, trivial⟩ Try.underlying55 rfl (by kernel_rfl) ?_))
       have n0_ := Gv.a0 (blk_drew BK382.out)
       have n1_ := Gv.a0 (below_drew1 HB.out)
       clear BK382
       clear HB
       have BK382 := n0_
       have HB := n1_
       clear n0_ n1_
       refine start_ (n := 18) (S := fun w' => w'.cell? ⟨gb382, 0, none⟩ = some (.int .i64 ((rd_T55 l0 x7_1).f0)) ∧ w'.cell? ⟨gb382, 1, none⟩ = some (.int .i64 ((rd_T55 l0 x7_1).f1.f0.f0)) ∧ w'.cell? ⟨gb382, 2, none⟩ = some (.int .i64 ((rd_T55 l0 x7_1).f1.f0.f1)) ∧ w'.cell? ⟨gb382, 3, none⟩ = some (.int .i64 ((rd_T55 l0 x7_1).f1.f0.f2)) ∧ w'.cell? ⟨gb382, 4, none⟩ = some (.int .i64 ((rd_T55 l0 x7_1).f1.f0.f3)) ∧ w'.cell? ⟨gb382, 5, none⟩ = some (.int .i64 ((rd_T55 l0 x7_1).f1.f0.f4)) ∧ w'.cell? ⟨gb382, 6, none⟩ = some (.int .i64 ((rd_T55 l0 x7_1).f1.f1)) ∧ w'.cell? ⟨gb382, 7, none⟩ = some (.int .i64 ((rd_T55 l0 x7_1).f2.f0.f0)) ∧ w'.cell? ⟨gb382, 8, none⟩ = some (.int .i64 ((rd_T55 l0 x7_1).f2.f0.f1)) ∧ w'.cell? ⟨gb382, 9, none⟩ = some (.int .i64 ((rd_T55 l0 x7_1).f2.f0.f2)) ∧ w'.cell? ⟨gb382, 10, none⟩ = some (.int .i64 ((rd_T55 l0 x7_1).f2.f0.f3)) ∧ w'.cell? ⟨gb382, 11, none⟩ = some (.int .i64 ((rd_T55 l0 x7_1).f2.f0.f4)) ∧ w'.cell? ⟨gb382, 12, none⟩ = some (.int .i64 ((rd_T55 l0 x7_1).f2.f1)) ∧ w'.cell? ⟨gb382, 13, none⟩ = some (.int .i64 ((rd_T55 l0 x7_1).f3)) ∧ w'.cell? ⟨gb382, 14, none⟩ = some (.int .i64 ((rd_T55 l0 x7_1).f4)) ∧ w'.cell? ⟨gb382, 15, none⟩ = some (.int .i64 ((rd_T55 l0 x7_1).f5)) ∧ w'.cell? ⟨gb382, 16, none⟩ = some (.int .i64 ((rd_T55 l0 x7_1).f6)) ∧ w'.cell? ⟨gb382, 17, none⟩ = some (.int .i64 ((rd_T55 l0 x7_1).f7)) ∧ w'.cell? ⟨gb382, 18, none⟩ = some (.int .i64 ((rd_T55 l0 x7_1).f8)) ∧ w'.cell? ⟨gb382, 19, none⟩ = some (.int .i64 ((rd_T55 l0 x7_1).f9)) ∧ w'.cell? ⟨gb382, 20, none⟩ = some (.int .i64 ((rd_T55 l0 x7_1).f10))) (ds := []) #[false, false, false, false, false, false, false, false, false, false, false, false, false, false, false, false, false, false] (by kernel_rfl) rfl rfl ⟨(blk_cell BK382.out 0).trans rfl, (blk_cell BK382.out 1).trans rfl, (blk_cell BK382.out 2).trans rfl, (blk_cell BK382.out 3).trans rfl, (blk_cell BK382.out 4).trans rfl, (blk_cell BK382.out 5).trans rfl, (blk_cell BK382.out 6).trans rfl, (blk_cell BK382.out 7).trans rfl, (blk_cell BK382.out 8).trans rfl, (blk_cell BK382.out 9).trans rfl, (blk_cell BK382.out 10).trans rfl, (blk_cell BK382.out 11).trans rfl, (blk_cell BK382.out 12).trans rfl, (blk_cell BK382.out 13).trans rfl, (blk_cell BK382.out 14).trans rfl, (blk_cell BK382.out 15).trans rfl, (blk_cell BK382.out 16).trans rfl, (blk_cell BK382.out 17).trans rfl, (blk_cell BK382.out 18).trans rfl, (blk_cell BK382.out 19).trans rfl, (blk_cell BK382.out 20).trans rfl⟩ (fun hHeld => ?_); refine with_tabW impl_RulesOk.tab4 impl_RulesOk.bits4 (fun HT_ HW_ => ?_)
       generalize w27s.drew = w30 at BK382 HB hHeld ⊢
       refine take_ (i := 0) (N := some 12) (v := ?_) (a' := ?_) #[true, false, false, false, false, false, false, false, false, false, false, false, false, false, false, false, false, false] rfl rfl (take_ofW HT_.out HW_.out (by kernel_rfl)) (fun _ _ _ h => h) (Or.inl ⟨by rfl, ?_⟩) hHeld ?_ ?_
       rotate_left
       ·rintro w' ⟨s0, s1, s2, s3, s4, s5, s6, s7, s8, s9, s10, s11, s12, s13, s14, s15, s16, s17, s18, s19, s20⟩
        first | ((refine Gv.load_run (t := 55) (A := ⟨gb382, 0, none⟩) (cs := [_, _, _, _, _, _, _, _, _, _, _, _, _, _, _, _, _, _, _, _, _]) (x := ?xx37_) ?ho37_ ?hx37_ ⟨s0, s1, s2, s3, s4, s5, s6, s7, s8, s9, s10, s11, s12, s13, s14, s15, s16, s17, s18, s19, s20, trivial⟩ Try.underlying55 rfl (by kernel_rfl)); (case ho37_ => rfl); (case hx37_ => rfl)) | (go_simp; with_reducible rfl)
       rotate_left
       ·simp only [Act.put, List.setIfInBounds_toArray, List.set_cons_zero, List.set_cons_succ, i64_w, i32_w]
        rfl
       refine one_ (i := 1) (N := some 13) #[true, true, false, false, false, false, false, false, false, false, false, false, false, false, false, false, false, false] rfl rfl (one_of HT_.out (by kernel_rfl)) (by decide) (fun K hK => ?_)
       refine goes_ Try.func29 (by kernel_rfl) rfl #[.agg #[.int .i64 ((rd_T55 l0 x7_1).f0), .int .i64 ((rd_T55 l0 x7_1).f1.f0.f0), .int .i64 ((rd_T55 l0 x7_1).f1.f0.f1), .int .i64 ((rd_T55 l0 x7_1).f1.f0.f2), .int .i64 ((rd_T55 l0 x7_1).f1.f0.f3), .int .i64 ((rd_T55 l0 x7_1).f1.f0.f4), .int .i64 ((rd_T55 l0 x7_1).f1.f1), .int .i64 ((rd_T55 l0 x7_1).f2.f0.f0), .int .i64 ((rd_T55 l0 x7_1).f2.f0.f1), .int .i64 ((rd_T55 l0 x7_1).f2.f0.f2), .int .i64 ((rd_T55 l0 x7_1).f2.f0.f3), .int .i64 ((rd_T55 l0 x7_1).f2.f0.f4), .int .i64 ((rd_T55 l0 x7_1).f2.f1), .int .i64 ((rd_T55 l0 x7_1).f3), .int .i64 ((rd_T55 l0 x7_1).f4), .int .i64 ((rd_T55 l0 x7_1).f5), .int .i64 ((rd_T55 l0 x7_1).f6), .int .i64 ((rd_T55 l0 x7_1).f7), .int .i64 ((rd_T55 l0 x7_1).f8), .int .i64 ((rd_T55 l0 x7_1).f9), .int .i64 ((rd_T55 l0 x7_1).f10)]] (by rfl) rfl rfl Gv.lm ?_
       with_reducible refine (impl_RuleOk.calls k1 ((rd_T55 l0 x7_1).f0) ((rd_T55 l0 x7_1).f1.f0.f0) ((rd_T55 l0 x7_1).f1.f0.f1) ((rd_T55 l0 x7_1).f1.f0.f2) ((rd_T55 l0 x7_1).f1.f0.f3) ((rd_T55 l0 x7_1).f1.f0.f4) ((rd_T55 l0 x7_1).f1.f1) ((rd_T55 l0 x7_1).f2.f0.f0) ((rd_T55 l0 x7_1).f2.f0.f1) ((rd_T55 l0 x7_1).f2.f0.f2) ((rd_T55 l0 x7_1).f2.f0.f3) ((rd_T55 l0 x7_1).f2.f0.f4) ((rd_T55 l0 x7_1).f2.f1) ((rd_T55 l0 x7_1).f3) ((rd_T55 l0 x7_1).f4) ((rd_T55 l0 x7_1).f5) ((rd_T55 l0 x7_1).f6) ((rd_T55 l0 x7_1).f7) ((rd_T55 l0 x7_1).f8) ((rd_T55 l0 x7_1).f9) ((rd_T55 l0 x7_1).f10) false _ A5.out).mono ?_
       rintro e w31 ⟨rfl, hb⟩
       refine ⟨_, rfl, ?_⟩
       have n0_ := Gv.a0 (Gv.bb BK382.out hb)
       have n1_ := Gv.a0 (below_step Gv.bw hb)
       clear BK382
       clear HB
       have BK382 := n0_
       have HB := n1_
       clear n0_ n1_
       (try clear hb)
       (try clear hb2)
       (try clear hk)
       (try clear hi)
       refine hK.out _ _ ⟨(blk_cell BK382.out 0).trans rfl, (blk_cell BK382.out 1).trans rfl, (blk_cell BK382.out 2).trans rfl, (blk_cell BK382.out 3).trans rfl, (blk_cell BK382.out 4).trans rfl, (blk_cell BK382.out 5).trans rfl, (blk_cell BK382.out 6).trans rfl, (blk_cell BK382.out 7).trans rfl, (blk_cell BK382.out 8).trans rfl, (blk_cell BK382.out 9).trans rfl, (blk_cell BK382.out 10).trans rfl, (blk_cell BK382.out 11).trans rfl, (blk_cell BK382.out 12).trans rfl, (blk_cell BK382.out 13).trans rfl, (blk_cell BK382.out 14).trans rfl, (blk_cell BK382.out 15).trans rfl, (blk_cell BK382.out 16).trans rfl, (blk_cell BK382.out 17).trans rfl, (blk_cell BK382.out 18).trans rfl, (blk_cell BK382.out 19).trans rfl, (blk_cell BK382.out 20).trans rfl⟩ (fun hHeld => ?_)
       clear hK K
       refine norm_ (a' := ?_) ?_ ?_
       rotate_left
       ·show Act.put _ (some 13) _ = _
        simp only [Act.put, List.setIfInBounds_toArray, List.set_cons_zero, List.set_cons_succ, i64_w, i32_w]
        rfl
       refine Gv.pu 2 (some 14) HT_ ?_
       refine Gv.pu 3 (some 15) HT_ ?_
       refine Gv.pn 4 (some 16) HT_ ?_
       refine Gv.pn 5 (some 17) HT_ ?_
       refine Gv.pn 6 (some 18) HT_ ?_
       refine Gv.pn 7 (some 19) HT_ ?_
       refine Gv.pn 8 (some 20) HT_ ?_
       refine Gv.pn 9 (some 21) HT_ ?_
       refine Gv.pn 10 (some 22) HT_ ?_
       refine Gv.pn 11 (some 23) HT_ ?_
       refine Gv.pn 12 (some 24) HT_ ?_
       refine Gv.pn 13 (some 25) HT_ ?_
       refine Gv.pn 14 (some 26) HT_ ?_
       refine Gv.pn 15 (some 27) HT_ ?_
       refine Gv.pn 16 (some 28) HT_ ?_
       refine Gv.pu 17 (some 29) HT_ ?_
       refine done_ (done_of HT_.out (by kernel_rfl)) ?_
       try go_wp2
       go_ret
       exact ⟨Gv.rt, Gv.bw⟩
     ·rw [if_neg c4] at H
      exact absurd H (by simp)
    ·rw [if_neg c3] at H
     exact absurd H (by simp)
   ·rw [if_neg c2] at H
    have c2b0 : decide (x7_1 < (l0.length : Int)) = false := decide_eq_false c2
    clear c2
    obtain rfl := Option.some.inj H
    go_wp2_with (first | ((with_reducible refine Gv.gate_load (t := 55) rfl ?_); (try (refine gate_guard (by rfl) ?_; dsimp only)); refine wpList_load_row rfl 55 _ rfl gb382 rfl 55 _ _ _ (by first | exact Gv.kb0 BK382.out | exact Gv.kb1 (Gv.kb0 BK382.out)) Try.underlying55 rfl (by kernel_rfl) ?_))
    go_ret
    exact ⟨Gv.rt, Gv.bw⟩

/-! ### impl_Rule_c58: function 34 over a closure -/
set_option maxHeartbeats 8000000 in
set_option maxRecDepth 100000 in
theorem impl_Rule_c58.idx (g : Nat) (lb : Array Value) (eg : ∀ args w, (callFunc g args).run Try.prog w = .ok (.enter g args) w) (p : S55 → Option Bool) (A0 : Option Addr) (c0 : Nat) (l0 : List S55) (r : Int) (w : World) (hr0 : Kd.C k55 w A0 l0.length l0)
    (hp : ∀ (W : World) (x : S55) (b : Bool), p x = some b → Below w.heap.size w W → Calls Try.prog g (#[.agg #[.int .i64 x.f0, .int .i64 x.f1.f0.f0, .int .i64 x.f1.f0.f1, .int .i64 x.f1.f0.f2, .int .i64 x.f1.f0.f3, .int .i64 x.f1.f0.f4, .int .i64 x.f1.f1, .int .i64 x.f2.f0.f0, .int .i64 x.f2.f0.f1, .int .i64 x.f2.f0.f2, .int .i64 x.f2.f0.f3, .int .i64 x.f2.f0.f4, .int .i64 x.f2.f1, .int .i64 x.f3, .int .i64 x.f4, .int .i64 x.f5, .int .i64 x.f6, .int .i64 x.f7, .int .i64 x.f8, .int .i64 x.f9, .int .i64 x.f10]] ++ lb) W fun e w' => e = .returned (.bool b) ∧ Below W.heap.size W w') (h : Gv.idxO p l0 0 = some r) :
    Calls Try.prog 34 #[.slice A0 l0.length c0, .func (.func g) #[] lb] w fun e w' => e = .returned (.int .i64 r) ∧ Below w.heap.size w w' := by
  have hu55 := Try.underlying55
  have HR0 := Aside0.mk hr0
  have HP := Aside0.mk hp
  have hlm := hr0.2.1
  have H0 := Aside0.mk h
  clear hr0 hp h
  go_enter Try.func34, Try.ntmps34
  go_wp2
  go_loopg [5, 8] l0.length (fun gg _ s8 wr => ∃ kk : Nat, kk ≤ l0.length ∧ l0.length - kk ≤ gg ∧ s8 = .int .i64 kk ∧ Aside0 (Below w.heap.size w wr) ∧ Aside0 (Gv.idxO p (l0.drop kk) kk = some r))
  case atStart => exact ⟨0, Nat.zero_le _, by omega, rfl, ⟨Below.refl _ w⟩, ⟨H0.out⟩⟩
  case round =>
    obtain ⟨kk, hkk, hg, rfl, HB, HN⟩ := hrel
    by_cases hlt : kk < l0.length
    · have hltz : (kk : Int) < (l0.length : Int) := by omega
      have hk0 : 0 ≤ (kk : Int) := by omega
      obtain ⟨ad, e1, hx0, hx1, hx2, hx3, hx4, hx5, hx6, hx7, hx8, hx9, hx10, hx11, hx12, hx13, hx14, hx15, hx16, hx17, hx18, hx19, hx20⟩ := at_T55 (Kd.C_below HR0.out HB.out) (kk : Int) hk0 hltz
      cases e1
      obtain ⟨x_, hx_⟩ : ∃ x_, x_ = rd_T55 l0 kk := ⟨_, rfl⟩
      rw [← hx_, Int.toNat_natCast] at hx0 hx1 hx2 hx3 hx4 hx5 hx6 hx7 hx8 hx9 hx10 hx11 hx12 hx13 hx14 hx15 hx16 hx17 hx18 hx19 hx20
      have hN := HN.out
      have hget : l0.drop kk = x_ :: l0.drop (kk + 1) := by
        rw [hx_, List.drop_eq_getElem_cons hlt]
        congr 1
        unfold rd_T55
        rw [Int.toNat_natCast, List.getD_eq_getElem?_getD, List.getElem?_eq_getElem hlt]
        rfl
      rw [hget] at hN
      obtain ⟨b, hq, hN⟩ := Option.bind_eq_some_iff.mp hN
      have hcall := HP.out wr x_ b hq HB.out
      have HC := Aside0.mk hcall
      have HN2 := Aside0.mk hN
      clear hcall hN hq hget HN hx_
      cases b with
      | true =>
        have HRr := Aside0.mk (show (kk : Int) = r from Option.some.inj HN2.out)
        go_wp2_with (first | ((with_reducible refine Gv.gate_load (t := 55) rfl ?_); refine Gv.load_event (cs := [_, _, _, _, _, _, _, _, _, _, _, _, _, _, _, _, _, _, _, _, _]) rfl rfl rfl ⟨hx0, hx1, hx2, hx3, hx4, hx5, hx6, hx7, hx8, hx9, hx10, hx11, hx12, hx13, hx14, hx15, hx16, hx17, hx18, hx19, hx20, trivial⟩ Try.underlying55 rfl (by kernel_rfl) ?_))
        refine HC.out.mono ?_
        rintro e w' ⟨rfl, hb⟩
        have HB' := Aside0.mk (HB.out.trans (hb.mono HB.out.size))
        clear hb
        go_wp2_with fail
        go_ret
        exact ⟨by rw [← HRr.out]; rfl, HB'.out⟩
      | false =>
        go_wp2_with (first | ((with_reducible refine Gv.gate_load (t := 55) rfl ?_); refine Gv.load_event (cs := [_, _, _, _, _, _, _, _, _, _, _, _, _, _, _, _, _, _, _, _, _]) rfl rfl rfl ⟨hx0, hx1, hx2, hx3, hx4, hx5, hx6, hx7, hx8, hx9, hx10, hx11, hx12, hx13, hx14, hx15, hx16, hx17, hx18, hx19, hx20, trivial⟩ Try.underlying55 rfl (by kernel_rfl) ?_))
        refine HC.out.mono ?_
        rintro e w' ⟨rfl, hb⟩
        have HB' := Aside0.mk (HB.out.trans (hb.mono HB.out.size))
        clear hb
        go_wp2_with fail
        go_roundg (l0.length - (kk + 1))
        case measure => omega
        case rel =>
          have e_ : ((kk + 1 : Nat) : Int) = (kk : Int) + 1 := by omega
          exact ⟨kk + 1, by omega, by omega, by go_num, HB', ⟨by rw [e_]; exact HN2.out⟩⟩
    · have hltz : ¬ (kk : Int) < (l0.length : Int) := by omega
      have HRr := Aside0.mk (show (-1 : Int) = r from by
        have hN := HN.out
        rw [List.drop_eq_nil_of_le (by omega)] at hN
        exact Option.some.inj hN)
      go_wp2_with fail
      go_ret
      exact ⟨by rw [← HRr.out]; rfl, HB.out⟩
set_option maxHeartbeats 8000000 in
set_option maxRecDepth 100000 in
theorem impl_Rule_c58.clo (g0 : Nat) (c0_0 : Int) (x : S55) (b : Bool) (W : World) (hc0 : W.heap[g0]? = some (.cells #[.int .i64 c0_0] 3 (0, 0))) (h : (some (x.f0 == c0_0)) = some b) :
    Calls Try.prog 58 (#[.agg #[.int .i64 x.f0, .int .i64 x.f1.f0.f0, .int .i64 x.f1.f0.f1, .int .i64 x.f1.f0.f2, .int .i64 x.f1.f0.f3, .int .i64 x.f1.f0.f4, .int .i64 x.f1.f1, .int .i64 x.f2.f0.f0, .int .i64 x.f2.f0.f1, .int .i64 x.f2.f0.f2, .int .i64 x.f2.f0.f3, .int .i64 x.f2.f0.f4, .int .i64 x.f2.f1, .int .i64 x.f3, .int .i64 x.f4, .int .i64 x.f5, .int .i64 x.f6, .int .i64 x.f7, .int .i64 x.f8, .int .i64 x.f9, .int .i64 x.f10]] ++ #[.pointer (some ⟨g0, 0, none⟩)]) W fun e w' => e = .returned (.bool b) ∧ Below W.heap.size W w' := by
  obtain rfl := Option.some.inj h
  have HC0 := Aside0.mk hc0
  clear hc0
  go_enter Try.func58, Try.ntmps58
  go_wp2_with (first | ((with_reducible refine gate_dst (N := 2) rfl ?_); refine box_event ?hg (N := 2) ?hd (cs := #[.int .i64 x.f0, .int .i64 x.f1.f0.f0, .int .i64 x.f1.f0.f1, .int .i64 x.f1.f0.f2, .int .i64 x.f1.f0.f3, .int .i64 x.f1.f0.f4, .int .i64 x.f1.f1, .int .i64 x.f2.f0.f0, .int .i64 x.f2.f0.f1, .int .i64 x.f2.f0.f2, .int .i64 x.f2.f0.f3, .int .i64 x.f2.f0.f4, .int .i64 x.f2.f1, .int .i64 x.f3, .int .i64 x.f4, .int .i64 x.f5, .int .i64 x.f6, .int .i64 x.f7, .int .i64 x.f8, .int .i64 x.f9, .int .i64 x.f10]) (t := 55) ?hr ?_; (case hd => rfl); (case hg => rfl); (case hr => first | (go_simp; done) | (go_simp; rfl)); intro gbx hg w1 hbox hb; have n0_ := Aside0.mk (blk_below HC0.out hb); have HX := Aside0.mk hbox; have HB0 := Aside0.mk hb; clear HC0 hbox hb hg; have HC0 := n0_; clear n0_) | ((with_reducible refine Gv.gate_load (t := 3) rfl ?_); refine Gv.get_event (g := gbx) rfl rfl rfl HX.out rfl Try.underlying3 rfl ?_) | ((with_reducible refine Gv.gate_load (t := 3) rfl ?_); refine Gv.get_event (g := g0) rfl rfl rfl HC0.out rfl Try.underlying3 rfl ?_))
  all_goals go_ret
  all_goals exact ⟨by first | rfl | (simp; done) | (simp [eq_comm]; done), HB0.out⟩
def impl_Rule_c58.f (l0 : List S55) (c0_0 : Int) : Option Int := Gv.idxO (fun x : S55 => some (x.f0 == c0_0)) l0 0
set_option maxHeartbeats 8000000 in
set_option maxRecDepth 100000 in
theorem impl_Rule_c58.calls (A0 : Option Addr) (c0 : Nat) (l0 : List S55) (g0 : Nat) (c0_0 : Int) (r : Int) (w : World) (hr0 : Kd.C k55 w A0 l0.length l0) (hc0_ : l0.length ≤ c0) (hc0 : w.heap[g0]? = some (.cells #[.int .i64 c0_0] 3 (0, 0))) (h : impl_Rule_c58.f l0 c0_0 = some r) :
    Calls Try.prog 34 #[.slice A0 l0.length c0, .func (.func 58) #[] #[.pointer (some ⟨g0, 0, none⟩)]] w fun e w' => e = .returned (.int .i64 r) ∧ Below w.heap.size w w' := by
  exact impl_Rule_c58.idx 58 #[.pointer (some ⟨g0, 0, none⟩)] (enters_of Try.func58 (by kernel_rfl) rfl) (fun x => some (x.f0 == c0_0)) A0 c0 l0 r w hr0 (fun W x b hb hW => impl_Rule_c58.clo g0 c0_0 x b W (blk_below hc0 hW) hb) h

/-! ### impl_ruleAt: function 41 -/
def impl_ruleAt.f (l0 : List (S55)) (a1 : Int) : Option (Int) := (impl_Rule_c58.f l0 a1).bind fun t386 => (some t386)
set_option maxHeartbeats 8000000 in
set_option maxRecDepth 100000 in
theorem impl_ruleAt.calls (A0 : Option Addr) (c0 : Nat) (l0 : List (S55)) (a1 : Int) (r : Int) (w : World) (hr0 : Kd.C k55 w A0 l0.length l0) (hc0 : l0.length ≤ c0) (h : impl_ruleAt.f l0 a1 = some r) :
  Calls Try.prog 41 #[.slice A0 l0.length c0, .int .i64 a1] w fun e w' => e = .returned (.int .i64 r) ∧ Below w.heap.size w w' := by
 have HR0 := Gv.a0 hr0
 have HC0 := Gv.a0 hc0
 clear hr0 hc0
 have HB := Gv.a0 (Below.refl w.heap.size w)
 have H : ((impl_Rule_c58.f l0 a1).bind fun t386 => (some t386)) = some r := h
 clear h
 replace H := Option.bind_eq_some_iff.mp H
 obtain ⟨t386, A30, H⟩ := H
 replace H : (some t386) = some r := H
 have A3 := Gv.a0 A30
 clear A30
 obtain rfl := Option.some.inj H
 have hmf : ∀ (fn : Fn) (first cap : Array Value) (w : World), (Instr.makeFunc fn first cap).run Try.prog w = .ok (.func fn first cap) w := fun _ _ _ _ => rfl
 go_enter Try.func41, Try.ntmps41
 go_wp2_with (first | ((with_reducible refine gate_dst (N := 3) rfl ?_); refine box_event ?hg (N := 3) ?hd (cs := #[.int .i64 a1]) (t := 3) ?hr ?_; (case hd => rfl); (case hg => rfl); (case hr => first | (go_simp; done) | (go_simp; rfl)); intro gb385 hg w4 hbox hb; have n0_ := Gv.a0 (below_step Gv.bw hb); have n1_ := Gv.a0 (hbox); have n2_ := Gv.a0 ((Gv.ble hg Gv.bw : w.heap.size ≤ gb385)); have n3_ := Gv.a0 ((Gv.ble hg Gv.bw : w.heap.size ≤ gb385)); clear HB; have HB := n0_; have BK385 := n1_; have GW385 := n2_; have GE385 := n3_; clear n0_ n1_ n2_ n3_; clear hb hbox hg) | ((with_reducible refine gate_callee (f := 34) rfl ?_); refine goesL_ (some 7) rfl rfl Try.func34 (by kernel_rfl) rfl #[.slice A0 l0.length c0, .func (.func 58) #[] #[.pointer (some ⟨gb385, 0, none⟩)]] rfl Gv.lm ?_; (with_reducible refine (impl_Rule_c58.calls _ _ l0 gb385 a1 t386 _ ?side1 ?side2 ?side3 A3.out).mono ?_); (case side1 => repeat (first | exact (Kd.C_below HR0.out HB.out) | (with_reducible refine Kd.C_alloc ?_ _) | (with_reducible refine Kd.C_drewN ?_ _) | (with_reducible refine Kd.C_drew ?_))); (case side2 => exact HC0.out); (case side3 => exact Gv.bk); rintro e w5 ⟨rfl, hb⟩; refine ⟨_, rfl, ?_⟩; have n0_ := Gv.a0 (Gv.bb BK385.out hb); have n1_ := Gv.a0 (below_step Gv.bw hb); clear BK385; clear HB; have BK385 := n0_; have HB := n1_; clear n0_ n1_; (try clear hb); (try clear hb2); (try clear hk); (try clear hi)))
 go_ret
 exact ⟨Gv.rt, Gv.bw⟩

/-! ### impl_Rule_59: function 59 -/
def impl_Rule_59.f (a0 : Int) : Option ((List (S55))) := if 0 ≤ a0 ∧ a0 ≤ 1099511627776 then some ([] : List (S55)) else none
set_option maxHeartbeats 8000000 in
set_option maxRecDepth 100000 in
theorem impl_Rule_59.calls (a0 : Int) (r : List (S55)) (w : World) (h : impl_Rule_59.f a0 = some r) :
  Calls Try.prog 59 #[.slice none 0 0, .int .i64 a0] w fun e w' => ∃ v0_ : Value, e = .returned (v0_) ∧ Kd.R k55 55 w' w.heap.size (fun _ => True) v0_ r ∧ Below w.heap.size w w' := by
 unfold impl_Rule_59.f at h
 by_cases hn : 0 ≤ a0 ∧ a0 ≤ 1099511627776
 rotate_left
 ·rw [if_neg hn] at h
  cases h
 rw [if_pos hn] at h
 obtain rfl := Option.some.inj h
 clear h
 by_cases h0 : a0 = 0
 ·subst h0
  go_enter Try.func59, Try.ntmps59
  go_wp2
  go_ret
  exact ⟨_, rfl, Kd.R_nil _ _ _ _ _, Below.refl _ w⟩
 obtain ⟨n, rfl⟩ : ∃ n : Nat, a0 = n := ⟨a0.toNat, by omega⟩
 have hi := info55
 rw [Option.map_eq_some_iff] at hi
 obtain ⟨i, hi, hz⟩ := hi
 simp only [Prod.mk.injEq] at hz
 obtain ⟨hz, hs, hb⟩ := hz
 have hrz : ∀ ty, (Builtin.append_ #[25, 3] ty #[.slice none 0 0, .int .i64 (n : Int)]).run Try.prog w = _ := fun ty =>
  Lib.run_append_nil_zeros w 25 3 ty 55 i (.agg #[(.int .i64 0), (.int .i64 0), (.int .i64 0), (.int .i64 0), (.int .i64 0), (.int .i64 0), (.int .i64 0), (.int .i64 0), (.int .i64 0), (.int .i64 0), (.int .i64 0), (.int .i64 0), (.int .i64 0), (.int .i64 0), (.int .i64 0), (.int .i64 0), (.int .i64 0), (.int .i64 0), (.int .i64 0), (.int .i64 0), (.int .i64 0)]) .i64 .i64 Try.underlying25 Try.underlying3 hi hz n (by omega) (by omega) (by omega) (by rw [hb]; omega)
 have hG1 : n ≤ grownCap w n 0 55 := grownCap_ge w _ _ _
 have hG2 : grownCap w n 0 55 ≤ maxLen := grownCap_le_maxLen w n 0 55 (by unfold maxLen; omega)
 obtain ⟨G, hG⟩ : ∃ G, G = grownCap w n 0 55 := ⟨_, rfl⟩
 rw [← hG] at hrz hG1 hG2
 have h1 : ¬ ((n : Int) < 0) := by omega
 have h2 : wrap64 ((0 : Int) - 0) = 0 := by unfold wrap64; omega
 have h3 : wrap64 ((n : Int) - 0) = n := by unfold wrap64; omega
 have h4 : (n : Int) > 0 := by omega
 have hG63 : G ≤ 9223372036854775807 := by unfold maxLen at hG2; omega
 have hsz : (Builtin.zeroCells (Value.agg #[(.int .i64 0), (.int .i64 0), (.int .i64 0), (.int .i64 0), (.int .i64 0), (.int .i64 0), (.int .i64 0), (.int .i64 0), (.int .i64 0), (.int .i64 0), (.int .i64 0), (.int .i64 0), (.int .i64 0), (.int .i64 0), (.int .i64 0), (.int .i64 0), (.int .i64 0), (.int .i64 0), (.int .i64 0), (.int .i64 0), (.int .i64 0)]).cells n ++ Builtin.zeroCells (Value.agg #[(.int .i64 0), (.int .i64 0), (.int .i64 0), (.int .i64 0), (.int .i64 0), (.int .i64 0), (.int .i64 0), (.int .i64 0), (.int .i64 0), (.int .i64 0), (.int .i64 0), (.int .i64 0), (.int .i64 0), (.int .i64 0), (.int .i64 0), (.int .i64 0), (.int .i64 0), (.int .i64 0), (.int .i64 0), (.int .i64 0), (.int .i64 0)]).cells (G - n)).size = G * 21 := by
  rw [Array.size_append, size_zeroCells, size_zeroCells, show (Value.agg #[(.int .i64 0), (.int .i64 0), (.int .i64 0), (.int .i64 0), (.int .i64 0), (.int .i64 0), (.int .i64 0), (.int .i64 0), (.int .i64 0), (.int .i64 0), (.int .i64 0), (.int .i64 0), (.int .i64 0), (.int .i64 0), (.int .i64 0), (.int .i64 0), (.int .i64 0), (.int .i64 0), (.int .i64 0), (.int .i64 0), (.int .i64 0)]).cells.size = 21 from rfl]
  omega
 clear hG hz hs hb hi
 go_enter Try.func59, Try.ntmps59
 go_wp2_with (at_builtin; refine Lib.wpList_append_run _ rfl _ _ _ _ rfl _ _ rfl rfl _ _ (hrz _) ?_)
 go_ret
 refine ⟨_, rfl, ⟨fun _ _ => trivial, [], ⟨by simp, .inr ⟨w.heap.size, G, _, rfl, Nat.le_refl _, heap_alloc_new _ _, Nat.zero_le _, hG2, hsz, by simp⟩⟩, Reps.none _ _⟩, (below_alloc (below_drew1 (Below.refl _ w)) _)⟩

/-! ### impl_Rule_42: function 42 -/
mutual
def impl_Rule_42.l0 : Nat → List (List (S55)) → Int → List (List (S55)) → Int → Int → Option ((List (S55)))
 | 0, _, _, _, _, _ => none
 | k + 1, x0, x3, x9, x10, x11 => if x11 < x10 then (if 0 ≤ x11 then (if x11 < (x9.length : Int) then (if (wrap64 (x3 + ((rd_L9 x9 x11).length : Int))) < 0 then (none) else (impl_Rule_42.l0 k x0 (wrap64 (x3 + ((rd_L9 x9 x11).length : Int))) x9 x10 (wrap64 (x11 + 1)))) else (none)) else (none)) else ((impl_Rule_59.f x3).bind fun t391 => (impl_Rule_42.l1 k t391 x0 (x0.length : Int) 0))
def impl_Rule_42.l1 : Nat → List (S55) → List (List (S55)) → Int → Int → Option ((List (S55)))
 | 0, _, _, _, _ => none
 | k + 1, x6, x25, x26, x27 => if x27 < x26 then (if 0 ≤ x27 then (if x27 < (x25.length : Int) then (if x6.length + (rd_L9 x25 x27).length < 837723144972 then (impl_Rule_42.l1 k (x6 ++ (rd_L9 x25 x27)) x25 x26 (wrap64 (x27 + 1))) else (none)) else (none)) else (none)) else (some x6)
end
def impl_Rule_42.f (k : Nat) (l0 : List (List (S55))) : Option ((List (S55))) := impl_Rule_42.l0 k l0 0 l0 (l0.length : Int) 0
theorem impl_Rule_42.mono_l : ∀ k, (∀ y0 y1 y2 y3 y4, LeO (impl_Rule_42.l0 k y0 y1 y2 y3 y4) (impl_Rule_42.l0 (k + 1) y0 y1 y2 y3 y4)) ∧ (∀ y0 y1 y2 y3, LeO (impl_Rule_42.l1 k y0 y1 y2 y3) (impl_Rule_42.l1 (k + 1) y0 y1 y2 y3))
 | 0 => ⟨fun _ _ _ _ _ r h => by simp [impl_Rule_42.l0] at h, fun _ _ _ _ r h => by simp [impl_Rule_42.l1] at h⟩
 | k + 1 => by
  obtain ⟨ih0, ih1⟩ := impl_Rule_42.mono_l k
  refine ⟨?_, ?_⟩
  ·intro y0 y1 y2 y3 y4
   unfold impl_Rule_42.l0
   repeat' first
   | (with_reducible exact ih0 _ _ _ _ _)
   | (with_reducible exact ih1 _ _ _ _)
   | (with_reducible exact LeO.refl _)
   | (with_reducible exact LeO.none _)
   | (with_reducible refine LeO.ite ?_ ?_)
   | (with_reducible refine LeO.bind ?_ (fun _ => ?_))
   | exact ih0 _ _ _ _ _
   | exact ih1 _ _ _ _
   | exact LeO.none _
   | refine LeO.ite ?_ ?_
   | refine LeO.bind ?_ (fun _ => ?_)
  ·intro y0 y1 y2 y3
   unfold impl_Rule_42.l1
   repeat' first
   | (with_reducible exact ih0 _ _ _ _ _)
   | (with_reducible exact ih1 _ _ _ _)
   | (with_reducible exact LeO.refl _)
   | (with_reducible exact LeO.none _)
   | (with_reducible refine LeO.ite ?_ ?_)
   | (with_reducible refine LeO.bind ?_ (fun _ => ?_))
   | exact ih0 _ _ _ _ _
   | exact ih1 _ _ _ _
   | exact LeO.none _
   | refine LeO.ite ?_ ?_
   | refine LeO.bind ?_ (fun _ => ?_)
theorem impl_Rule_42.mono : ∀ a0 k, LeO (impl_Rule_42.f k a0) (impl_Rule_42.f (k + 1) a0) := by
 intro a0 k
 obtain ⟨ih0, ih1⟩ := impl_Rule_42.mono_l k
 unfold impl_Rule_42.f
 repeat' first
   | (with_reducible exact ih0 _ _ _ _ _)
   | (with_reducible exact ih1 _ _ _ _)
   | (with_reducible exact LeO.refl _)
   | (with_reducible exact LeO.none _)
   | (with_reducible refine LeO.ite ?_ ?_)
   | (with_reducible refine LeO.bind ?_ (fun _ => ?_))
   | exact ih0 _ _ _ _ _
   | exact ih1 _ _ _ _
   | exact LeO.none _
   | refine LeO.ite ?_ ?_
   | refine LeO.bind ?_ (fun _ => ?_)
set_option maxHeartbeats 8000000 in
set_option maxRecDepth 100000 in
theorem impl_Rule_42.calls (k : Nat) (A0 : Option Addr) (c0 : Nat) (l0 : List (List (S55))) (r : List (S55)) (w : World) (hr0 : Kd.C (Kd.slice 55 k55) w A0 l0.length l0) (hc0 : l0.length ≤ c0) (h : impl_Rule_42.f k l0 = some r) :
  Calls Try.prog 42 #[.slice A0 l0.length c0] w fun e w' => ∃ v0_ : Value, e = .returned (v0_) ∧ Kd.R k55 55 w' w.heap.size (fun _ => True) v0_ r ∧ Below w.heap.size w w' := by
 have HR0 := Gv.a0 hr0
 have HC0 := Gv.a0 hc0
 clear hr0 hc0
 have HB := Gv.a0 (Below.refl w.heap.size w)
 have H : (impl_Rule_42.l0 k l0 0 l0 (l0.length : Int) 0) = some r := h
 clear h
 have H' := Gv.a0 H
 clear H
 go_enter Try.func42, Try.ntmps42
 go_wp2
 go_loopg [3, 11] k (fun kq v3 v11 w' => ∃ (x3_1 : Int) (x11_1 : Int), v3 = .int .i64 x3_1 ∧ v11 = .int .i64 x11_1 ∧ Aside0 (impl_Rule_42.l0 kq l0 x3_1 l0 (l0.length : Int) x11_1 = some r) ∧ Aside0 (kq ≤ k) ∧ Aside0 (Below w.heap.size w w'))
 case atStart => exact ⟨(0), (0), Gv.rq, Gv.rq, H', ⟨Nat.le_refl _⟩, ⟨Gv.bw⟩⟩
 case round =>
  clear H'
  obtain ⟨x3_1, x11_1, rfl, rfl, HA, HK1, HB⟩ := hrel
  cases gk with
  | zero => exact absurd HA.out (by simp [impl_Rule_42.l0])
  | succ k1 =>
   have H := HA.out
   clear HA
   simp only [impl_Rule_42.l0] at H
   by_cases c2 : x11_1 < (l0.length : Int)
   ·rw [if_pos c2] at H
    have c2b0 : decide (x11_1 < (l0.length : Int)) = true := decide_eq_true c2
    clear c2
    by_cases c3 : 0 ≤ x11_1
    ·rw [if_pos c3] at H
     have c3b0 : decide (0 ≤ x11_1) = true := decide_eq_true c3
     clear c3
     by_cases c4 : x11_1 < (l0.length : Int)
     ·rw [if_pos c4] at H
      have c4b0 : decide (x11_1 < (l0.length : Int)) = true := decide_eq_true c4
      clear c4
      by_cases c5 : (wrap64 (x3_1 + ((rd_L9 l0 x11_1).length : Int))) < 0
      ·rw [if_pos c5] at H
       exact absurd H (by simp)
      ·rw [if_neg c5] at H
       have c5b0 : decide ((wrap64 (x3_1 + ((rd_L9 l0 x11_1).length : Int))) < 0) = false := decide_eq_false c5
       clear c5
       have H' := Gv.a0 H
       clear H
       have p390 : 0 ≤ (x11_1 : Int) := of_decide_eq_true (by first | (with_reducible assumption) | assumption)
       have q390 : x11_1 < (l0.length : Int) := of_decide_eq_true (by first | (with_reducible assumption) | assumption)
       obtain ⟨ad390, A390_0, c390_0, e390, hx390_0, hl390_0, hi390_0⟩ := at_L9 HR0.out x11_1 p390 q390
       cases e390
       replace hx390_0 := Gv.bx HB.out hx390_0
       have HR390_0 := Gv.a0 hi390_0
       have HC390_0 := Gv.a0 hl390_0
       clear hi390_0 hl390_0
       replace p390 := eq_true p390
       replace q390 := eq_true q390
       go_wp2
       go_roundg k1
       case measure => have := HK1.out; omega
       case rel => exact ⟨(wrap64 (x3_1 + ((rd_L9 l0 x11_1).length : Int))), (wrap64 (x11_1 + 1)), Gv.rq, Gv.rq, H', ⟨by have := HK1.out; omega⟩, ⟨Gv.bw⟩⟩
     ·rw [if_neg c4] at H
      exact absurd H (by simp)
    ·rw [if_neg c3] at H
     exact absurd H (by simp)
   ·rw [if_neg c2] at H
    have c2b0 : decide (x11_1 < (l0.length : Int)) = false := decide_eq_false c2
    clear c2
    replace H := Option.bind_eq_some_iff.mp H
    obtain ⟨t391, A60, H⟩ := H
    replace H : (impl_Rule_42.l1 k1 t391 l0 (l0.length : Int) 0) = some r := H
    have A6 := Gv.a0 A60
    clear A60
    have H' := Gv.a0 H
    clear H
    go_wp2_with (first | ((with_reducible refine gate_callee (f := 59) rfl ?_); refine goesL_ (some 24) rfl rfl Try.func59 (by kernel_rfl) rfl #[.slice none 0 0, .int .i64 x3_1] rfl Gv.lm ?_; (with_reducible refine (impl_Rule_59.calls x3_1 t391 _ A6.out).mono ?_); rintro e w7 ⟨v392, rfl, ho0, hb⟩; refine ⟨_, rfl, ?_⟩; have n0_ := Gv.a0 (Kd.R_lower ho0 (below_size Gv.bw)); have n1_ := Gv.a0 (below_step Gv.bw hb); clear HB; have HO393 := n0_; have HB := n1_; clear n0_ n1_; (try clear hb); (try clear hb2); (try clear hk); (try clear hi); (try clear ho0)))
    go_loopg [6, 27] k1 (fun kq v6 v27 w' => ∃ (x6_2 : List (S55)) (x27_2 : Int), v27 = .int .i64 x27_2 ∧ Aside0 (impl_Rule_42.l1 kq x6_2 l0 (l0.length : Int) x27_2 = some r) ∧ Aside0 (kq ≤ k1) ∧ Aside0 (Kd.R k55 55 w' w.heap.size (fun _ => True) v6 x6_2) ∧ Aside0 (Below w.heap.size w w'))
    case atStart => exact ⟨(t391), (0), Gv.rq, H', ⟨Nat.le_refl _⟩, ⟨Gv.kr HO393.out⟩, ⟨Gv.bw⟩⟩
    case round =>
     clear H'
     try clear c2
     try clear c2b0
     try clear p2
     try clear c3
     try clear c3b0
     try clear p3
     try clear q3
     try clear hx3
     try clear c4
     try clear c4b0
     try clear c5
     try clear c5b0
     try clear p6
     try clear hx390_0
     try clear p390
     try clear q390
     obtain ⟨x6_2, x27_2, rfl, HA, HK2, HO_6, HB⟩ := hrel
     cases gk with
     | zero => exact absurd HA.out (by simp [impl_Rule_42.l1])
     | succ k2 =>
      have H := HA.out
      clear HA
      simp only [impl_Rule_42.l1] at H
      by_cases c8 : x27_2 < (l0.length : Int)
      ·rw [if_pos c8] at H
       have c8b0 : decide (x27_2 < (l0.length : Int)) = true := decide_eq_true c8
       clear c8
       by_cases c9 : 0 ≤ x27_2
       ·rw [if_pos c9] at H
        have c9b0 : decide (0 ≤ x27_2) = true := decide_eq_true c9
        clear c9
        by_cases c10 : x27_2 < (l0.length : Int)
        ·rw [if_pos c10] at H
         have c10b0 : decide (x27_2 < (l0.length : Int)) = true := decide_eq_true c10
         clear c10
         by_cases c11 : x6_2.length + (rd_L9 l0 x27_2).length < 837723144972
         ·rw [if_pos c11] at H
          have LMc11 := Gv.a0 c11
          clear c11
          obtain ⟨y395, hy395⟩ : ∃ y_ : List (S55), y_ = (x6_2 ++ (rd_L9 l0 x27_2)) := ⟨_, rfl⟩
          replace H : (impl_Rule_42.l1 k2 y395 l0 (l0.length : Int) (wrap64 (x27_2 + 1))) = some r := by first | (rw [hy395]; with_reducible exact H) | (have H2_ := (Option.bind_some _ _).symm.trans H; rw [hy395]; with_reducible exact H2_) | (have H2_ := (Option.bind_some _ _).symm.trans H; with_reducible exact H2_) | with_reducible exact H | (rw [hy395]; exact H) | exact H
          have Ny395 := Gv.a0 hy395
          clear hy395
          have H' := Gv.a0 H
          clear H
          have p394 : 0 ≤ (x27_2 : Int) := of_decide_eq_true (by first | (with_reducible assumption) | assumption)
          have q394 : x27_2 < (l0.length : Int) := of_decide_eq_true (by first | (with_reducible assumption) | assumption)
          obtain ⟨ad394, A394_0, c394_0, e394, hx394_0, hl394_0, hi394_0⟩ := at_L9 HR0.out x27_2 p394 q394
          cases e394
          replace hx394_0 := Gv.bx HB.out hx394_0
          have HR394_0 := Gv.a0 hi394_0
          have HC394_0 := Gv.a0 hl394_0
          clear hi394_0 hl394_0
          replace p394 := eq_true p394
          replace q394 := eq_true q394
          go_wp2_with (first | ((with_reducible refine gate_builtin (b := .append) (xs := #[.tmp 31, .tmp 32]) rfl ?_); at_builtin; refine Kd.R_append_rows k55 (w0 := w) w.heap.size rfl (.tmp 31) (.tmp 32) 25 55 (.agg #[(.int .i64 0), (.int .i64 0), (.int .i64 0), (.int .i64 0), (.int .i64 0), (.int .i64 0), (.int .i64 0), (.int .i64 0), (.int .i64 0), (.int .i64 0), (.int .i64 0), (.int .i64 0), (.int .i64 0), (.int .i64 0), (.int .i64 0), (.int .i64 0), (.int .i64 0), (.int .i64 0), (.int .i64 0), (.int .i64 0), (.int .i64 0)]) 168 rfl Try.underlying25 info55 rfl (by decide) (by omega) u6 x6_2 (rd_L9 l0 x27_2) _ _ _ (fun _ => True) (fun _ => False) rfl rfl ?aO ?aR (fun _ _ h => h) (fun _ h => h.elim) ?aF ?aB ?aS ?aL ?_; (case aR => repeat (first | exact (Kd.C_below HR394_0.out HB.out) | (with_reducible refine Kd.C_alloc ?_ _) | (with_reducible refine Kd.C_drewN ?_ _) | (with_reducible refine Kd.C_drew ?_))); (case aB => exact Gv.bw); (case aF => exact (fun _ _ => trivial)); (case aO => exact (Gv.kr HO_6.out)); (case aS => exact (below_size Gv.bw)); (case aL => have := LMc11.out; omega); intro v396 w12 ho hb hg hat; rw [← Ny395.out] at ho; have n0_ := Gv.a0 (hb); have n1_ := Gv.a0 (ho); clear HB; clear HO_6; have HB := n0_; have HO397 := n1_; clear n0_ n1_; clear ho hb hg hat))
          go_roundg k2
          case measure => have := HK1.out; have := HK2.out; omega
          case rel => exact ⟨(y395), (wrap64 (x27_2 + 1)), Gv.rq, H', ⟨by have := HK1.out; have := HK2.out; omega⟩, ⟨Gv.kr HO397.out⟩, ⟨Gv.bw⟩⟩
         ·rw [if_neg c11] at H
          exact absurd H (by simp)
        ·rw [if_neg c10] at H
         exact absurd H (by simp)
       ·rw [if_neg c9] at H
        exact absurd H (by simp)
      ·rw [if_neg c8] at H
       have c8b0 : decide (x27_2 < (l0.length : Int)) = false := decide_eq_false c8
       clear c8
       obtain rfl := Option.some.inj H
       go_wp2
       go_ret
       exact ⟨_, Gv.rt, Gv.kr HO_6.out, Gv.bw⟩

end Go.Proofs.Ytbihbbkdciebhaa.PRa
