/- Plain Lean functions of a law's Go functions, their contracts, by a program of this session (wip/pr.py over the kit's print). -/
import Derived.Test.YtbpkmdghloapjaaPBcx0
import Derived.Test.YtbpkmdghloapjaaPBcx3
import Derived.Test.YtbpkmdghloapjaaPBcx4
import Derived.Test.YtbpkmdghloapjaaPBcx6
import Derived.Test.YtbpkmdghloapjaaPBcx7
namespace Go.Proofs.Ytbpkmdghloapjaa.PBc
open Go.RowKit Go.Proofs.YtbpkmdghloapjaaW.PrintWords Go.Proofs.YtbpkmdghloapjaaW.PrintLast Go.Proofs.YtbpkmdghloapjaaW.PrintMore
attribute [local go_sem] max2_int min2_int max_two min_two max_three min_three max_four min_four   -- for this text's walks alone
set_option linter.unusedVariables false
set_option linter.unusedSimpArgs false

attribute [local go_sem high] eqA38
/-! ### impl_ModuleOk: function 15 -/
def impl_ModuleOk.j0 : Nat → Int → Bool → Int → Int → Int → Int → Int → Int → Int → Int → Int → Int → Int → Int → Int → Int → Int → Int → Int → Int → Int → Int → Int → Int → Int → Int → Int → Int → Int → Int → Int → Int → Int → Int → Int → Int → Option (Bool)
 | 0, _, _, _, _, _, _, _, _, _, _, _, _, _, _, _, _, _, _, _, _, _, _, _, _, _, _, _, _, _, _, _, _, _, _, _, _ => none
 | k + 1, x6, x34, x366000, x366001, x366002, x366003, x366004, x366005, x366006, x366007, x366008, x366009, x366010, x366011, x366012, x366013, x366014, x366015, x366016, x367000, x367001, x367002, x367003, x367004, x367005, x367006, x367007, x367008, x367009, x367010, x367011, x367012, x367013, x367014, x367015, x367016 => if x34 = true then ((impl_arePairOf.f k x366001 x366002 x366003 x366004 x366005 x366006 x366007 x366008 x366009 x366010 x366011 x366012).bind fun t371 => (if t371 = true then (some (x367000 == x366000 && (x367013 == 0 && (x367014 == 0 && (x367015 == 0 && (x367016 == 0)))))) else (some false))) else (if x6 = 5 then ((impl_within.f x366016 0 63).bind fun t372 => (if t372 = true then (some (x367000 == x366000 && (((x367001 == 0 && (x367002 == 0 && (x367003 == 0 && (x367004 == 0 && (x367005 == 0))))) && (x367006 == 0)) && (((x367007 == 0 && (x367008 == 0 && (x367009 == 0 && (x367010 == 0 && (x367011 == 0))))) && (x367012 == 0)) && (x367013 == 0 && (x367014 == 0 && (x367015 == 0))))))) else (some false))) else (if x6 = 7 then ((impl_within.f x366016 1 4).bind fun t373 => (if t373 = true then (some (x367000 == x366000 && (((x367001 == 0 && (x367002 == 0 && (x367003 == 0 && (x367004 == 0 && (x367005 == 0))))) && (x367006 == 0)) && (((x367007 == 0 && (x367008 == 0 && (x367009 == 0 && (x367010 == 0 && (x367011 == 0))))) && (x367012 == 0)) && (x367013 == 0 && (x367014 == 0 && (x367015 == 0))))))) else (some false))) else (if x6 = 4 then (some (x367000 == x366000 && (((x367001 == 0 && (x367002 == 0 && (x367003 == 0 && (x367004 == 0 && (x367005 == 0))))) && (x367006 == 0)) && (((x367007 == 0 && (x367008 == 0 && (x367009 == 0 && (x367010 == 0 && (x367011 == 0))))) && (x367012 == 0)) && (x367013 == 0 && (x367014 == 0 && (x367015 == 0 && (x367016 == 0)))))))) else (if x6 = 6 then (some (x367000 == x366000 && (((x367001 == 0 && (x367002 == 0 && (x367003 == 0 && (x367004 == 0 && (x367005 == 0))))) && (x367006 == 0)) && (((x367007 == 0 && (x367008 == 0 && (x367009 == 0 && (x367010 == 0 && (x367011 == 0))))) && (x367012 == 0)) && (x367013 == 0 && (x367014 == 0 && (x367015 == 0 && (x367016 == 0)))))))) else (some false)))))
def impl_ModuleOk.f (k : Nat) (a0_0 : Int) (a0_1 : Int) (a0_2 : Int) (a0_3 : Int) (a0_4 : Int) (a0_5 : Int) (a0_6 : Int) (a0_7 : Int) (a0_8 : Int) (a0_9 : Int) (a0_10 : Int) (a0_11 : Int) (a0_12 : Int) (a0_13 : Int) (a0_14 : Int) (a0_15 : Int) (a0_16 : Int) : Option (Bool) := if a0_0 = 1 then ((impl_PrefixOk.f k a0_1 a0_2 a0_3 a0_4 a0_5 a0_6).bind fun t367 => (if t367 = true then ((impl_PrefixOk.f k a0_7 a0_8 a0_9 a0_10 a0_11 a0_12).bind fun t368 => (if t368 = true then ((impl_within.f a0_13 (-1) 255).bind fun t369 => (if t369 = true then ((impl_isRange.f a0_14 a0_15).bind fun t370 => (if t370 = true then (some (a0_16 == 0)) else (some false))) else (some false))) else (some false))) else (some false))) else (if a0_0 = 2 then (impl_ModuleOk.j0 k a0_0 (a0_0 == 2) a0_0 a0_1 a0_2 a0_3 a0_4 a0_5 a0_6 a0_7 a0_8 a0_9 a0_10 a0_11 a0_12 a0_13 a0_14 a0_15 a0_16 a0_0 a0_1 a0_2 a0_3 a0_4 a0_5 a0_6 a0_7 a0_8 a0_9 a0_10 a0_11 a0_12 a0_13 a0_14 a0_15 a0_16) else (impl_ModuleOk.j0 k a0_0 (a0_0 == 3) a0_0 a0_1 a0_2 a0_3 a0_4 a0_5 a0_6 a0_7 a0_8 a0_9 a0_10 a0_11 a0_12 a0_13 a0_14 a0_15 a0_16 a0_0 a0_1 a0_2 a0_3 a0_4 a0_5 a0_6 a0_7 a0_8 a0_9 a0_10 a0_11 a0_12 a0_13 a0_14 a0_15 a0_16))
theorem impl_ModuleOk.mono_l : ∀ k, (∀ y0 y1 y2 y3 y4 y5 y6 y7 y8 y9 y10 y11 y12 y13 y14 y15 y16 y17 y18 y19 y20 y21 y22 y23 y24 y25 y26 y27 y28 y29 y30 y31 y32 y33 y34 y35, LeO (impl_ModuleOk.j0 k y0 y1 y2 y3 y4 y5 y6 y7 y8 y9 y10 y11 y12 y13 y14 y15 y16 y17 y18 y19 y20 y21 y22 y23 y24 y25 y26 y27 y28 y29 y30 y31 y32 y33 y34 y35) (impl_ModuleOk.j0 (k + 1) y0 y1 y2 y3 y4 y5 y6 y7 y8 y9 y10 y11 y12 y13 y14 y15 y16 y17 y18 y19 y20 y21 y22 y23 y24 y25 y26 y27 y28 y29 y30 y31 y32 y33 y34 y35))
 | 0 => fun _ _ _ _ _ _ _ _ _ _ _ _ _ _ _ _ _ _ _ _ _ _ _ _ _ _ _ _ _ _ _ _ _ _ _ _ r h => by simp [impl_ModuleOk.j0] at h
 | k + 1 => by
  have ih0 := impl_ModuleOk.mono_l k
  ·intro y0 y1 y2 y3 y4 y5 y6 y7 y8 y9 y10 y11 y12 y13 y14 y15 y16 y17 y18 y19 y20 y21 y22 y23 y24 y25 y26 y27 y28 y29 y30 y31 y32 y33 y34 y35
   unfold impl_ModuleOk.j0
   repeat' first
   | (with_reducible exact ih0 _ _ _ _ _ _ _ _ _ _ _ _ _ _ _ _ _ _ _ _ _ _ _ _ _ _ _ _ _ _ _ _ _ _ _ _)
   | (with_reducible exact impl_PrefixOk.mono _ _ _ _ _ _ _)
   | (with_reducible exact impl_arePairOf.mono _ _ _ _ _ _ _ _ _ _ _ _ _)
   | (with_reducible exact LeO.refl _)
   | (with_reducible exact LeO.none _)
   | (with_reducible refine LeO.ite ?_ ?_)
   | (with_reducible refine LeO.bind ?_ (fun _ => ?_))
   | exact ih0 _ _ _ _ _ _ _ _ _ _ _ _ _ _ _ _ _ _ _ _ _ _ _ _ _ _ _ _ _ _ _ _ _ _ _ _
   | exact impl_PrefixOk.mono _ _ _ _ _ _ _
   | exact impl_arePairOf.mono _ _ _ _ _ _ _ _ _ _ _ _ _
   | exact LeO.none _
   | refine LeO.ite ?_ ?_
   | refine LeO.bind ?_ (fun _ => ?_)
theorem impl_ModuleOk.mono : ∀ a0 a1 a2 a3 a4 a5 a6 a7 a8 a9 a10 a11 a12 a13 a14 a15 a16 k, LeO (impl_ModuleOk.f k a0 a1 a2 a3 a4 a5 a6 a7 a8 a9 a10 a11 a12 a13 a14 a15 a16) (impl_ModuleOk.f (k + 1) a0 a1 a2 a3 a4 a5 a6 a7 a8 a9 a10 a11 a12 a13 a14 a15 a16) := by
 intro a0 a1 a2 a3 a4 a5 a6 a7 a8 a9 a10 a11 a12 a13 a14 a15 a16 k
 have ih0 := impl_ModuleOk.mono_l k
 unfold impl_ModuleOk.f
 repeat' first
   | (with_reducible exact ih0 _ _ _ _ _ _ _ _ _ _ _ _ _ _ _ _ _ _ _ _ _ _ _ _ _ _ _ _ _ _ _ _ _ _ _ _)
   | (with_reducible exact impl_PrefixOk.mono _ _ _ _ _ _ _)
   | (with_reducible exact impl_arePairOf.mono _ _ _ _ _ _ _ _ _ _ _ _ _)
   | (with_reducible exact LeO.refl _)
   | (with_reducible exact LeO.none _)
   | (with_reducible refine LeO.ite ?_ ?_)
   | (with_reducible refine LeO.bind ?_ (fun _ => ?_))
   | exact ih0 _ _ _ _ _ _ _ _ _ _ _ _ _ _ _ _ _ _ _ _ _ _ _ _ _ _ _ _ _ _ _ _ _ _ _ _
   | exact impl_PrefixOk.mono _ _ _ _ _ _ _
   | exact impl_arePairOf.mono _ _ _ _ _ _ _ _ _ _ _ _ _
   | exact LeO.none _
   | refine LeO.ite ?_ ?_
   | refine LeO.bind ?_ (fun _ => ?_)
set_option maxHeartbeats 8000000 in
set_option maxRecDepth 100000 in
theorem impl_ModuleOk.calls (k : Nat) (a0_0 : Int) (a0_1 : Int) (a0_2 : Int) (a0_3 : Int) (a0_4 : Int) (a0_5 : Int) (a0_6 : Int) (a0_7 : Int) (a0_8 : Int) (a0_9 : Int) (a0_10 : Int) (a0_11 : Int) (a0_12 : Int) (a0_13 : Int) (a0_14 : Int) (a0_15 : Int) (a0_16 : Int) (r : Bool) (w : World) (h : impl_ModuleOk.f k a0_0 a0_1 a0_2 a0_3 a0_4 a0_5 a0_6 a0_7 a0_8 a0_9 a0_10 a0_11 a0_12 a0_13 a0_14 a0_15 a0_16 = some r) :
  Calls Try.prog 15 #[.agg #[.int .i64 a0_0, .int .i64 a0_1, .int .i64 a0_2, .int .i64 a0_3, .int .i64 a0_4, .int .i64 a0_5, .int .i64 a0_6, .int .i64 a0_7, .int .i64 a0_8, .int .i64 a0_9, .int .i64 a0_10, .int .i64 a0_11, .int .i64 a0_12, .int .i64 a0_13, .int .i64 a0_14, .int .i64 a0_15, .int .i64 a0_16]] w fun e w' => e = .returned (.bool r) ∧ Below w.heap.size w w' := by
 have hu38 := Try.underlying38
 have hu29 := Try.underlying29
 have HB := Gv.a0 (Below.refl w.heap.size w)
 have H : (if a0_0 = 1 then ((impl_PrefixOk.f k a0_1 a0_2 a0_3 a0_4 a0_5 a0_6).bind fun t367 => (if t367 = true then ((impl_PrefixOk.f k a0_7 a0_8 a0_9 a0_10 a0_11 a0_12).bind fun t368 => (if t368 = true then ((impl_within.f a0_13 (-1) 255).bind fun t369 => (if t369 = true then ((impl_isRange.f a0_14 a0_15).bind fun t370 => (if t370 = true then (some (a0_16 == 0)) else (some false))) else (some false))) else (some false))) else (some false))) else (if a0_0 = 2 then (impl_ModuleOk.j0 k a0_0 (a0_0 == 2) a0_0 a0_1 a0_2 a0_3 a0_4 a0_5 a0_6 a0_7 a0_8 a0_9 a0_10 a0_11 a0_12 a0_13 a0_14 a0_15 a0_16 a0_0 a0_1 a0_2 a0_3 a0_4 a0_5 a0_6 a0_7 a0_8 a0_9 a0_10 a0_11 a0_12 a0_13 a0_14 a0_15 a0_16) else (impl_ModuleOk.j0 k a0_0 (a0_0 == 3) a0_0 a0_1 a0_2 a0_3 a0_4 a0_5 a0_6 a0_7 a0_8 a0_9 a0_10 a0_11 a0_12 a0_13 a0_14 a0_15 a0_16 a0_0 a0_1 a0_2 a0_3 a0_4 a0_5 a0_6 a0_7 a0_8 a0_9 a0_10 a0_11 a0_12 a0_13 a0_14 a0_15 a0_16))) = some r := h
 clear h
 by_cases c2 : a0_0 = 1
 ·rw [if_pos c2] at H
  have c2b0 : (a0_0 == 1) = true := beq_iff_eq.mpr c2
  have c2b1 : (a0_0 != 1) = false := bne_eq_false_iff_eq.mpr c2
  clear c2
  replace H := Option.bind_eq_some_iff.mp H
  obtain ⟨t367, A30, H⟩ := H
  replace H : (if t367 = true then ((impl_PrefixOk.f k a0_7 a0_8 a0_9 a0_10 a0_11 a0_12).bind fun t368 => (if t368 = true then ((impl_within.f a0_13 (-1) 255).bind fun t369 => (if t369 = true then ((impl_isRange.f a0_14 a0_15).bind fun t370 => (if t370 = true then (some (a0_16 == 0)) else (some false))) else (some false))) else (some false))) else (some false)) = some r := H
  have A3 := Gv.a0 A30
  clear A30
  by_cases c4 : t367 = true
  ·subst c4
   have H1 : ((impl_PrefixOk.f k a0_7 a0_8 a0_9 a0_10 a0_11 a0_12).bind fun t368 => (if t368 = true then ((impl_within.f a0_13 (-1) 255).bind fun t369 => (if t369 = true then ((impl_isRange.f a0_14 a0_15).bind fun t370 => (if t370 = true then (some (a0_16 == 0)) else (some false))) else (some false))) else (some false))) = some r := by rw [if_pos rfl] at H; exact H
   clear H
   have H := H1
   clear H1
   replace H := Option.bind_eq_some_iff.mp H
   obtain ⟨t368, A50, H⟩ := H
   replace H : (if t368 = true then ((impl_within.f a0_13 (-1) 255).bind fun t369 => (if t369 = true then ((impl_isRange.f a0_14 a0_15).bind fun t370 => (if t370 = true then (some (a0_16 == 0)) else (some false))) else (some false))) else (some false)) = some r := H
   have A5 := Gv.a0 A50
   clear A50
   by_cases c6 : t368 = true
   ·subst c6
    have H1 : ((impl_within.f a0_13 (-1) 255).bind fun t369 => (if t369 = true then ((impl_isRange.f a0_14 a0_15).bind fun t370 => (if t370 = true then (some (a0_16 == 0)) else (some false))) else (some false))) = some r := by rw [if_pos rfl] at H; exact H
    clear H
    have H := H1
    clear H1
    replace H := Option.bind_eq_some_iff.mp H
    obtain ⟨t369, A70, H⟩ := H
    replace H : (if t369 = true then ((impl_isRange.f a0_14 a0_15).bind fun t370 => (if t370 = true then (some (a0_16 == 0)) else (some false))) else (some false)) = some r := H
    have A7 := Gv.a0 A70
    clear A70
    by_cases c8 : t369 = true
    ·subst c8
     have H1 : ((impl_isRange.f a0_14 a0_15).bind fun t370 => (if t370 = true then (some (a0_16 == 0)) else (some false))) = some r := by rw [if_pos rfl] at H; exact H
     clear H
     have H := H1
     clear H1
     replace H := Option.bind_eq_some_iff.mp H
     obtain ⟨t370, A90, H⟩ := H
     replace H : (if t370 = true then (some (a0_16 == 0)) else (some false)) = some r := H
     have A9 := Gv.a0 A90
     clear A90
     by_cases c10 : t370 = true
     ·subst c10
      have H1 : (some (a0_16 == 0)) = some r := by rw [if_pos rfl] at H; exact H
      clear H
      have H := H1
      clear H1
      obtain rfl := Option.some.inj H
      go_enter Try.func15, Try.ntmps15
      go_wp2_with (first | ((with_reducible refine gate_dst (N := 1) rfl ?_); refine box_event ?hg (N := 1) ?hd (cs := #[.int .i64 a0_0, .int .i64 a0_1, .int .i64 a0_2, .int .i64 a0_3, .int .i64 a0_4, .int .i64 a0_5, .int .i64 a0_6, .int .i64 a0_7, .int .i64 a0_8, .int .i64 a0_9, .int .i64 a0_10, .int .i64 a0_11, .int .i64 a0_12, .int .i64 a0_13, .int .i64 a0_14, .int .i64 a0_15, .int .i64 a0_16]) (t := 38) ?hr ?_; (case hd => rfl); (case hg => rfl); (case hr => first | (go_simp; done) | (go_simp; rfl)); intro gb365 hg w11 hbox hb; have n0_ := Gv.a0 (below_step Gv.bw hb); have n1_ := Gv.a0 (hbox); have n2_ := Gv.a0 ((Gv.ble hg Gv.bw : w.heap.size ≤ gb365)); have n3_ := Gv.a0 ((Gv.ble hg Gv.bw : w.heap.size ≤ gb365)); clear HB; have HB := n0_; have BK365 := n1_; have GW365 := n2_; have GE365 := n3_; clear n0_ n1_ n2_ n3_; clear hb hbox hg; obtain ⟨hcz12_0, hcz12_1, hcz12_2, hcz12_3, hcz12_4, hcz12_5, hcz12_6, hcz12_7, hcz12_8, hcz12_9, hcz12_10, hcz12_11, hcz12_12, hcz12_13, hcz12_14, hcz12_15, hcz12_16⟩ := Gv.c17 BK365.out; obtain ⟨hfz12_0, hfz12_1, hfz12_2, hfz12_3, hfz12_4, hfz12_5, hfz12_6, hfz12_7, hfz12_8, hfz12_9, hfz12_10, hfz12_11, hfz12_12, hfz12_13, hfz12_14, hfz12_15, hfz12_16⟩ := Gv.f17 BK365.out) | ((with_reducible refine gate_store (t := 38) (p := 1) rfl ?_); refine Gv.store_event rfl rfl rfl rfl rfl (Gv.kb BK365.out) (by kernel_rfl) rfl (by simp; and_intros <;> rfl) ?_; intro w11s hbox hoth hbel; have n0_ := Gv.a0 (hbox); have n1_ := Gv.a0 (hbel w Gv.bw GE365.out); clear BK365 HB; have BK365 := n0_; have HB := n1_; clear n0_ n1_ hbox hoth hbel; (try clear hcz12_0 hcz12_1 hcz12_2 hcz12_3 hcz12_4 hcz12_5 hcz12_6 hcz12_7 hcz12_8 hcz12_9 hcz12_10 hcz12_11 hcz12_12 hcz12_13 hcz12_14 hcz12_15 hcz12_16 hfz12_0 hfz12_1 hfz12_2 hfz12_3 hfz12_4 hfz12_5 hfz12_6 hfz12_7 hfz12_8 hfz12_9 hfz12_10 hfz12_11 hfz12_12 hfz12_13 hfz12_14 hfz12_15 hfz12_16); obtain ⟨hcz12_0, hcz12_1, hcz12_2, hcz12_3, hcz12_4, hcz12_5, hcz12_6, hcz12_7, hcz12_8, hcz12_9, hcz12_10, hcz12_11, hcz12_12, hcz12_13, hcz12_14, hcz12_15, hcz12_16⟩ := Gv.c17 BK365.out; obtain ⟨hfz12_0, hfz12_1, hfz12_2, hfz12_3, hfz12_4, hfz12_5, hfz12_6, hfz12_7, hfz12_8, hfz12_9, hfz12_10, hfz12_11, hfz12_12, hfz12_13, hfz12_14, hfz12_15, hfz12_16⟩ := Gv.f17 BK365.out) | ((with_reducible refine gate_dst (N := 3) rfl ?_); refine box_event ?hg (N := 3) ?hd (cs := #[.int .i64 0, .int .i64 0, .int .i64 0, .int .i64 0, .int .i64 0, .int .i64 0, .int .i64 0, .int .i64 0, .int .i64 0, .int .i64 0, .int .i64 0, .int .i64 0, .int .i64 0, .int .i64 0, .int .i64 0, .int .i64 0, .int .i64 0]) (t := 38) ?hr ?_; (case hd => rfl); (case hg => rfl); (case hr => first | (go_simp; done) | (go_simp; rfl)); intro gb366 hg w13 hbox hb; have n0_ := Gv.a0 (Gv.bb BK365.out hb); have n1_ := Gv.a0 (below_step Gv.bw hb); have n2_ := Gv.a0 (hbox); have n3_ := Gv.a0 ((Gv.ble hg Gv.bw : w.heap.size ≤ gb366)); have n4_ := Gv.a0 ((Gv.ble hg Gv.bw : w.heap.size ≤ gb366)); have n5_ := Gv.a0 ((Gv.nlt hg (Gv.kb BK365.out) : gb365 ≠ gb366)); have n6_ := Gv.a0 ((Gv.ngt hg (Gv.kb BK365.out) : gb366 ≠ gb365)); clear BK365; clear HB; have BK365 := n0_; have HB := n1_; have BK366 := n2_; have GW366 := n3_; have GE366 := n4_; have NB365_366 := n5_; have NB366_365 := n6_; clear n0_ n1_ n2_ n3_ n4_ n5_ n6_; clear hb hbox hg; have hnb14 := NB366_365.out; have hnc14 := NB365_366.out; obtain ⟨hcz15_0, hcz15_1, hcz15_2, hcz15_3, hcz15_4, hcz15_5, hcz15_6, hcz15_7, hcz15_8, hcz15_9, hcz15_10, hcz15_11, hcz15_12, hcz15_13, hcz15_14, hcz15_15, hcz15_16⟩ := Gv.c17 BK366.out; obtain ⟨hfz15_0, hfz15_1, hfz15_2, hfz15_3, hfz15_4, hfz15_5, hfz15_6, hfz15_7, hfz15_8, hfz15_9, hfz15_10, hfz15_11, hfz15_12, hfz15_13, hfz15_14, hfz15_15, hfz15_16⟩ := Gv.f17 BK366.out; obtain ⟨hcz16_0, hcz16_1, hcz16_2, hcz16_3, hcz16_4, hcz16_5, hcz16_6, hcz16_7, hcz16_8, hcz16_9, hcz16_10, hcz16_11, hcz16_12, hcz16_13, hcz16_14, hcz16_15, hcz16_16⟩ := Gv.c17 BK365.out; obtain ⟨hfz16_0, hfz16_1, hfz16_2, hfz16_3, hfz16_4, hfz16_5, hfz16_6, hfz16_7, hfz16_8, hfz16_9, hfz16_10, hfz16_11, hfz16_12, hfz16_13, hfz16_14, hfz16_15, hfz16_16⟩ := Gv.f17 BK365.out) | ((with_reducible refine gate_store (t := 38) (p := 3) rfl ?_); refine Gv.store_event rfl rfl rfl rfl rfl (Gv.kb BK366.out) (by kernel_rfl) rfl (by simp; and_intros <;> rfl) ?_; intro w13s hbox hoth hbel; have n0_ := Gv.a0 (hbox); have n1_ := Gv.a0 (hbel w Gv.bw GE366.out); have n2_ := Gv.a0 ((hoth gb365 NB365_366.out).trans (Gv.kb BK365.out)); clear BK366 HB BK365; have BK366 := n0_; have HB := n1_; have BK365 := n2_; clear n0_ n1_ n2_ hbox hoth hbel; (try clear hcz15_0 hcz15_1 hcz15_2 hcz15_3 hcz15_4 hcz15_5 hcz15_6 hcz15_7 hcz15_8 hcz15_9 hcz15_10 hcz15_11 hcz15_12 hcz15_13 hcz15_14 hcz15_15 hcz15_16 hfz15_0 hfz15_1 hfz15_2 hfz15_3 hfz15_4 hfz15_5 hfz15_6 hfz15_7 hfz15_8 hfz15_9 hfz15_10 hfz15_11 hfz15_12 hfz15_13 hfz15_14 hfz15_15 hfz15_16 hcz16_0 hcz16_1 hcz16_2 hcz16_3 hcz16_4 hcz16_5 hcz16_6 hcz16_7 hcz16_8 hcz16_9 hcz16_10 hcz16_11 hcz16_12 hcz16_13 hcz16_14 hcz16_15 hcz16_16 hfz16_0 hfz16_1 hfz16_2 hfz16_3 hfz16_4 hfz16_5 hfz16_6 hfz16_7 hfz16_8 hfz16_9 hfz16_10 hfz16_11 hfz16_12 hfz16_13 hfz16_14 hfz16_15 hfz16_16); obtain ⟨hcz15_0, hcz15_1, hcz15_2, hcz15_3, hcz15_4, hcz15_5, hcz15_6, hcz15_7, hcz15_8, hcz15_9, hcz15_10, hcz15_11, hcz15_12, hcz15_13, hcz15_14, hcz15_15, hcz15_16⟩ := Gv.c17 BK366.out; obtain ⟨hfz15_0, hfz15_1, hfz15_2, hfz15_3, hfz15_4, hfz15_5, hfz15_6, hfz15_7, hfz15_8, hfz15_9, hfz15_10, hfz15_11, hfz15_12, hfz15_13, hfz15_14, hfz15_15, hfz15_16⟩ := Gv.f17 BK366.out; obtain ⟨hcz16_0, hcz16_1, hcz16_2, hcz16_3, hcz16_4, hcz16_5, hcz16_6, hcz16_7, hcz16_8, hcz16_9, hcz16_10, hcz16_11, hcz16_12, hcz16_13, hcz16_14, hcz16_15, hcz16_16⟩ := Gv.c17 BK365.out; obtain ⟨hfz16_0, hfz16_1, hfz16_2, hfz16_3, hfz16_4, hfz16_5, hfz16_6, hfz16_7, hfz16_8, hfz16_9, hfz16_10, hfz16_11, hfz16_12, hfz16_13, hfz16_14, hfz16_15, hfz16_16⟩ := Gv.f17 BK365.out) | ((with_reducible refine gate_callee (f := 43) rfl ?_); refine goesL_ (some 11) rfl rfl Try.func43 (by kernel_rfl) rfl #[.agg #[.int .i64 a0_1, .int .i64 a0_2, .int .i64 a0_3, .int .i64 a0_4, .int .i64 a0_5, .int .i64 a0_6]] rfl Gv.lm ?_; (with_reducible refine (impl_PrefixOk.calls k a0_1 a0_2 a0_3 a0_4 a0_5 a0_6 true _ A3.out).mono ?_); rintro e w17 ⟨rfl, hb⟩; refine ⟨_, rfl, ?_⟩; have n0_ := Gv.a0 (blk_below (g := gb365) (o := .cells #[.int .i64 a0_0, .int .i64 a0_1, .int .i64 a0_2, .int .i64 a0_3, .int .i64 a0_4, .int .i64 a0_5, .int .i64 a0_6, .int .i64 a0_7, .int .i64 a0_8, .int .i64 a0_9, .int .i64 a0_10, .int .i64 a0_11, .int .i64 a0_12, .int .i64 a0_13, .int .i64 a0_14, .int .i64 a0_15, .int .i64 a0_16] 38 (0, 0)) Gv.bkf hb); have n1_ := Gv.a0 (blk_below (g := gb366) (o := .cells #[.int .i64 a0_0, .int .i64 a0_1, .int .i64 a0_2, .int .i64 a0_3, .int .i64 a0_4, .int .i64 a0_5, .int .i64 a0_6, .int .i64 a0_7, .int .i64 a0_8, .int .i64 a0_9, .int .i64 a0_10, .int .i64 a0_11, .int .i64 a0_12, .int .i64 a0_13, .int .i64 a0_14, .int .i64 a0_15, .int .i64 a0_16] 38 (0, 0)) (by (with_reducible repeat (first | refine blk_drewN ?_ _ | refine blk_drew ?_ | refine blk_alloc ?_ _)); exact BK366.out) hb); have n2_ := Gv.a0 (below_step Gv.bw hb); clear BK365; clear BK366; clear HB; have BK365 := n0_; have BK366 := n1_; have HB := n2_; clear n0_ n1_ n2_; (try clear hb); (try clear hb2); (try clear hk); (try clear hi); obtain ⟨hcz18_0, hcz18_1, hcz18_2, hcz18_3, hcz18_4, hcz18_5, hcz18_6, hcz18_7, hcz18_8, hcz18_9, hcz18_10, hcz18_11, hcz18_12, hcz18_13, hcz18_14, hcz18_15, hcz18_16⟩ := Gv.c17 BK365.out; obtain ⟨hfz18_0, hfz18_1, hfz18_2, hfz18_3, hfz18_4, hfz18_5, hfz18_6, hfz18_7, hfz18_8, hfz18_9, hfz18_10, hfz18_11, hfz18_12, hfz18_13, hfz18_14, hfz18_15, hfz18_16⟩ := Gv.f17 BK365.out) | (go_at_call 43; (with_reducible refine (impl_PrefixOk.calls k a0_7 a0_8 a0_9 a0_10 a0_11 a0_12 true _ A5.out).mono ?_); rintro e w19 ⟨rfl, hb⟩; have n0_ := Gv.a0 (Gv.bb BK365.out hb); have n1_ := Gv.a0 (Gv.bb BK366.out hb); have n2_ := Gv.a0 (below_step Gv.bw hb); clear BK365; clear BK366; clear HB; have BK365 := n0_; have BK366 := n1_; have HB := n2_; clear n0_ n1_ n2_; (try clear hb); (try clear hb2); (try clear hk); (try clear hi); obtain ⟨hcz20_0, hcz20_1, hcz20_2, hcz20_3, hcz20_4, hcz20_5, hcz20_6, hcz20_7, hcz20_8, hcz20_9, hcz20_10, hcz20_11, hcz20_12, hcz20_13, hcz20_14, hcz20_15, hcz20_16⟩ := Gv.c17 BK365.out; obtain ⟨hfz20_0, hfz20_1, hfz20_2, hfz20_3, hfz20_4, hfz20_5, hfz20_6, hfz20_7, hfz20_8, hfz20_9, hfz20_10, hfz20_11, hfz20_12, hfz20_13, hfz20_14, hfz20_15, hfz20_16⟩ := Gv.f17 BK365.out) | (go_at_call 44; (with_reducible refine (impl_within.calls a0_13 (-1) 255 true _ A7.out).mono ?_); rintro e w' ⟨rfl, ⟨nd, rfl⟩⟩) | (go_at_call 45; (with_reducible refine (impl_isRange.calls a0_14 a0_15 true _ A9.out).mono ?_); rintro e w' ⟨rfl, ⟨nd, rfl⟩⟩) | ((with_reducible refine Gv.gate_load (t := 38) rfl ?_); (try (refine gate_guard (by rfl) ?_; dsimp only)); refine wpList_load_row rfl 38 _ rfl gb365 rfl 38 _ _ _ (by first | exact Gv.kb0 BK365.out | exact Gv.kb1 (Gv.kb0 BK365.out)) Try.underlying38 rfl (by kernel_rfl) ?_) | ((with_reducible refine Gv.gate_load (t := 38) rfl ?_); (try (refine gate_guard (by rfl) ?_; dsimp only)); refine wpList_load_row rfl 38 _ rfl gb366 rfl 38 _ _ _ (by first | exact Gv.kb0 BK366.out | exact Gv.kb1 (Gv.kb0 BK366.out)) Try.underlying38 rfl (by kernel_rfl) ?_) | ((with_reducible refine gate_store (t := 3) rfl ?_); refine Gv.put_event (g := gb365) rfl rfl rfl rfl rfl (Gv.kb0 BK365.out) (by kernel_rfl) (by simp) ?_; intro wp_ hbox hoth hbel; simp only [List.setIfInBounds_toArray, List.set_cons_succ, List.set_cons_zero] at hbox; have n0_ := Gv.a0 hbox; have n1_ := Gv.a0 (hbel w Gv.bw GE365.out); have n2_ := Gv.a0 ((hoth gb366 NB366_365.out).trans (Gv.kb0 BK366.out)); clear BK365 HB BK366; have BK365 := n0_; have HB := n1_; have BK366 := n2_; clear n0_ n1_ n2_ hbox hoth hbel; obtain ⟨pc365_0, pc365_1, pc365_2, pc365_3, pc365_4, pc365_5, pc365_6, pc365_7, pc365_8, pc365_9, pc365_10, pc365_11, pc365_12, pc365_13, pc365_14, pc365_15, pc365_16⟩ := Gv.c17 BK365.out; obtain ⟨pf365_0, pf365_1, pf365_2, pf365_3, pf365_4, pf365_5, pf365_6, pf365_7, pf365_8, pf365_9, pf365_10, pf365_11, pf365_12, pf365_13, pf365_14, pf365_15, pf365_16⟩ := Gv.f17 BK365.out; obtain ⟨pc366_0, pc366_1, pc366_2, pc366_3, pc366_4, pc366_5, pc366_6, pc366_7, pc366_8, pc366_9, pc366_10, pc366_11, pc366_12, pc366_13, pc366_14, pc366_15, pc366_16⟩ := Gv.c17 BK366.out; obtain ⟨pf366_0, pf366_1, pf366_2, pf366_3, pf366_4, pf366_5, pf366_6, pf366_7, pf366_8, pf366_9, pf366_10, pf366_11, pf366_12, pf366_13, pf366_14, pf366_15, pf366_16⟩ := Gv.f17 BK366.out) | ((with_reducible refine gate_store (t := 3) rfl ?_); refine Gv.put_event (g := gb366) rfl rfl rfl rfl rfl (Gv.kb0 BK366.out) (by kernel_rfl) (by simp) ?_; intro wp_ hbox hoth hbel; simp only [List.setIfInBounds_toArray, List.set_cons_succ, List.set_cons_zero] at hbox; have n0_ := Gv.a0 hbox; have n1_ := Gv.a0 (hbel w Gv.bw GE366.out); have n2_ := Gv.a0 ((hoth gb365 NB365_366.out).trans (Gv.kb0 BK365.out)); clear BK366 HB BK365; have BK366 := n0_; have HB := n1_; have BK365 := n2_; clear n0_ n1_ n2_ hbox hoth hbel; obtain ⟨pc366_0, pc366_1, pc366_2, pc366_3, pc366_4, pc366_5, pc366_6, pc366_7, pc366_8, pc366_9, pc366_10, pc366_11, pc366_12, pc366_13, pc366_14, pc366_15, pc366_16⟩ := Gv.c17 BK366.out; obtain ⟨pf366_0, pf366_1, pf366_2, pf366_3, pf366_4, pf366_5, pf366_6, pf366_7, pf366_8, pf366_9, pf366_10, pf366_11, pf366_12, pf366_13, pf366_14, pf366_15, pf366_16⟩ := Gv.f17 BK366.out; obtain ⟨pc365_0, pc365_1, pc365_2, pc365_3, pc365_4, pc365_5, pc365_6, pc365_7, pc365_8, pc365_9, pc365_10, pc365_11, pc365_12, pc365_13, pc365_14, pc365_15, pc365_16⟩ := Gv.c17 BK365.out; obtain ⟨pf365_0, pf365_1, pf365_2, pf365_3, pf365_4, pf365_5, pf365_6, pf365_7, pf365_8, pf365_9, pf365_10, pf365_11, pf365_12, pf365_13, pf365_14, pf365_15, pf365_16⟩ := Gv.f17 BK365.out))
      go_ret
      exact ⟨Gv.rt, Gv.bw⟩
     ·replace c10 := Bool.eq_false_iff.mpr c10
      subst c10
      have H1 : (some false) = some r := by rw [if_neg (show ¬ (false = true) by decide)] at H; exact H
      clear H
      have H := H1
      clear H1
      obtain rfl := Option.some.inj H
      go_enter Try.func15, Try.ntmps15
      go_wp2_with (first | ((with_reducible refine gate_dst (N := 1) rfl ?_); refine box_event ?hg (N := 1) ?hd (cs := #[.int .i64 a0_0, .int .i64 a0_1, .int .i64 a0_2, .int .i64 a0_3, .int .i64 a0_4, .int .i64 a0_5, .int .i64 a0_6, .int .i64 a0_7, .int .i64 a0_8, .int .i64 a0_9, .int .i64 a0_10, .int .i64 a0_11, .int .i64 a0_12, .int .i64 a0_13, .int .i64 a0_14, .int .i64 a0_15, .int .i64 a0_16]) (t := 38) ?hr ?_; (case hd => rfl); (case hg => rfl); (case hr => first | (go_simp; done) | (go_simp; rfl)); intro gb365 hg w21 hbox hb; have n0_ := Gv.a0 (below_step Gv.bw hb); have n1_ := Gv.a0 (hbox); have n2_ := Gv.a0 ((Gv.ble hg Gv.bw : w.heap.size ≤ gb365)); have n3_ := Gv.a0 ((Gv.ble hg Gv.bw : w.heap.size ≤ gb365)); clear HB; have HB := n0_; have BK365 := n1_; have GW365 := n2_; have GE365 := n3_; clear n0_ n1_ n2_ n3_; clear hb hbox hg; obtain ⟨hcz22_0, hcz22_1, hcz22_2, hcz22_3, hcz22_4, hcz22_5, hcz22_6, hcz22_7, hcz22_8, hcz22_9, hcz22_10, hcz22_11, hcz22_12, hcz22_13, hcz22_14, hcz22_15, hcz22_16⟩ := Gv.c17 BK365.out; obtain ⟨hfz22_0, hfz22_1, hfz22_2, hfz22_3, hfz22_4, hfz22_5, hfz22_6, hfz22_7, hfz22_8, hfz22_9, hfz22_10, hfz22_11, hfz22_12, hfz22_13, hfz22_14, hfz22_15, hfz22_16⟩ := Gv.f17 BK365.out) | ((with_reducible refine gate_store (t := 38) (p := 1) rfl ?_); refine Gv.store_event rfl rfl rfl rfl rfl (Gv.kb BK365.out) (by kernel_rfl) rfl (by simp; and_intros <;> rfl) ?_; intro w21s hbox hoth hbel; have n0_ := Gv.a0 (hbox); have n1_ := Gv.a0 (hbel w Gv.bw GE365.out); clear BK365 HB; have BK365 := n0_; have HB := n1_; clear n0_ n1_ hbox hoth hbel; (try clear hcz22_0 hcz22_1 hcz22_2 hcz22_3 hcz22_4 hcz22_5 hcz22_6 hcz22_7 hcz22_8 hcz22_9 hcz22_10 hcz22_11 hcz22_12 hcz22_13 hcz22_14 hcz22_15 hcz22_16 hfz22_0 hfz22_1 hfz22_2 hfz22_3 hfz22_4 hfz22_5 hfz22_6 hfz22_7 hfz22_8 hfz22_9 hfz22_10 hfz22_11 hfz22_12 hfz22_13 hfz22_14 hfz22_15 hfz22_16); obtain ⟨hcz22_0, hcz22_1, hcz22_2, hcz22_3, hcz22_4, hcz22_5, hcz22_6, hcz22_7, hcz22_8, hcz22_9, hcz22_10, hcz22_11, hcz22_12, hcz22_13, hcz22_14, hcz22_15, hcz22_16⟩ := Gv.c17 BK365.out; obtain ⟨hfz22_0, hfz22_1, hfz22_2, hfz22_3, hfz22_4, hfz22_5, hfz22_6, hfz22_7, hfz22_8, hfz22_9, hfz22_10, hfz22_11, hfz22_12, hfz22_13, hfz22_14, hfz22_15, hfz22_16⟩ := Gv.f17 BK365.out) | ((with_reducible refine gate_dst (N := 3) rfl ?_); refine box_event ?hg (N := 3) ?hd (cs := #[.int .i64 0, .int .i64 0, .int .i64 0, .int .i64 0, .int .i64 0, .int .i64 0, .int .i64 0, .int .i64 0, .int .i64 0, .int .i64 0, .int .i64 0, .int .i64 0, .int .i64 0, .int .i64 0, .int .i64 0, .int .i64 0, .int .i64 0]) (t := 38) ?hr ?_; (case hd => rfl); (case hg => rfl); (case hr => first | (go_simp; done) | (go_simp; rfl)); intro gb366 hg w23 hbox hb; have n0_ := Gv.a0 (Gv.bb BK365.out hb); have n1_ := Gv.a0 (below_step Gv.bw hb); have n2_ := Gv.a0 (hbox); have n3_ := Gv.a0 ((Gv.ble hg Gv.bw : w.heap.size ≤ gb366)); have n4_ := Gv.a0 ((Gv.ble hg Gv.bw : w.heap.size ≤ gb366)); have n5_ := Gv.a0 ((Gv.nlt hg (Gv.kb BK365.out) : gb365 ≠ gb366)); have n6_ := Gv.a0 ((Gv.ngt hg (Gv.kb BK365.out) : gb366 ≠ gb365)); clear BK365; clear HB; have BK365 := n0_; have HB := n1_; have BK366 := n2_; have GW366 := n3_; have GE366 := n4_; have NB365_366 := n5_; have NB366_365 := n6_; clear n0_ n1_ n2_ n3_ n4_ n5_ n6_; clear hb hbox hg; have hnb24 := NB366_365.out; have hnc24 := NB365_366.out; obtain ⟨hcz25_0, hcz25_1, hcz25_2, hcz25_3, hcz25_4, hcz25_5, hcz25_6, hcz25_7, hcz25_8, hcz25_9, hcz25_10, hcz25_11, hcz25_12, hcz25_13, hcz25_14, hcz25_15, hcz25_16⟩ := Gv.c17 BK366.out; obtain ⟨hfz25_0, hfz25_1, hfz25_2, hfz25_3, hfz25_4, hfz25_5, hfz25_6, hfz25_7, hfz25_8, hfz25_9, hfz25_10, hfz25_11, hfz25_12, hfz25_13, hfz25_14, hfz25_15, hfz25_16⟩ := Gv.f17 BK366.out; obtain ⟨hcz26_0, hcz26_1, hcz26_2, hcz26_3, hcz26_4, hcz26_5, hcz26_6, hcz26_7, hcz26_8, hcz26_9, hcz26_10, hcz26_11, hcz26_12, hcz26_13, hcz26_14, hcz26_15, hcz26_16⟩ := Gv.c17 BK365.out; obtain ⟨hfz26_0, hfz26_1, hfz26_2, hfz26_3, hfz26_4, hfz26_5, hfz26_6, hfz26_7, hfz26_8, hfz26_9, hfz26_10, hfz26_11, hfz26_12, hfz26_13, hfz26_14, hfz26_15, hfz26_16⟩ := Gv.f17 BK365.out) | ((with_reducible refine gate_store (t := 38) (p := 3) rfl ?_); refine Gv.store_event rfl rfl rfl rfl rfl (Gv.kb BK366.out) (by kernel_rfl) rfl (by simp; and_intros <;> rfl) ?_; intro w23s hbox hoth hbel; have n0_ := Gv.a0 (hbox); have n1_ := Gv.a0 (hbel w Gv.bw GE366.out); have n2_ := Gv.a0 ((hoth gb365 NB365_366.out).trans (Gv.kb BK365.out)); clear BK366 HB BK365; have BK366 := n0_; have HB := n1_; have BK365 := n2_; clear n0_ n1_ n2_ hbox hoth hbel; (try clear hcz25_0 hcz25_1 hcz25_2 hcz25_3 hcz25_4 hcz25_5 hcz25_6 hcz25_7 hcz25_8 hcz25_9 hcz25_10 hcz25_11 hcz25_12 hcz25_13 hcz25_14 hcz25_15 hcz25_16 hfz25_0 hfz25_1 hfz25_2 hfz25_3 hfz25_4 hfz25_5 hfz25_6 hfz25_7 hfz25_8 hfz25_9 hfz25_10 hfz25_11 hfz25_12 hfz25_13 hfz25_14 hfz25_15 hfz25_16 hcz26_0 hcz26_1 hcz26_2 hcz26_3 hcz26_4 hcz26_5 hcz26_6 hcz26_7 hcz26_8 hcz26_9 hcz26_10 hcz26_11 hcz26_12 hcz26_13 hcz26_14 hcz26_15 hcz26_16 hfz26_0 hfz26_1 hfz26_2 hfz26_3 hfz26_4 hfz26_5 hfz26_6 hfz26_7 hfz26_8 hfz26_9 hfz26_10 hfz26_11 hfz26_12 hfz26_13 hfz26_14 hfz26_15 hfz26_16); obtain ⟨hcz25_0, hcz25_1, hcz25_2, hcz25_3, hcz25_4, hcz25_5, hcz25_6, hcz25_7, hcz25_8, hcz25_9, hcz25_10, hcz25_11, hcz25_12, hcz25_13, hcz25_14, hcz25_15, hcz25_16⟩ := Gv.c17 BK366.out; obtain ⟨hfz25_0, hfz25_1, hfz25_2, hfz25_3, hfz25_4, hfz25_5, hfz25_6, hfz25_7, hfz25_8, hfz25_9, hfz25_10, hfz25_11, hfz25_12, hfz25_13, hfz25_14, hfz25_15, hfz25_16⟩ := Gv.f17 BK366.out; obtain ⟨hcz26_0, hcz26_1, hcz26_2, hcz26_3, hcz26_4, hcz26_5, hcz26_6, hcz26_7, hcz26_8, hcz26_9, hcz26_10, hcz26_11, hcz26_12, hcz26_13, hcz26_14, hcz26_15, hcz26_16⟩ := Gv.c17 BK365.out; obtain ⟨hfz26_0, hfz26_1, hfz26_2, hfz26_3, hfz26_4, hfz26_5, hfz26_6, hfz26_7, hfz26_8, hfz26_9, hfz26_10, hfz26_11, hfz26_12, hfz26_13, hfz26_14, hfz26_15, hfz26_16⟩ := Gv.f17 BK365.out) | ((with_reducible refine gate_callee (f := 43) rfl ?_); refine goesL_ (some 11) rfl rfl Try.func43 (by kernel_rfl) rfl #[.agg #[.int .i64 a0_1, .int .i64 a0_2, .int .i64 a0_3, .int .i64 a0_4, .int .i64 a0_5, .int .i64 a0_6]] rfl Gv.lm ?_; (with_reducible refine (impl_PrefixOk.calls k a0_1 a0_2 a0_3 a0_4 a0_5 a0_6 true _ A3.out).mono ?_); rintro e w27 ⟨rfl, hb⟩; refine ⟨_, rfl, ?_⟩; have n0_ := Gv.a0 (blk_below (g := gb365) (o := .cells #[.int .i64 a0_0, .int .i64 a0_1, .int .i64 a0_2, .int .i64 a0_3, .int .i64 a0_4, .int .i64 a0_5, .int .i64 a0_6, .int .i64 a0_7, .int .i64 a0_8, .int .i64 a0_9, .int .i64 a0_10, .int .i64 a0_11, .int .i64 a0_12, .int .i64 a0_13, .int .i64 a0_14, .int .i64 a0_15, .int .i64 a0_16] 38 (0, 0)) Gv.bkf hb); have n1_ := Gv.a0 (blk_below (g := gb366) (o := .cells #[.int .i64 a0_0, .int .i64 a0_1, .int .i64 a0_2, .int .i64 a0_3, .int .i64 a0_4, .int .i64 a0_5, .int .i64 a0_6, .int .i64 a0_7, .int .i64 a0_8, .int .i64 a0_9, .int .i64 a0_10, .int .i64 a0_11, .int .i64 a0_12, .int .i64 a0_13, .int .i64 a0_14, .int .i64 a0_15, .int .i64 a0_16] 38 (0, 0)) (by (with_reducible repeat (first | refine blk_drewN ?_ _ | refine blk_drew ?_ | refine blk_alloc ?_ _)); exact BK366.out) hb); have n2_ := Gv.a0 (below_step Gv.bw hb); clear BK365; clear BK366; clear HB; have BK365 := n0_; have BK366 := n1_; have HB := n2_; clear n0_ n1_ n2_; (try clear hb); (try clear hb2); (try clear hk); (try clear hi); obtain ⟨hcz28_0, hcz28_1, hcz28_2, hcz28_3, hcz28_4, hcz28_5, hcz28_6, hcz28_7, hcz28_8, hcz28_9, hcz28_10, hcz28_11, hcz28_12, hcz28_13, hcz28_14, hcz28_15, hcz28_16⟩ := Gv.c17 BK365.out; obtain ⟨hfz28_0, hfz28_1, hfz28_2, hfz28_3, hfz28_4, hfz28_5, hfz28_6, hfz28_7, hfz28_8, hfz28_9, hfz28_10, hfz28_11, hfz28_12, hfz28_13, hfz28_14, hfz28_15, hfz28_16⟩ := Gv.f17 BK365.out) | (go_at_call 43; (with_reducible refine (impl_PrefixOk.calls k a0_7 a0_8 a0_9 a0_10 a0_11 a0_12 true _ A5.out).mono ?_); rintro e w29 ⟨rfl, hb⟩; have n0_ := Gv.a0 (Gv.bb BK365.out hb); have n1_ := Gv.a0 (Gv.bb BK366.out hb); have n2_ := Gv.a0 (below_step Gv.bw hb); clear BK365; clear BK366; clear HB; have BK365 := n0_; have BK366 := n1_; have HB := n2_; clear n0_ n1_ n2_; (try clear hb); (try clear hb2); (try clear hk); (try clear hi); obtain ⟨hcz30_0, hcz30_1, hcz30_2, hcz30_3, hcz30_4, hcz30_5, hcz30_6, hcz30_7, hcz30_8, hcz30_9, hcz30_10, hcz30_11, hcz30_12, hcz30_13, hcz30_14, hcz30_15, hcz30_16⟩ := Gv.c17 BK365.out; obtain ⟨hfz30_0, hfz30_1, hfz30_2, hfz30_3, hfz30_4, hfz30_5, hfz30_6, hfz30_7, hfz30_8, hfz30_9, hfz30_10, hfz30_11, hfz30_12, hfz30_13, hfz30_14, hfz30_15, hfz30_16⟩ := Gv.f17 BK365.out) | (go_at_call 44; (with_reducible refine (impl_within.calls a0_13 (-1) 255 true _ A7.out).mono ?_); rintro e w' ⟨rfl, ⟨nd, rfl⟩⟩) | (go_at_call 45; (with_reducible refine (impl_isRange.calls a0_14 a0_15 false _ A9.out).mono ?_); rintro e w' ⟨rfl, ⟨nd, rfl⟩⟩) | ((with_reducible refine Gv.gate_load (t := 38) rfl ?_); (try (refine gate_guard (by rfl) ?_; dsimp only)); refine wpList_load_row rfl 38 _ rfl gb365 rfl 38 _ _ _ (by first | exact Gv.kb0 BK365.out | exact Gv.kb1 (Gv.kb0 BK365.out)) Try.underlying38 rfl (by kernel_rfl) ?_) | ((with_reducible refine Gv.gate_load (t := 38) rfl ?_); (try (refine gate_guard (by rfl) ?_; dsimp only)); refine wpList_load_row rfl 38 _ rfl gb366 rfl 38 _ _ _ (by first | exact Gv.kb0 BK366.out | exact Gv.kb1 (Gv.kb0 BK366.out)) Try.underlying38 rfl (by kernel_rfl) ?_) | ((with_reducible refine gate_store (t := 3) rfl ?_); refine Gv.put_event (g := gb365) rfl rfl rfl rfl rfl (Gv.kb0 BK365.out) (by kernel_rfl) (by simp) ?_; intro wp_ hbox hoth hbel; simp only [List.setIfInBounds_toArray, List.set_cons_succ, List.set_cons_zero] at hbox; have n0_ := Gv.a0 hbox; have n1_ := Gv.a0 (hbel w Gv.bw GE365.out); have n2_ := Gv.a0 ((hoth gb366 NB366_365.out).trans (Gv.kb0 BK366.out)); clear BK365 HB BK366; have BK365 := n0_; have HB := n1_; have BK366 := n2_; clear n0_ n1_ n2_ hbox hoth hbel; obtain ⟨pc365_0, pc365_1, pc365_2, pc365_3, pc365_4, pc365_5, pc365_6, pc365_7, pc365_8, pc365_9, pc365_10, pc365_11, pc365_12, pc365_13, pc365_14, pc365_15, pc365_16⟩ := Gv.c17 BK365.out; obtain ⟨pf365_0, pf365_1, pf365_2, pf365_3, pf365_4, pf365_5, pf365_6, pf365_7, pf365_8, pf365_9, pf365_10, pf365_11, pf365_12, pf365_13, pf365_14, pf365_15, pf365_16⟩ := Gv.f17 BK365.out; obtain ⟨pc366_0, pc366_1, pc366_2, pc366_3, pc366_4, pc366_5, pc366_6, pc366_7, pc366_8, pc366_9, pc366_10, pc366_11, pc366_12, pc366_13, pc366_14, pc366_15, pc366_16⟩ := Gv.c17 BK366.out; obtain ⟨pf366_0, pf366_1, pf366_2, pf366_3, pf366_4, pf366_5, pf366_6, pf366_7, pf366_8, pf366_9, pf366_10, pf366_11, pf366_12, pf366_13, pf366_14, pf366_15, pf366_16⟩ := Gv.f17 BK366.out) | ((with_reducible refine gate_store (t := 3) rfl ?_); refine Gv.put_event (g := gb366) rfl rfl rfl rfl rfl (Gv.kb0 BK366.out) (by kernel_rfl) (by simp) ?_; intro wp_ hbox hoth hbel; simp only [List.setIfInBounds_toArray, List.set_cons_succ, List.set_cons_zero] at hbox; have n0_ := Gv.a0 hbox; have n1_ := Gv.a0 (hbel w Gv.bw GE366.out); have n2_ := Gv.a0 ((hoth gb365 NB365_366.out).trans (Gv.kb0 BK365.out)); clear BK366 HB BK365; have BK366 := n0_; have HB := n1_; have BK365 := n2_; clear n0_ n1_ n2_ hbox hoth hbel; obtain ⟨pc366_0, pc366_1, pc366_2, pc366_3, pc366_4, pc366_5, pc366_6, pc366_7, pc366_8, pc366_9, pc366_10, pc366_11, pc366_12, pc366_13, pc366_14, pc366_15, pc366_16⟩ := Gv.c17 BK366.out; obtain ⟨pf366_0, pf366_1, pf366_2, pf366_3, pf366_4, pf366_5, pf366_6, pf366_7, pf366_8, pf366_9, pf366_10, pf366_11, pf366_12, pf366_13, pf366_14, pf366_15, pf366_16⟩ := Gv.f17 BK366.out; obtain ⟨pc365_0, pc365_1, pc365_2, pc365_3, pc365_4, pc365_5, pc365_6, pc365_7, pc365_8, pc365_9, pc365_10, pc365_11, pc365_12, pc365_13, pc365_14, pc365_15, pc365_16⟩ := Gv.c17 BK365.out; obtain ⟨pf365_0, pf365_1, pf365_2, pf365_3, pf365_4, pf365_5, pf365_6, pf365_7, pf365_8, pf365_9, pf365_10, pf365_11, pf365_12, pf365_13, pf365_14, pf365_15, pf365_16⟩ := Gv.f17 BK365.out))
      go_ret
      exact ⟨Gv.rt, Gv.bw⟩
    ·replace c8 := Bool.eq_false_iff.mpr c8
     subst c8
     have H1 : (some false) = some r := by rw [if_neg (show ¬ (false = true) by decide)] at H; exact H
     clear H
     have H := H1
     clear H1
     obtain rfl := Option.some.inj H
     go_enter Try.func15, Try.ntmps15
     go_wp2_with (first | ((with_reducible refine gate_dst (N := 1) rfl ?_); refine box_event ?hg (N := 1) ?hd (cs := #[.int .i64 a0_0, .int .i64 a0_1, .int .i64 a0_2, .int .i64 a0_3, .int .i64 a0_4, .int .i64 a0_5, .int .i64 a0_6, .int .i64 a0_7, .int .i64 a0_8, .int .i64 a0_9, .int .i64 a0_10, .int .i64 a0_11, .int .i64 a0_12, .int .i64 a0_13, .int .i64 a0_14, .int .i64 a0_15, .int .i64 a0_16]) (t := 38) ?hr ?_; (case hd => rfl); (case hg => rfl); (case hr => first | (go_simp; done) | (go_simp; rfl)); intro gb365 hg w31 hbox hb; have n0_ := Gv.a0 (below_step Gv.bw hb); have n1_ := Gv.a0 (hbox); have n2_ := Gv.a0 ((Gv.ble hg Gv.bw : w.heap.size ≤ gb365)); have n3_ := Gv.a0 ((Gv.ble hg Gv.bw : w.heap.size ≤ gb365)); clear HB; have HB := n0_; have BK365 := n1_; have GW365 := n2_; have GE365 := n3_; clear n0_ n1_ n2_ n3_; clear hb hbox hg; obtain ⟨hcz32_0, hcz32_1, hcz32_2, hcz32_3, hcz32_4, hcz32_5, hcz32_6, hcz32_7, hcz32_8, hcz32_9, hcz32_10, hcz32_11, hcz32_12, hcz32_13, hcz32_14, hcz32_15, hcz32_16⟩ := Gv.c17 BK365.out; obtain ⟨hfz32_0, hfz32_1, hfz32_2, hfz32_3, hfz32_4, hfz32_5, hfz32_6, hfz32_7, hfz32_8, hfz32_9, hfz32_10, hfz32_11, hfz32_12, hfz32_13, hfz32_14, hfz32_15, hfz32_16⟩ := Gv.f17 BK365.out) | ((with_reducible refine gate_store (t := 38) (p := 1) rfl ?_); refine Gv.store_event rfl rfl rfl rfl rfl (Gv.kb BK365.out) (by kernel_rfl) rfl (by simp; and_intros <;> rfl) ?_; intro w31s hbox hoth hbel; have n0_ := Gv.a0 (hbox); have n1_ := Gv.a0 (hbel w Gv.bw GE365.out); clear BK365 HB; have BK365 := n0_; have HB := n1_; clear n0_ n1_ hbox hoth hbel; (try clear hcz32_0 hcz32_1 hcz32_2 hcz32_3 hcz32_4 hcz32_5 hcz32_6 hcz32_7 hcz32_8 hcz32_9 hcz32_10 hcz32_11 hcz32_12 hcz32_13 hcz32_14 hcz32_15 hcz32_16 hfz32_0 hfz32_1 hfz32_2 hfz32_3 hfz32_4 hfz32_5 hfz32_6 hfz32_7 hfz32_8 hfz32_9 hfz32_10 hfz32_11 hfz32_12 hfz32_13 hfz32_14 hfz32_15 hfz32_16); obtain ⟨hcz32_0, hcz32_1, hcz32_2, hcz32_3, hcz32_4, hcz32_5, hcz32_6, hcz32_7, hcz32_8, hcz32_9, hcz32_10, hcz32_11, hcz32_12, hcz32_13, hcz32_14, hcz32_15, hcz32_16⟩ := Gv.c17 BK365.out; obtain ⟨hfz32_0, hfz32_1, hfz32_2, hfz32_3, hfz32_4, hfz32_5, hfz32_6, hfz32_7, hfz32_8, hfz32_9, hfz32_10, hfz32_11, hfz32_12, hfz32_13, hfz32_14, hfz32_15, hfz32_16⟩ := Gv.f17 BK365.out) | ((with_reducible refine gate_dst (N := 3) rfl ?_); refine box_event ?hg (N := 3) ?hd (cs := #[.int .i64 0, .int .i64 0, .int .i64 0, .int .i64 0, .int .i64 0, .int .i64 0, .int .i64 0, .int .i64 0, .int .i64 0, .int .i64 0, .int .i64 0, .int .i64 0, .int .i64 0, .int .i64 0, .int .i64 0, .int .i64 0, .int .i64 0]) (t := 38) ?hr ?_; (case hd => rfl); (case hg => rfl); (case hr => first | (go_simp; done) | (go_simp; rfl)); intro gb366 hg w33 hbox hb; have n0_ := Gv.a0 (Gv.bb BK365.out hb); have n1_ := Gv.a0 (below_step Gv.bw hb); have n2_ := Gv.a0 (hbox); have n3_ := Gv.a0 ((Gv.ble hg Gv.bw : w.heap.size ≤ gb366)); have n4_ := Gv.a0 ((Gv.ble hg Gv.bw : w.heap.size ≤ gb366)); have n5_ := Gv.a0 ((Gv.nlt hg (Gv.kb BK365.out) : gb365 ≠ gb366)); have n6_ := Gv.a0 ((Gv.ngt hg (Gv.kb BK365.out) : gb366 ≠ gb365)); clear BK365; clear HB; have BK365 := n0_; have HB := n1_; have BK366 := n2_; have GW366 := n3_; have GE366 := n4_; have NB365_366 := n5_; have NB366_365 := n6_; clear n0_ n1_ n2_ n3_ n4_ n5_ n6_; clear hb hbox hg; have hnb34 := NB366_365.out; have hnc34 := NB365_366.out; obtain ⟨hcz35_0, hcz35_1, hcz35_2, hcz35_3, hcz35_4, hcz35_5, hcz35_6, hcz35_7, hcz35_8, hcz35_9, hcz35_10, hcz35_11, hcz35_12, hcz35_13, hcz35_14, hcz35_15, hcz35_16⟩ := Gv.c17 BK366.out; obtain ⟨hfz35_0, hfz35_1, hfz35_2, hfz35_3, hfz35_4, hfz35_5, hfz35_6, hfz35_7, hfz35_8, hfz35_9, hfz35_10, hfz35_11, hfz35_12, hfz35_13, hfz35_14, hfz35_15, hfz35_16⟩ := Gv.f17 BK366.out; obtain ⟨hcz36_0, hcz36_1, hcz36_2, hcz36_3, hcz36_4, hcz36_5, hcz36_6, hcz36_7, hcz36_8, hcz36_9, hcz36_10, hcz36_11, hcz36_12, hcz36_13, hcz36_14, hcz36_15, hcz36_16⟩ := Gv.c17 BK365.out; obtain ⟨hfz36_0, hfz36_1, hfz36_2, hfz36_3, hfz36_4, hfz36_5, hfz36_6, hfz36_7, hfz36_8, hfz36_9, hfz36_10, hfz36_11, hfz36_12, hfz36_13, hfz36_14, hfz36_15, hfz36_16⟩ := Gv.f17 BK365.out) | ((with_reducible refine gate_store (t := 38) (p := 3) rfl ?_); refine Gv.store_event rfl rfl rfl rfl rfl (Gv.kb BK366.out) (by kernel_rfl) rfl (by simp; and_intros <;> rfl) ?_; intro w33s hbox hoth hbel; have n0_ := Gv.a0 (hbox); have n1_ := Gv.a0 (hbel w Gv.bw GE366.out); have n2_ := Gv.a0 ((hoth gb365 NB365_366.out).trans (Gv.kb BK365.out)); clear BK366 HB BK365; have BK366 := n0_; have HB := n1_; have BK365 := n2_; clear n0_ n1_ n2_ hbox hoth hbel; (try clear hcz35_0 hcz35_1 hcz35_2 hcz35_3 hcz35_4 hcz35_5 hcz35_6 hcz35_7 hcz35_8 hcz35_9 hcz35_10 hcz35_11 hcz35_12 hcz35_13 hcz35_14 hcz35_15 hcz35_16 hfz35_0 hfz35_1 hfz35_2 hfz35_3 hfz35_4 hfz35_5 hfz35_6 hfz35_7 hfz35_8 hfz35_9 hfz35_10 hfz35_11 hfz35_12 hfz35_13 hfz35_14 hfz35_15 hfz35_16 hcz36_0 hcz36_1 hcz36_2 hcz36_3 hcz36_4 hcz36_5 hcz36_6 hcz36_7 hcz36_8 hcz36_9 hcz36_10 hcz36_11 hcz36_12 hcz36_13 hcz36_14 hcz36_15 hcz36_16 hfz36_0 hfz36_1 hfz36_2 hfz36_3 hfz36_4 hfz36_5 hfz36_6 hfz36_7 hfz36_8 hfz36_9 hfz36_10 hfz36_11 hfz36_12 hfz36_13 hfz36_14 hfz36_15 hfz36_16); obtain ⟨hcz35_0, hcz35_1, hcz35_2, hcz35_3, hcz35_4, hcz35_5, hcz35_6, hcz35_7, hcz35_8, hcz35_9, hcz35_10, hcz35_11, hcz35_12, hcz35_13, hcz35_14, hcz35_15, hcz35_16⟩ := Gv.c17 BK366.out; obtain ⟨hfz35_0, hfz35_1, hfz35_2, hfz35_3, hfz35_4, hfz35_5, hfz35_6, hfz35_7, hfz35_8, hfz35_9, hfz35_10, hfz35_11, hfz35_12, hfz35_13, hfz35_14, hfz35_15, hfz35_16⟩ := Gv.f17 BK366.out; obtain ⟨hcz36_0, hcz36_1, hcz36_2, hcz36_3, hcz36_4, hcz36_5, hcz36_6, hcz36_7, hcz36_8, hcz36_9, hcz36_10, hcz36_11, hcz36_12, hcz36_13, hcz36_14, hcz36_15, hcz36_16⟩ := Gv.c17 BK365.out; obtain ⟨hfz36_0, hfz36_1, hfz36_2, hfz36_3, hfz36_4, hfz36_5, hfz36_6, hfz36_7, hfz36_8, hfz36_9, hfz36_10, hfz36_11, hfz36_12, hfz36_13, hfz36_14, hfz36_15, hfz36_16⟩ := Gv.f17 BK365.out) | ((with_reducible refine gate_callee (f := 43) rfl ?_); refine goesL_ (some 11) rfl rfl Try.func43 (by kernel_rfl) rfl #[.agg #[.int .i64 a0_1, .int .i64 a0_2, .int .i64 a0_3, .int .i64 a0_4, .int .i64 a0_5, .int .i64 a0_6]] rfl Gv.lm ?_; (with_reducible refine (impl_PrefixOk.calls k a0_1 a0_2 a0_3 a0_4 a0_5 a0_6 true _ A3.out).mono ?_); rintro e w37 ⟨rfl, hb⟩; refine ⟨_, rfl, ?_⟩; have n0_ := Gv.a0 (blk_below (g := gb365) (o := .cells #[.int .i64 a0_0, .int .i64 a0_1, .int .i64 a0_2, .int .i64 a0_3, .int .i64 a0_4, .int .i64 a0_5, .int .i64 a0_6, .int .i64 a0_7, .int .i64 a0_8, .int .i64 a0_9, .int .i64 a0_10, .int .i64 a0_11, .int .i64 a0_12, .int .i64 a0_13, .int .i64 a0_14, .int .i64 a0_15, .int .i64 a0_16] 38 (0, 0)) Gv.bkf hb); have n1_ := Gv.a0 (blk_below (g := gb366) (o := .cells #[.int .i64 a0_0, .int .i64 a0_1, .int .i64 a0_2, .int .i64 a0_3, .int .i64 a0_4, .int .i64 a0_5, .int .i64 a0_6, .int .i64 a0_7, .int .i64 a0_8, .int .i64 a0_9, .int .i64 a0_10, .int .i64 a0_11, .int .i64 a0_12, .int .i64 a0_13, .int .i64 a0_14, .int .i64 a0_15, .int .i64 a0_16] 38 (0, 0)) (by (with_reducible repeat (first | refine blk_drewN ?_ _ | refine blk_drew ?_ | refine blk_alloc ?_ _)); exact BK366.out) hb); have n2_ := Gv.a0 (below_step Gv.bw hb); clear BK365; clear BK366; clear HB; have BK365 := n0_; have BK366 := n1_; have HB := n2_; clear n0_ n1_ n2_; (try clear hb); (try clear hb2); (try clear hk); (try clear hi); obtain ⟨hcz38_0, hcz38_1, hcz38_2, hcz38_3, hcz38_4, hcz38_5, hcz38_6, hcz38_7, hcz38_8, hcz38_9, hcz38_10, hcz38_11, hcz38_12, hcz38_13, hcz38_14, hcz38_15, hcz38_16⟩ := Gv.c17 BK365.out; obtain ⟨hfz38_0, hfz38_1, hfz38_2, hfz38_3, hfz38_4, hfz38_5, hfz38_6, hfz38_7, hfz38_8, hfz38_9, hfz38_10, hfz38_11, hfz38_12, hfz38_13, hfz38_14, hfz38_15, hfz38_16⟩ := Gv.f17 BK365.out) | (go_at_call 43; (with_reducible refine (impl_PrefixOk.calls k a0_7 a0_8 a0_9 a0_10 a0_11 a0_12 true _ A5.out).mono ?_); rintro e w39 ⟨rfl, hb⟩; have n0_ := Gv.a0 (Gv.bb BK365.out hb); have n1_ := Gv.a0 (Gv.bb BK366.out hb); have n2_ := Gv.a0 (below_step Gv.bw hb); clear BK365; clear BK366; clear HB; have BK365 := n0_; have BK366 := n1_; have HB := n2_; clear n0_ n1_ n2_; (try clear hb); (try clear hb2); (try clear hk); (try clear hi); obtain ⟨hcz40_0, hcz40_1, hcz40_2, hcz40_3, hcz40_4, hcz40_5, hcz40_6, hcz40_7, hcz40_8, hcz40_9, hcz40_10, hcz40_11, hcz40_12, hcz40_13, hcz40_14, hcz40_15, hcz40_16⟩ := Gv.c17 BK365.out; obtain ⟨hfz40_0, hfz40_1, hfz40_2, hfz40_3, hfz40_4, hfz40_5, hfz40_6, hfz40_7, hfz40_8, hfz40_9, hfz40_10, hfz40_11, hfz40_12, hfz40_13, hfz40_14, hfz40_15, hfz40_16⟩ := Gv.f17 BK365.out) | (go_at_call 44; (with_reducible refine (impl_within.calls a0_13 (-1) 255 false _ A7.out).mono ?_); rintro e w' ⟨rfl, ⟨nd, rfl⟩⟩) | ((with_reducible refine Gv.gate_load (t := 38) rfl ?_); (try (refine gate_guard (by rfl) ?_; dsimp only)); refine wpList_load_row rfl 38 _ rfl gb365 rfl 38 _ _ _ (by first | exact Gv.kb0 BK365.out | exact Gv.kb1 (Gv.kb0 BK365.out)) Try.underlying38 rfl (by kernel_rfl) ?_) | ((with_reducible refine Gv.gate_load (t := 38) rfl ?_); (try (refine gate_guard (by rfl) ?_; dsimp only)); refine wpList_load_row rfl 38 _ rfl gb366 rfl 38 _ _ _ (by first | exact Gv.kb0 BK366.out | exact Gv.kb1 (Gv.kb0 BK366.out)) Try.underlying38 rfl (by kernel_rfl) ?_) | ((with_reducible refine gate_store (t := 3) rfl ?_); refine Gv.put_event (g := gb365) rfl rfl rfl rfl rfl (Gv.kb0 BK365.out) (by kernel_rfl) (by simp) ?_; intro wp_ hbox hoth hbel; simp only [List.setIfInBounds_toArray, List.set_cons_succ, List.set_cons_zero] at hbox; have n0_ := Gv.a0 hbox; have n1_ := Gv.a0 (hbel w Gv.bw GE365.out); have n2_ := Gv.a0 ((hoth gb366 NB366_365.out).trans (Gv.kb0 BK366.out)); clear BK365 HB BK366; have BK365 := n0_; have HB := n1_; have BK366 := n2_; clear n0_ n1_ n2_ hbox hoth hbel; obtain ⟨pc365_0, pc365_1, pc365_2, pc365_3, pc365_4, pc365_5, pc365_6, pc365_7, pc365_8, pc365_9, pc365_10, pc365_11, pc365_12, pc365_13, pc365_14, pc365_15, pc365_16⟩ := Gv.c17 BK365.out; obtain ⟨pf365_0, pf365_1, pf365_2, pf365_3, pf365_4, pf365_5, pf365_6, pf365_7, pf365_8, pf365_9, pf365_10, pf365_11, pf365_12, pf365_13, pf365_14, pf365_15, pf365_16⟩ := Gv.f17 BK365.out; obtain ⟨pc366_0, pc366_1, pc366_2, pc366_3, pc366_4, pc366_5, pc366_6, pc366_7, pc366_8, pc366_9, pc366_10, pc366_11, pc366_12, pc366_13, pc366_14, pc366_15, pc366_16⟩ := Gv.c17 BK366.out; obtain ⟨pf366_0, pf366_1, pf366_2, pf366_3, pf366_4, pf366_5, pf366_6, pf366_7, pf366_8, pf366_9, pf366_10, pf366_11, pf366_12, pf366_13, pf366_14, pf366_15, pf366_16⟩ := Gv.f17 BK366.out) | ((with_reducible refine gate_store (t := 3) rfl ?_); refine Gv.put_event (g := gb366) rfl rfl rfl rfl rfl (Gv.kb0 BK366.out) (by kernel_rfl) (by simp) ?_; intro wp_ hbox hoth hbel; simp only [List.setIfInBounds_toArray, List.set_cons_succ, List.set_cons_zero] at hbox; have n0_ := Gv.a0 hbox; have n1_ := Gv.a0 (hbel w Gv.bw GE366.out); have n2_ := Gv.a0 ((hoth gb365 NB365_366.out).trans (Gv.kb0 BK365.out)); clear BK366 HB BK365; have BK366 := n0_; have HB := n1_; have BK365 := n2_; clear n0_ n1_ n2_ hbox hoth hbel; obtain ⟨pc366_0, pc366_1, pc366_2, pc366_3, pc366_4, pc366_5, pc366_6, pc366_7, pc366_8, pc366_9, pc366_10, pc366_11, pc366_12, pc366_13, pc366_14, pc366_15, pc366_16⟩ := Gv.c17 BK366.out; obtain ⟨pf366_0, pf366_1, pf366_2, pf366_3, pf366_4, pf366_5, pf366_6, pf366_7, pf366_8, pf366_9, pf366_10, pf366_11, pf366_12, pf366_13, pf366_14, pf366_15, pf366_16⟩ := Gv.f17 BK366.out; obtain ⟨pc365_0, pc365_1, pc365_2, pc365_3, pc365_4, pc365_5, pc365_6, pc365_7, pc365_8, pc365_9, pc365_10, pc365_11, pc365_12, pc365_13, pc365_14, pc365_15, pc365_16⟩ := Gv.c17 BK365.out; obtain ⟨pf365_0, pf365_1, pf365_2, pf365_3, pf365_4, pf365_5, pf365_6, pf365_7, pf365_8, pf365_9, pf365_10, pf365_11, pf365_12, pf365_13, pf365_14, pf365_15, pf365_16⟩ := Gv.f17 BK365.out))
     go_ret
     exact ⟨Gv.rt, Gv.bw⟩
   ·replace c6 := Bool.eq_false_iff.mpr c6
    subst c6
    have H1 : (some false) = some r := by rw [if_neg (show ¬ (false = true) by decide)] at H; exact H
    clear H
    have H := H1
    clear H1
    obtain rfl := Option.some.inj H
    go_enter Try.func15, Try.ntmps15
    go_wp2_with (first | ((with_reducible refine gate_dst (N := 1) rfl ?_); refine box_event ?hg (N := 1) ?hd (cs := #[.int .i64 a0_0, .int .i64 a0_1, .int .i64 a0_2, .int .i64 a0_3, .int .i64 a0_4, .int .i64 a0_5, .int .i64 a0_6, .int .i64 a0_7, .int .i64 a0_8, .int .i64 a0_9, .int .i64 a0_10, .int .i64 a0_11, .int .i64 a0_12, .int .i64 a0_13, .int .i64 a0_14, .int .i64 a0_15, .int .i64 a0_16]) (t := 38) ?hr ?_; (case hd => rfl); (case hg => rfl); (case hr => first | (go_simp; done) | (go_simp; rfl)); intro gb365 hg w41 hbox hb; have n0_ := Gv.a0 (below_step Gv.bw hb); have n1_ := Gv.a0 (hbox); have n2_ := Gv.a0 ((Gv.ble hg Gv.bw : w.heap.size ≤ gb365)); have n3_ := Gv.a0 ((Gv.ble hg Gv.bw : w.heap.size ≤ gb365)); clear HB; have HB := n0_; have BK365 := n1_; have GW365 := n2_; have GE365 := n3_; clear n0_ n1_ n2_ n3_; clear hb hbox hg; obtain ⟨hcz42_0, hcz42_1, hcz42_2, hcz42_3, hcz42_4, hcz42_5, hcz42_6, hcz42_7, hcz42_8, hcz42_9, hcz42_10, hcz42_11, hcz42_12, hcz42_13, hcz42_14, hcz42_15, hcz42_16⟩ := Gv.c17 BK365.out; obtain ⟨hfz42_0, hfz42_1, hfz42_2, hfz42_3, hfz42_4, hfz42_5, hfz42_6, hfz42_7, hfz42_8, hfz42_9, hfz42_10, hfz42_11, hfz42_12, hfz42_13, hfz42_14, hfz42_15, hfz42_16⟩ := Gv.f17 BK365.out) | ((with_reducible refine gate_store (t := 38) (p := 1) rfl ?_); refine Gv.store_event rfl rfl rfl rfl rfl (Gv.kb BK365.out) (by kernel_rfl) rfl (by simp; and_intros <;> rfl) ?_; intro w41s hbox hoth hbel; have n0_ := Gv.a0 (hbox); have n1_ := Gv.a0 (hbel w Gv.bw GE365.out); clear BK365 HB; have BK365 := n0_; have HB := n1_; clear n0_ n1_ hbox hoth hbel; (try clear hcz42_0 hcz42_1 hcz42_2 hcz42_3 hcz42_4 hcz42_5 hcz42_6 hcz42_7 hcz42_8 hcz42_9 hcz42_10 hcz42_11 hcz42_12 hcz42_13 hcz42_14 hcz42_15 hcz42_16 hfz42_0 hfz42_1 hfz42_2 hfz42_3 hfz42_4 hfz42_5 hfz42_6 hfz42_7 hfz42_8 hfz42_9 hfz42_10 hfz42_11 hfz42_12 hfz42_13 hfz42_14 hfz42_15 hfz42_16); obtain ⟨hcz42_0, hcz42_1, hcz42_2, hcz42_3, hcz42_4, hcz42_5, hcz42_6, hcz42_7, hcz42_8, hcz42_9, hcz42_10, hcz42_11, hcz42_12, hcz42_13, hcz42_14, hcz42_15, hcz42_16⟩ := Gv.c17 BK365.out; obtain ⟨hfz42_0, hfz42_1, hfz42_2, hfz42_3, hfz42_4, hfz42_5, hfz42_6, hfz42_7, hfz42_8, hfz42_9, hfz42_10, hfz42_11, hfz42_12, hfz42_13, hfz42_14, hfz42_15, hfz42_16⟩ := Gv.f17 BK365.out) | ((with_reducible refine gate_dst (N := 3) rfl ?_); refine box_event ?hg (N := 3) ?hd (cs := #[.int .i64 0, .int .i64 0, .int .i64 0, .int .i64 0, .int .i64 0, .int .i64 0, .int .i64 0, .int .i64 0, .int .i64 0, .int .i64 0, .int .i64 0, .int .i64 0, .int .i64 0, .int .i64 0, .int .i64 0, .int .i64 0, .int .i64 0]) (t := 38) ?hr ?_; (case hd => rfl); (case hg => rfl); (case hr => first | (go_simp; done) | (go_simp; rfl)); intro gb366 hg w43 hbox hb; have n0_ := Gv.a0 (Gv.bb BK365.out hb); have n1_ := Gv.a0 (below_step Gv.bw hb); have n2_ := Gv.a0 (hbox); have n3_ := Gv.a0 ((Gv.ble hg Gv.bw : w.heap.size ≤ gb366)); have n4_ := Gv.a0 ((Gv.ble hg Gv.bw : w.heap.size ≤ gb366)); have n5_ := Gv.a0 ((Gv.nlt hg (Gv.kb BK365.out) : gb365 ≠ gb366)); have n6_ := Gv.a0 ((Gv.ngt hg (Gv.kb BK365.out) : gb366 ≠ gb365)); clear BK365; clear HB; have BK365 := n0_; have HB := n1_; have BK366 := n2_; have GW366 := n3_; have GE366 := n4_; have NB365_366 := n5_; have NB366_365 := n6_; clear n0_ n1_ n2_ n3_ n4_ n5_ n6_; clear hb hbox hg; have hnb44 := NB366_365.out; have hnc44 := NB365_366.out; obtain ⟨hcz45_0, hcz45_1, hcz45_2, hcz45_3, hcz45_4, hcz45_5, hcz45_6, hcz45_7, hcz45_8, hcz45_9, hcz45_10, hcz45_11, hcz45_12, hcz45_13, hcz45_14, hcz45_15, hcz45_16⟩ := Gv.c17 BK366.out; obtain ⟨hfz45_0, hfz45_1, hfz45_2, hfz45_3, hfz45_4, hfz45_5, hfz45_6, hfz45_7, hfz45_8, hfz45_9, hfz45_10, hfz45_11, hfz45_12, hfz45_13, hfz45_14, hfz45_15, hfz45_16⟩ := Gv.f17 BK366.out; obtain ⟨hcz46_0, hcz46_1, hcz46_2, hcz46_3, hcz46_4, hcz46_5, hcz46_6, hcz46_7, hcz46_8, hcz46_9, hcz46_10, hcz46_11, hcz46_12, hcz46_13, hcz46_14, hcz46_15, hcz46_16⟩ := Gv.c17 BK365.out; obtain ⟨hfz46_0, hfz46_1, hfz46_2, hfz46_3, hfz46_4, hfz46_5, hfz46_6, hfz46_7, hfz46_8, hfz46_9, hfz46_10, hfz46_11, hfz46_12, hfz46_13, hfz46_14, hfz46_15, hfz46_16⟩ := Gv.f17 BK365.out) | ((with_reducible refine gate_store (t := 38) (p := 3) rfl ?_); refine Gv.store_event rfl rfl rfl rfl rfl (Gv.kb BK366.out) (by kernel_rfl) rfl (by simp; and_intros <;> rfl) ?_; intro w43s hbox hoth hbel; have n0_ := Gv.a0 (hbox); have n1_ := Gv.a0 (hbel w Gv.bw GE366.out); have n2_ := Gv.a0 ((hoth gb365 NB365_366.out).trans (Gv.kb BK365.out)); clear BK366 HB BK365; have BK366 := n0_; have HB := n1_; have BK365 := n2_; clear n0_ n1_ n2_ hbox hoth hbel; (try clear hcz45_0 hcz45_1 hcz45_2 hcz45_3 hcz45_4 hcz45_5 hcz45_6 hcz45_7 hcz45_8 hcz45_9 hcz45_10 hcz45_11 hcz45_12 hcz45_13 hcz45_14 hcz45_15 hcz45_16 hfz45_0 hfz45_1 hfz45_2 hfz45_3 hfz45_4 hfz45_5 hfz45_6 hfz45_7 hfz45_8 hfz45_9 hfz45_10 hfz45_11 hfz45_12 hfz45_13 hfz45_14 hfz45_15 hfz45_16 hcz46_0 hcz46_1 hcz46_2 hcz46_3 hcz46_4 hcz46_5 hcz46_6 hcz46_7 hcz46_8 hcz46_9 hcz46_10 hcz46_11 hcz46_12 hcz46_13 hcz46_14 hcz46_15 hcz46_16 hfz46_0 hfz46_1 hfz46_2 hfz46_3 hfz46_4 hfz46_5 hfz46_6 hfz46_7 hfz46_8 hfz46_9 hfz46_10 hfz46_11 hfz46_12 hfz46_13 hfz46_14 hfz46_15 hfz46_16); obtain ⟨hcz45_0, hcz45_1, hcz45_2, hcz45_3, hcz45_4, hcz45_5, hcz45_6, hcz45_7, hcz45_8, hcz45_9, hcz45_10, hcz45_11, hcz45_12, hcz45_13, hcz45_14, hcz45_15, hcz45_16⟩ := Gv.c17 BK366.out; obtain ⟨hfz45_0, hfz45_1, hfz45_2, hfz45_3, hfz45_4, hfz45_5, hfz45_6, hfz45_7, hfz45_8, hfz45_9, hfz45_10, hfz45_11, hfz45_12, hfz45_13, hfz45_14, hfz45_15, hfz45_16⟩ := Gv.f17 BK366.out; obtain ⟨hcz46_0, hcz46_1, hcz46_2, hcz46_3, hcz46_4, hcz46_5, hcz46_6, hcz46_7, hcz46_8, hcz46_9, hcz46_10, hcz46_11, hcz46_12, hcz46_13, hcz46_14, hcz46_15, hcz46_16⟩ := Gv.c17 BK365.out; obtain ⟨hfz46_0, hfz46_1, hfz46_2, hfz46_3, hfz46_4, hfz46_5, hfz46_6, hfz46_7, hfz46_8, hfz46_9, hfz46_10, hfz46_11, hfz46_12, hfz46_13, hfz46_14, hfz46_15, hfz46_16⟩ := Gv.f17 BK365.out) | ((with_reducible refine gate_callee (f := 43) rfl ?_); refine goesL_ (some 11) rfl rfl Try.func43 (by kernel_rfl) rfl #[.agg #[.int .i64 a0_1, .int .i64 a0_2, .int .i64 a0_3, .int .i64 a0_4, .int .i64 a0_5, .int .i64 a0_6]] rfl Gv.lm ?_; (with_reducible refine (impl_PrefixOk.calls k a0_1 a0_2 a0_3 a0_4 a0_5 a0_6 true _ A3.out).mono ?_); rintro e w47 ⟨rfl, hb⟩; refine ⟨_, rfl, ?_⟩; have n0_ := Gv.a0 (blk_below (g := gb365) (o := .cells #[.int .i64 a0_0, .int .i64 a0_1, .int .i64 a0_2, .int .i64 a0_3, .int .i64 a0_4, .int .i64 a0_5, .int .i64 a0_6, .int .i64 a0_7, .int .i64 a0_8, .int .i64 a0_9, .int .i64 a0_10, .int .i64 a0_11, .int .i64 a0_12, .int .i64 a0_13, .int .i64 a0_14, .int .i64 a0_15, .int .i64 a0_16] 38 (0, 0)) Gv.bkf hb); have n1_ := Gv.a0 (blk_below (g := gb366) (o := .cells #[.int .i64 a0_0, .int .i64 a0_1, .int .i64 a0_2, .int .i64 a0_3, .int .i64 a0_4, .int .i64 a0_5, .int .i64 a0_6, .int .i64 a0_7, .int .i64 a0_8, .int .i64 a0_9, .int .i64 a0_10, .int .i64 a0_11, .int .i64 a0_12, .int .i64 a0_13, .int .i64 a0_14, .int .i64 a0_15, .int .i64 a0_16] 38 (0, 0)) (by (with_reducible repeat (first | refine blk_drewN ?_ _ | refine blk_drew ?_ | refine blk_alloc ?_ _)); exact BK366.out) hb); have n2_ := Gv.a0 (below_step Gv.bw hb); clear BK365; clear BK366; clear HB; have BK365 := n0_; have BK366 := n1_; have HB := n2_; clear n0_ n1_ n2_; (try clear hb); (try clear hb2); (try clear hk); (try clear hi); obtain ⟨hcz48_0, hcz48_1, hcz48_2, hcz48_3, hcz48_4, hcz48_5, hcz48_6, hcz48_7, hcz48_8, hcz48_9, hcz48_10, hcz48_11, hcz48_12, hcz48_13, hcz48_14, hcz48_15, hcz48_16⟩ := Gv.c17 BK365.out; obtain ⟨hfz48_0, hfz48_1, hfz48_2, hfz48_3, hfz48_4, hfz48_5, hfz48_6, hfz48_7, hfz48_8, hfz48_9, hfz48_10, hfz48_11, hfz48_12, hfz48_13, hfz48_14, hfz48_15, hfz48_16⟩ := Gv.f17 BK365.out) | (go_at_call 43; (with_reducible refine (impl_PrefixOk.calls k a0_7 a0_8 a0_9 a0_10 a0_11 a0_12 false _ A5.out).mono ?_); rintro e w49 ⟨rfl, hb⟩; have n0_ := Gv.a0 (Gv.bb BK365.out hb); have n1_ := Gv.a0 (Gv.bb BK366.out hb); have n2_ := Gv.a0 (below_step Gv.bw hb); clear BK365; clear BK366; clear HB; have BK365 := n0_; have BK366 := n1_; have HB := n2_; clear n0_ n1_ n2_; (try clear hb); (try clear hb2); (try clear hk); (try clear hi)) | ((with_reducible refine Gv.gate_load (t := 38) rfl ?_); (try (refine gate_guard (by rfl) ?_; dsimp only)); refine wpList_load_row rfl 38 _ rfl gb365 rfl 38 _ _ _ (by first | exact Gv.kb0 BK365.out | exact Gv.kb1 (Gv.kb0 BK365.out)) Try.underlying38 rfl (by kernel_rfl) ?_) | ((with_reducible refine Gv.gate_load (t := 38) rfl ?_); (try (refine gate_guard (by rfl) ?_; dsimp only)); refine wpList_load_row rfl 38 _ rfl gb366 rfl 38 _ _ _ (by first | exact Gv.kb0 BK366.out | exact Gv.kb1 (Gv.kb0 BK366.out)) Try.underlying38 rfl (by kernel_rfl) ?_) | ((with_reducible refine gate_store (t := 3) rfl ?_); refine Gv.put_event (g := gb365) rfl rfl rfl rfl rfl (Gv.kb0 BK365.out) (by kernel_rfl) (by simp) ?_; intro wp_ hbox hoth hbel; simp only [List.setIfInBounds_toArray, List.set_cons_succ, List.set_cons_zero] at hbox; have n0_ := Gv.a0 hbox; have n1_ := Gv.a0 (hbel w Gv.bw GE365.out); have n2_ := Gv.a0 ((hoth gb366 NB366_365.out).trans (Gv.kb0 BK366.out)); clear BK365 HB BK366; have BK365 := n0_; have HB := n1_; have BK366 := n2_; clear n0_ n1_ n2_ hbox hoth hbel; obtain ⟨pc365_0, pc365_1, pc365_2, pc365_3, pc365_4, pc365_5, pc365_6, pc365_7, pc365_8, pc365_9, pc365_10, pc365_11, pc365_12, pc365_13, pc365_14, pc365_15, pc365_16⟩ := Gv.c17 BK365.out; obtain ⟨pf365_0, pf365_1, pf365_2, pf365_3, pf365_4, pf365_5, pf365_6, pf365_7, pf365_8, pf365_9, pf365_10, pf365_11, pf365_12, pf365_13, pf365_14, pf365_15, pf365_16⟩ := Gv.f17 BK365.out; obtain ⟨pc366_0, pc366_1, pc366_2, pc366_3, pc366_4, pc366_5, pc366_6, pc366_7, pc366_8, pc366_9, pc366_10, pc366_11, pc366_12, pc366_13, pc366_14, pc366_15, pc366_16⟩ := Gv.c17 BK366.out; obtain ⟨pf366_0, pf366_1, pf366_2, pf366_3, pf366_4, pf366_5, pf366_6, pf366_7, pf366_8, pf366_9, pf366_10, pf366_11, pf366_12, pf366_13, pf366_14, pf366_15, pf366_16⟩ := Gv.f17 BK366.out) | ((with_reducible refine gate_store (t := 3) rfl ?_); refine Gv.put_event (g := gb366) rfl rfl rfl rfl rfl (Gv.kb0 BK366.out) (by kernel_rfl) (by simp) ?_; intro wp_ hbox hoth hbel; simp only [List.setIfInBounds_toArray, List.set_cons_succ, List.set_cons_zero] at hbox; have n0_ := Gv.a0 hbox; have n1_ := Gv.a0 (hbel w Gv.bw GE366.out); have n2_ := Gv.a0 ((hoth gb365 NB365_366.out).trans (Gv.kb0 BK365.out)); clear BK366 HB BK365; have BK366 := n0_; have HB := n1_; have BK365 := n2_; clear n0_ n1_ n2_ hbox hoth hbel; obtain ⟨pc366_0, pc366_1, pc366_2, pc366_3, pc366_4, pc366_5, pc366_6, pc366_7, pc366_8, pc366_9, pc366_10, pc366_11, pc366_12, pc366_13, pc366_14, pc366_15, pc366_16⟩ := Gv.c17 BK366.out; obtain ⟨pf366_0, pf366_1, pf366_2, pf366_3, pf366_4, pf366_5, pf366_6, pf366_7, pf366_8, pf366_9, pf366_10, pf366_11, pf366_12, pf366_13, pf366_14, pf366_15, pf366_16⟩ := Gv.f17 BK366.out; obtain ⟨pc365_0, pc365_1, pc365_2, pc365_3, pc365_4, pc365_5, pc365_6, pc365_7, pc365_8, pc365_9, pc365_10, pc365_11, pc365_12, pc365_13, pc365_14, pc365_15, pc365_16⟩ := Gv.c17 BK365.out; obtain ⟨pf365_0, pf365_1, pf365_2, pf365_3, pf365_4, pf365_5, pf365_6, pf365_7, pf365_8, pf365_9, pf365_10, pf365_11, pf365_12, pf365_13, pf365_14, pf365_15, pf365_16⟩ := Gv.f17 BK365.out))
    go_ret
    exact ⟨Gv.rt, Gv.bw⟩
  ·replace c4 := Bool.eq_false_iff.mpr c4
   subst c4
   have H1 : (some false) = some r := by rw [if_neg (show ¬ (false = true) by decide)] at H; exact H
   clear H
   have H := H1
   clear H1
   obtain rfl := Option.some.inj H
   go_enter Try.func15, Try.ntmps15
   go_wp2_with (first | ((with_reducible refine gate_dst (N := 1) rfl ?_); refine box_event ?hg (N := 1) ?hd (cs := #[.int .i64 a0_0, .int .i64 a0_1, .int .i64 a0_2, .int .i64 a0_3, .int .i64 a0_4, .int .i64 a0_5, .int .i64 a0_6, .int .i64 a0_7, .int .i64 a0_8, .int .i64 a0_9, .int .i64 a0_10, .int .i64 a0_11, .int .i64 a0_12, .int .i64 a0_13, .int .i64 a0_14, .int .i64 a0_15, .int .i64 a0_16]) (t := 38) ?hr ?_; (case hd => rfl); (case hg => rfl); (case hr => first | (go_simp; done) | (go_simp; rfl)); intro gb365 hg w50 hbox hb; have n0_ := Gv.a0 (below_step Gv.bw hb); have n1_ := Gv.a0 (hbox); have n2_ := Gv.a0 ((Gv.ble hg Gv.bw : w.heap.size ≤ gb365)); have n3_ := Gv.a0 ((Gv.ble hg Gv.bw : w.heap.size ≤ gb365)); clear HB; have HB := n0_; have BK365 := n1_; have GW365 := n2_; have GE365 := n3_; clear n0_ n1_ n2_ n3_; clear hb hbox hg; obtain ⟨hcz51_0, hcz51_1, hcz51_2, hcz51_3, hcz51_4, hcz51_5, hcz51_6, hcz51_7, hcz51_8, hcz51_9, hcz51_10, hcz51_11, hcz51_12, hcz51_13, hcz51_14, hcz51_15, hcz51_16⟩ := Gv.c17 BK365.out; obtain ⟨hfz51_0, hfz51_1, hfz51_2, hfz51_3, hfz51_4, hfz51_5, hfz51_6, hfz51_7, hfz51_8, hfz51_9, hfz51_10, hfz51_11, hfz51_12, hfz51_13, hfz51_14, hfz51_15, hfz51_16⟩ := Gv.f17 BK365.out) | ((with_reducible refine gate_store (t := 38) (p := 1) rfl ?_); refine Gv.store_event rfl rfl rfl rfl rfl (Gv.kb BK365.out) (by kernel_rfl) rfl (by simp; and_intros <;> rfl) ?_; intro w50s hbox hoth hbel; have n0_ := Gv.a0 (hbox); have n1_ := Gv.a0 (hbel w Gv.bw GE365.out); clear BK365 HB; have BK365 := n0_; have HB := n1_; clear n0_ n1_ hbox hoth hbel; (try clear hcz51_0 hcz51_1 hcz51_2 hcz51_3 hcz51_4 hcz51_5 hcz51_6 hcz51_7 hcz51_8 hcz51_9 hcz51_10 hcz51_11 hcz51_12 hcz51_13 hcz51_14 hcz51_15 hcz51_16 hfz51_0 hfz51_1 hfz51_2 hfz51_3 hfz51_4 hfz51_5 hfz51_6 hfz51_7 hfz51_8 hfz51_9 hfz51_10 hfz51_11 hfz51_12 hfz51_13 hfz51_14 hfz51_15 hfz51_16); obtain ⟨hcz51_0, hcz51_1, hcz51_2, hcz51_3, hcz51_4, hcz51_5, hcz51_6, hcz51_7, hcz51_8, hcz51_9, hcz51_10, hcz51_11, hcz51_12, hcz51_13, hcz51_14, hcz51_15, hcz51_16⟩ := Gv.c17 BK365.out; obtain ⟨hfz51_0, hfz51_1, hfz51_2, hfz51_3, hfz51_4, hfz51_5, hfz51_6, hfz51_7, hfz51_8, hfz51_9, hfz51_10, hfz51_11, hfz51_12, hfz51_13, hfz51_14, hfz51_15, hfz51_16⟩ := Gv.f17 BK365.out) | ((with_reducible refine gate_dst (N := 3) rfl ?_); refine box_event ?hg (N := 3) ?hd (cs := #[.int .i64 0, .int .i64 0, .int .i64 0, .int .i64 0, .int .i64 0, .int .i64 0, .int .i64 0, .int .i64 0, .int .i64 0, .int .i64 0, .int .i64 0, .int .i64 0, .int .i64 0, .int .i64 0, .int .i64 0, .int .i64 0, .int .i64 0]) (t := 38) ?hr ?_; (case hd => rfl); (case hg => rfl); (case hr => first | (go_simp; done) | (go_simp; rfl)); intro gb366 hg w52 hbox hb; have n0_ := Gv.a0 (Gv.bb BK365.out hb); have n1_ := Gv.a0 (below_step Gv.bw hb); have n2_ := Gv.a0 (hbox); have n3_ := Gv.a0 ((Gv.ble hg Gv.bw : w.heap.size ≤ gb366)); have n4_ := Gv.a0 ((Gv.ble hg Gv.bw : w.heap.size ≤ gb366)); have n5_ := Gv.a0 ((Gv.nlt hg (Gv.kb BK365.out) : gb365 ≠ gb366)); have n6_ := Gv.a0 ((Gv.ngt hg (Gv.kb BK365.out) : gb366 ≠ gb365)); clear BK365; clear HB; have BK365 := n0_; have HB := n1_; have BK366 := n2_; have GW366 := n3_; have GE366 := n4_; have NB365_366 := n5_; have NB366_365 := n6_; clear n0_ n1_ n2_ n3_ n4_ n5_ n6_; clear hb hbox hg; have hnb53 := NB366_365.out; have hnc53 := NB365_366.out; obtain ⟨hcz54_0, hcz54_1, hcz54_2, hcz54_3, hcz54_4, hcz54_5, hcz54_6, hcz54_7, hcz54_8, hcz54_9, hcz54_10, hcz54_11, hcz54_12, hcz54_13, hcz54_14, hcz54_15, hcz54_16⟩ := Gv.c17 BK366.out; obtain ⟨hfz54_0, hfz54_1, hfz54_2, hfz54_3, hfz54_4, hfz54_5, hfz54_6, hfz54_7, hfz54_8, hfz54_9, hfz54_10, hfz54_11, hfz54_12, hfz54_13, hfz54_14, hfz54_15, hfz54_16⟩ := Gv.f17 BK366.out; obtain ⟨hcz55_0, hcz55_1, hcz55_2, hcz55_3, hcz55_4, hcz55_5, hcz55_6, hcz55_7, hcz55_8, hcz55_9, hcz55_10, hcz55_11, hcz55_12, hcz55_13, hcz55_14, hcz55_15, hcz55_16⟩ := Gv.c17 BK365.out; obtain ⟨hfz55_0, hfz55_1, hfz55_2, hfz55_3, hfz55_4, hfz55_5, hfz55_6, hfz55_7, hfz55_8, hfz55_9, hfz55_10, hfz55_11, hfz55_12, hfz55_13, hfz55_14, hfz55_15, hfz55_16⟩ := Gv.f17 BK365.out) | ((with_reducible refine gate_store (t := 38) (p := 3) rfl ?_); refine Gv.store_event rfl rfl rfl rfl rfl (Gv.kb BK366.out) (by kernel_rfl) rfl (by simp; and_intros <;> rfl) ?_; intro w52s hbox hoth hbel; have n0_ := Gv.a0 (hbox); have n1_ := Gv.a0 (hbel w Gv.bw GE366.out); have n2_ := Gv.a0 ((hoth gb365 NB365_366.out).trans (Gv.kb BK365.out)); clear BK366 HB BK365; have BK366 := n0_; have HB := n1_; have BK365 := n2_; clear n0_ n1_ n2_ hbox hoth hbel; (try clear hcz54_0 hcz54_1 hcz54_2 hcz54_3 hcz54_4 hcz54_5 hcz54_6 hcz54_7 hcz54_8 hcz54_9 hcz54_10 hcz54_11 hcz54_12 hcz54_13 hcz54_14 hcz54_15 hcz54_16 hfz54_0 hfz54_1 hfz54_2 hfz54_3 hfz54_4 hfz54_5 hfz54_6 hfz54_7 hfz54_8 hfz54_9 hfz54_10 hfz54_11 hfz54_12 hfz54_13 hfz54_14 hfz54_15 hfz54_16 hcz55_0 hcz55_1 hcz55_2 hcz55_3 hcz55_4 hcz55_5 hcz55_6 hcz55_7 hcz55_8 hcz55_9 hcz55_10 hcz55_11 hcz55_12 hcz55_13 hcz55_14 hcz55_15 hcz55_16 hfz55_0 hfz55_1 hfz55_2 hfz55_3 hfz55_4 hfz55_5 hfz55_6 hfz55_7 hfz55_8 hfz55_9 hfz55_10 hfz55_11 hfz55_12 hfz55_13 hfz55_14 hfz55_15 hfz55_16); obtain ⟨hcz54_0, hcz54_1, hcz54_2, hcz54_3, hcz54_4, hcz54_5, hcz54_6, hcz54_7, hcz54_8, hcz54_9, hcz54_10, hcz54_11, hcz54_12, hcz54_13, hcz54_14, hcz54_15, hcz54_16⟩ := Gv.c17 BK366.out; obtain ⟨hfz54_0, hfz54_1, hfz54_2, hfz54_3, hfz54_4, hfz54_5, hfz54_6, hfz54_7, hfz54_8, hfz54_9, hfz54_10, hfz54_11, hfz54_12, hfz54_13, hfz54_14, hfz54_15, hfz54_16⟩ := Gv.f17 BK366.out; obtain ⟨hcz55_0, hcz55_1, hcz55_2, hcz55_3, hcz55_4, hcz55_5, hcz55_6, hcz55_7, hcz55_8, hcz55_9, hcz55_10, hcz55_11, hcz55_12, hcz55_13, hcz55_14, hcz55_15, hcz55_16⟩ := Gv.c17 BK365.out; obtain ⟨hfz55_0, hfz55_1, hfz55_2, hfz55_3, hfz55_4, hfz55_5, hfz55_6, hfz55_7, hfz55_8, hfz55_9, hfz55_10, hfz55_11, hfz55_12, hfz55_13, hfz55_14, hfz55_15, hfz55_16⟩ := Gv.f17 BK365.out) | ((with_reducible refine gate_callee (f := 43) rfl ?_); refine goesL_ (some 11) rfl rfl Try.func43 (by kernel_rfl) rfl #[.agg #[.int .i64 a0_1, .int .i64 a0_2, .int .i64 a0_3, .int .i64 a0_4, .int .i64 a0_5, .int .i64 a0_6]] rfl Gv.lm ?_; (with_reducible refine (impl_PrefixOk.calls k a0_1 a0_2 a0_3 a0_4 a0_5 a0_6 false _ A3.out).mono ?_); rintro e w56 ⟨rfl, hb⟩; refine ⟨_, rfl, ?_⟩; have n0_ := Gv.a0 (blk_below (g := gb365) (o := .cells #[.int .i64 a0_0, .int .i64 a0_1, .int .i64 a0_2, .int .i64 a0_3, .int .i64 a0_4, .int .i64 a0_5, .int .i64 a0_6, .int .i64 a0_7, .int .i64 a0_8, .int .i64 a0_9, .int .i64 a0_10, .int .i64 a0_11, .int .i64 a0_12, .int .i64 a0_13, .int .i64 a0_14, .int .i64 a0_15, .int .i64 a0_16] 38 (0, 0)) Gv.bkf hb); have n1_ := Gv.a0 (blk_below (g := gb366) (o := .cells #[.int .i64 a0_0, .int .i64 a0_1, .int .i64 a0_2, .int .i64 a0_3, .int .i64 a0_4, .int .i64 a0_5, .int .i64 a0_6, .int .i64 a0_7, .int .i64 a0_8, .int .i64 a0_9, .int .i64 a0_10, .int .i64 a0_11, .int .i64 a0_12, .int .i64 a0_13, .int .i64 a0_14, .int .i64 a0_15, .int .i64 a0_16] 38 (0, 0)) (by (with_reducible repeat (first | refine blk_drewN ?_ _ | refine blk_drew ?_ | refine blk_alloc ?_ _)); exact BK366.out) hb); have n2_ := Gv.a0 (below_step Gv.bw hb); clear BK365; clear BK366; clear HB; have BK365 := n0_; have BK366 := n1_; have HB := n2_; clear n0_ n1_ n2_; (try clear hb); (try clear hb2); (try clear hk); (try clear hi)) | ((with_reducible refine Gv.gate_load (t := 38) rfl ?_); (try (refine gate_guard (by rfl) ?_; dsimp only)); refine wpList_load_row rfl 38 _ rfl gb365 rfl 38 _ _ _ (by first | exact Gv.kb0 BK365.out | exact Gv.kb1 (Gv.kb0 BK365.out)) Try.underlying38 rfl (by kernel_rfl) ?_) | ((with_reducible refine Gv.gate_load (t := 38) rfl ?_); (try (refine gate_guard (by rfl) ?_; dsimp only)); refine wpList_load_row rfl 38 _ rfl gb366 rfl 38 _ _ _ (by first | exact Gv.kb0 BK366.out | exact Gv.kb1 (Gv.kb0 BK366.out)) Try.underlying38 rfl (by kernel_rfl) ?_) | ((with_reducible refine gate_store (t := 3) rfl ?_); refine Gv.put_event (g := gb365) rfl rfl rfl rfl rfl (Gv.kb0 BK365.out) (by kernel_rfl) (by simp) ?_; intro wp_ hbox hoth hbel; simp only [List.setIfInBounds_toArray, List.set_cons_succ, List.set_cons_zero] at hbox; have n0_ := Gv.a0 hbox; have n1_ := Gv.a0 (hbel w Gv.bw GE365.out); have n2_ := Gv.a0 ((hoth gb366 NB366_365.out).trans (Gv.kb0 BK366.out)); clear BK365 HB BK366; have BK365 := n0_; have HB := n1_; have BK366 := n2_; clear n0_ n1_ n2_ hbox hoth hbel; obtain ⟨pc365_0, pc365_1, pc365_2, pc365_3, pc365_4, pc365_5, pc365_6, pc365_7, pc365_8, pc365_9, pc365_10, pc365_11, pc365_12, pc365_13, pc365_14, pc365_15, pc365_16⟩ := Gv.c17 BK365.out; obtain ⟨pf365_0, pf365_1, pf365_2, pf365_3, pf365_4, pf365_5, pf365_6, pf365_7, pf365_8, pf365_9, pf365_10, pf365_11, pf365_12, pf365_13, pf365_14, pf365_15, pf365_16⟩ := Gv.f17 BK365.out; obtain ⟨pc366_0, pc366_1, pc366_2, pc366_3, pc366_4, pc366_5, pc366_6, pc366_7, pc366_8, pc366_9, pc366_10, pc366_11, pc366_12, pc366_13, pc366_14, pc366_15, pc366_16⟩ := Gv.c17 BK366.out; obtain ⟨pf366_0, pf366_1, pf366_2, pf366_3, pf366_4, pf366_5, pf366_6, pf366_7, pf366_8, pf366_9, pf366_10, pf366_11, pf366_12, pf366_13, pf366_14, pf366_15, pf366_16⟩ := Gv.f17 BK366.out) | ((with_reducible refine gate_store (t := 3) rfl ?_); refine Gv.put_event (g := gb366) rfl rfl rfl rfl rfl (Gv.kb0 BK366.out) (by kernel_rfl) (by simp) ?_; intro wp_ hbox hoth hbel; simp only [List.setIfInBounds_toArray, List.set_cons_succ, List.set_cons_zero] at hbox; have n0_ := Gv.a0 hbox; have n1_ := Gv.a0 (hbel w Gv.bw GE366.out); have n2_ := Gv.a0 ((hoth gb365 NB365_366.out).trans (Gv.kb0 BK365.out)); clear BK366 HB BK365; have BK366 := n0_; have HB := n1_; have BK365 := n2_; clear n0_ n1_ n2_ hbox hoth hbel; obtain ⟨pc366_0, pc366_1, pc366_2, pc366_3, pc366_4, pc366_5, pc366_6, pc366_7, pc366_8, pc366_9, pc366_10, pc366_11, pc366_12, pc366_13, pc366_14, pc366_15, pc366_16⟩ := Gv.c17 BK366.out; obtain ⟨pf366_0, pf366_1, pf366_2, pf366_3, pf366_4, pf366_5, pf366_6, pf366_7, pf366_8, pf366_9, pf366_10, pf366_11, pf366_12, pf366_13, pf366_14, pf366_15, pf366_16⟩ := Gv.f17 BK366.out; obtain ⟨pc365_0, pc365_1, pc365_2, pc365_3, pc365_4, pc365_5, pc365_6, pc365_7, pc365_8, pc365_9, pc365_10, pc365_11, pc365_12, pc365_13, pc365_14, pc365_15, pc365_16⟩ := Gv.c17 BK365.out; obtain ⟨pf365_0, pf365_1, pf365_2, pf365_3, pf365_4, pf365_5, pf365_6, pf365_7, pf365_8, pf365_9, pf365_10, pf365_11, pf365_12, pf365_13, pf365_14, pf365_15, pf365_16⟩ := Gv.f17 BK365.out))
   go_ret
   exact ⟨Gv.rt, Gv.bw⟩
 ·rw [if_neg c2] at H
  have c2b0 : (a0_0 == 1) = false := beq_eq_false_iff_ne.mpr c2
  have c2b1 : (a0_0 != 1) = true := bne_iff_ne.mpr c2
  have HC57 := Gv.a0 H
  clear H
  go_enter Try.func15, Try.ntmps15
  go_upto_if 34 with (first | ((with_reducible refine gate_dst (N := 1) rfl ?_); refine box_event ?hg (N := 1) ?hd (cs := #[.int .i64 a0_0, .int .i64 a0_1, .int .i64 a0_2, .int .i64 a0_3, .int .i64 a0_4, .int .i64 a0_5, .int .i64 a0_6, .int .i64 a0_7, .int .i64 a0_8, .int .i64 a0_9, .int .i64 a0_10, .int .i64 a0_11, .int .i64 a0_12, .int .i64 a0_13, .int .i64 a0_14, .int .i64 a0_15, .int .i64 a0_16]) (t := 38) ?hr ?_; (case hd => rfl); (case hg => rfl); (case hr => first | (go_simp; done) | (go_simp; rfl)); intro gb365 hg w58 hbox hb; have n0_ := Gv.a0 (below_step Gv.bw hb); have n1_ := Gv.a0 (hbox); have n2_ := Gv.a0 ((Gv.ble hg Gv.bw : w.heap.size ≤ gb365)); have n3_ := Gv.a0 ((Gv.ble hg Gv.bw : w.heap.size ≤ gb365)); clear HB; have HB := n0_; have BK365 := n1_; have GW365 := n2_; have GE365 := n3_; clear n0_ n1_ n2_ n3_; clear hb hbox hg; obtain ⟨hcz59_0, hcz59_1, hcz59_2, hcz59_3, hcz59_4, hcz59_5, hcz59_6, hcz59_7, hcz59_8, hcz59_9, hcz59_10, hcz59_11, hcz59_12, hcz59_13, hcz59_14, hcz59_15, hcz59_16⟩ := Gv.c17 BK365.out; obtain ⟨hfz59_0, hfz59_1, hfz59_2, hfz59_3, hfz59_4, hfz59_5, hfz59_6, hfz59_7, hfz59_8, hfz59_9, hfz59_10, hfz59_11, hfz59_12, hfz59_13, hfz59_14, hfz59_15, hfz59_16⟩ := Gv.f17 BK365.out) | ((with_reducible refine gate_store (t := 38) (p := 1) rfl ?_); refine Gv.store_event rfl rfl rfl rfl rfl (Gv.kb BK365.out) (by kernel_rfl) rfl (by simp; and_intros <;> rfl) ?_; intro w58s hbox hoth hbel; have n0_ := Gv.a0 (hbox); have n1_ := Gv.a0 (hbel w Gv.bw GE365.out); clear BK365 HB; have BK365 := n0_; have HB := n1_; clear n0_ n1_ hbox hoth hbel; (try clear hcz59_0 hcz59_1 hcz59_2 hcz59_3 hcz59_4 hcz59_5 hcz59_6 hcz59_7 hcz59_8 hcz59_9 hcz59_10 hcz59_11 hcz59_12 hcz59_13 hcz59_14 hcz59_15 hcz59_16 hfz59_0 hfz59_1 hfz59_2 hfz59_3 hfz59_4 hfz59_5 hfz59_6 hfz59_7 hfz59_8 hfz59_9 hfz59_10 hfz59_11 hfz59_12 hfz59_13 hfz59_14 hfz59_15 hfz59_16); obtain ⟨hcz59_0, hcz59_1, hcz59_2, hcz59_3, hcz59_4, hcz59_5, hcz59_6, hcz59_7, hcz59_8, hcz59_9, hcz59_10, hcz59_11, hcz59_12, hcz59_13, hcz59_14, hcz59_15, hcz59_16⟩ := Gv.c17 BK365.out; obtain ⟨hfz59_0, hfz59_1, hfz59_2, hfz59_3, hfz59_4, hfz59_5, hfz59_6, hfz59_7, hfz59_8, hfz59_9, hfz59_10, hfz59_11, hfz59_12, hfz59_13, hfz59_14, hfz59_15, hfz59_16⟩ := Gv.f17 BK365.out) | ((with_reducible refine gate_dst (N := 3) rfl ?_); refine box_event ?hg (N := 3) ?hd (cs := #[.int .i64 0, .int .i64 0, .int .i64 0, .int .i64 0, .int .i64 0, .int .i64 0, .int .i64 0, .int .i64 0, .int .i64 0, .int .i64 0, .int .i64 0, .int .i64 0, .int .i64 0, .int .i64 0, .int .i64 0, .int .i64 0, .int .i64 0]) (t := 38) ?hr ?_; (case hd => rfl); (case hg => rfl); (case hr => first | (go_simp; done) | (go_simp; rfl)); intro gb366 hg w60 hbox hb; have n0_ := Gv.a0 (Gv.bb BK365.out hb); have n1_ := Gv.a0 (below_step Gv.bw hb); have n2_ := Gv.a0 (hbox); have n3_ := Gv.a0 ((Gv.ble hg Gv.bw : w.heap.size ≤ gb366)); have n4_ := Gv.a0 ((Gv.ble hg Gv.bw : w.heap.size ≤ gb366)); have n5_ := Gv.a0 ((Gv.nlt hg (Gv.kb BK365.out) : gb365 ≠ gb366)); have n6_ := Gv.a0 ((Gv.ngt hg (Gv.kb BK365.out) : gb366 ≠ gb365)); clear BK365; clear HB; have BK365 := n0_; have HB := n1_; have BK366 := n2_; have GW366 := n3_; have GE366 := n4_; have NB365_366 := n5_; have NB366_365 := n6_; clear n0_ n1_ n2_ n3_ n4_ n5_ n6_; clear hb hbox hg; have hnb61 := NB366_365.out; have hnc61 := NB365_366.out; obtain ⟨hcz62_0, hcz62_1, hcz62_2, hcz62_3, hcz62_4, hcz62_5, hcz62_6, hcz62_7, hcz62_8, hcz62_9, hcz62_10, hcz62_11, hcz62_12, hcz62_13, hcz62_14, hcz62_15, hcz62_16⟩ := Gv.c17 BK366.out; obtain ⟨hfz62_0, hfz62_1, hfz62_2, hfz62_3, hfz62_4, hfz62_5, hfz62_6, hfz62_7, hfz62_8, hfz62_9, hfz62_10, hfz62_11, hfz62_12, hfz62_13, hfz62_14, hfz62_15, hfz62_16⟩ := Gv.f17 BK366.out; obtain ⟨hcz63_0, hcz63_1, hcz63_2, hcz63_3, hcz63_4, hcz63_5, hcz63_6, hcz63_7, hcz63_8, hcz63_9, hcz63_10, hcz63_11, hcz63_12, hcz63_13, hcz63_14, hcz63_15, hcz63_16⟩ := Gv.c17 BK365.out; obtain ⟨hfz63_0, hfz63_1, hfz63_2, hfz63_3, hfz63_4, hfz63_5, hfz63_6, hfz63_7, hfz63_8, hfz63_9, hfz63_10, hfz63_11, hfz63_12, hfz63_13, hfz63_14, hfz63_15, hfz63_16⟩ := Gv.f17 BK365.out) | ((with_reducible refine gate_store (t := 38) (p := 3) rfl ?_); refine Gv.store_event rfl rfl rfl rfl rfl (Gv.kb BK366.out) (by kernel_rfl) rfl (by simp; and_intros <;> rfl) ?_; intro w60s hbox hoth hbel; have n0_ := Gv.a0 (hbox); have n1_ := Gv.a0 (hbel w Gv.bw GE366.out); have n2_ := Gv.a0 ((hoth gb365 NB365_366.out).trans (Gv.kb BK365.out)); clear BK366 HB BK365; have BK366 := n0_; have HB := n1_; have BK365 := n2_; clear n0_ n1_ n2_ hbox hoth hbel; (try clear hcz62_0 hcz62_1 hcz62_2 hcz62_3 hcz62_4 hcz62_5 hcz62_6 hcz62_7 hcz62_8 hcz62_9 hcz62_10 hcz62_11 hcz62_12 hcz62_13 hcz62_14 hcz62_15 hcz62_16 hfz62_0 hfz62_1 hfz62_2 hfz62_3 hfz62_4 hfz62_5 hfz62_6 hfz62_7 hfz62_8 hfz62_9 hfz62_10 hfz62_11 hfz62_12 hfz62_13 hfz62_14 hfz62_15 hfz62_16 hcz63_0 hcz63_1 hcz63_2 hcz63_3 hcz63_4 hcz63_5 hcz63_6 hcz63_7 hcz63_8 hcz63_9 hcz63_10 hcz63_11 hcz63_12 hcz63_13 hcz63_14 hcz63_15 hcz63_16 hfz63_0 hfz63_1 hfz63_2 hfz63_3 hfz63_4 hfz63_5 hfz63_6 hfz63_7 hfz63_8 hfz63_9 hfz63_10 hfz63_11 hfz63_12 hfz63_13 hfz63_14 hfz63_15 hfz63_16); obtain ⟨hcz62_0, hcz62_1, hcz62_2, hcz62_3, hcz62_4, hcz62_5, hcz62_6, hcz62_7, hcz62_8, hcz62_9, hcz62_10, hcz62_11, hcz62_12, hcz62_13, hcz62_14, hcz62_15, hcz62_16⟩ := Gv.c17 BK366.out; obtain ⟨hfz62_0, hfz62_1, hfz62_2, hfz62_3, hfz62_4, hfz62_5, hfz62_6, hfz62_7, hfz62_8, hfz62_9, hfz62_10, hfz62_11, hfz62_12, hfz62_13, hfz62_14, hfz62_15, hfz62_16⟩ := Gv.f17 BK366.out; obtain ⟨hcz63_0, hcz63_1, hcz63_2, hcz63_3, hcz63_4, hcz63_5, hcz63_6, hcz63_7, hcz63_8, hcz63_9, hcz63_10, hcz63_11, hcz63_12, hcz63_13, hcz63_14, hcz63_15, hcz63_16⟩ := Gv.c17 BK365.out; obtain ⟨hfz63_0, hfz63_1, hfz63_2, hfz63_3, hfz63_4, hfz63_5, hfz63_6, hfz63_7, hfz63_8, hfz63_9, hfz63_10, hfz63_11, hfz63_12, hfz63_13, hfz63_14, hfz63_15, hfz63_16⟩ := Gv.f17 BK365.out) | ((with_reducible refine Gv.gate_load (t := 38) rfl ?_); (try (refine gate_guard (by rfl) ?_; dsimp only)); refine wpList_load_row rfl 38 _ rfl gb365 rfl 38 _ _ _ (by first | exact Gv.kb0 BK365.out | exact Gv.kb1 (Gv.kb0 BK365.out)) Try.underlying38 rfl (by kernel_rfl) ?_) | ((with_reducible refine Gv.gate_load (t := 38) rfl ?_); (try (refine gate_guard (by rfl) ?_; dsimp only)); refine wpList_load_row rfl 38 _ rfl gb366 rfl 38 _ _ _ (by first | exact Gv.kb0 BK366.out | exact Gv.kb1 (Gv.kb0 BK366.out)) Try.underlying38 rfl (by kernel_rfl) ?_) | ((with_reducible refine gate_store (t := 3) rfl ?_); refine Gv.put_event (g := gb365) rfl rfl rfl rfl rfl (Gv.kb0 BK365.out) (by kernel_rfl) (by simp) ?_; intro wp_ hbox hoth hbel; simp only [List.setIfInBounds_toArray, List.set_cons_succ, List.set_cons_zero] at hbox; have n0_ := Gv.a0 hbox; have n1_ := Gv.a0 (hbel w Gv.bw GE365.out); have n2_ := Gv.a0 ((hoth gb366 NB366_365.out).trans (Gv.kb0 BK366.out)); clear BK365 HB BK366; have BK365 := n0_; have HB := n1_; have BK366 := n2_; clear n0_ n1_ n2_ hbox hoth hbel; obtain ⟨pc365_0, pc365_1, pc365_2, pc365_3, pc365_4, pc365_5, pc365_6, pc365_7, pc365_8, pc365_9, pc365_10, pc365_11, pc365_12, pc365_13, pc365_14, pc365_15, pc365_16⟩ := Gv.c17 BK365.out; obtain ⟨pf365_0, pf365_1, pf365_2, pf365_3, pf365_4, pf365_5, pf365_6, pf365_7, pf365_8, pf365_9, pf365_10, pf365_11, pf365_12, pf365_13, pf365_14, pf365_15, pf365_16⟩ := Gv.f17 BK365.out; obtain ⟨pc366_0, pc366_1, pc366_2, pc366_3, pc366_4, pc366_5, pc366_6, pc366_7, pc366_8, pc366_9, pc366_10, pc366_11, pc366_12, pc366_13, pc366_14, pc366_15, pc366_16⟩ := Gv.c17 BK366.out; obtain ⟨pf366_0, pf366_1, pf366_2, pf366_3, pf366_4, pf366_5, pf366_6, pf366_7, pf366_8, pf366_9, pf366_10, pf366_11, pf366_12, pf366_13, pf366_14, pf366_15, pf366_16⟩ := Gv.f17 BK366.out) | ((with_reducible refine gate_store (t := 3) rfl ?_); refine Gv.put_event (g := gb366) rfl rfl rfl rfl rfl (Gv.kb0 BK366.out) (by kernel_rfl) (by simp) ?_; intro wp_ hbox hoth hbel; simp only [List.setIfInBounds_toArray, List.set_cons_succ, List.set_cons_zero] at hbox; have n0_ := Gv.a0 hbox; have n1_ := Gv.a0 (hbel w Gv.bw GE366.out); have n2_ := Gv.a0 ((hoth gb365 NB365_366.out).trans (Gv.kb0 BK365.out)); clear BK366 HB BK365; have BK366 := n0_; have HB := n1_; have BK365 := n2_; clear n0_ n1_ n2_ hbox hoth hbel; obtain ⟨pc366_0, pc366_1, pc366_2, pc366_3, pc366_4, pc366_5, pc366_6, pc366_7, pc366_8, pc366_9, pc366_10, pc366_11, pc366_12, pc366_13, pc366_14, pc366_15, pc366_16⟩ := Gv.c17 BK366.out; obtain ⟨pf366_0, pf366_1, pf366_2, pf366_3, pf366_4, pf366_5, pf366_6, pf366_7, pf366_8, pf366_9, pf366_10, pf366_11, pf366_12, pf366_13, pf366_14, pf366_15, pf366_16⟩ := Gv.f17 BK366.out; obtain ⟨pc365_0, pc365_1, pc365_2, pc365_3, pc365_4, pc365_5, pc365_6, pc365_7, pc365_8, pc365_9, pc365_10, pc365_11, pc365_12, pc365_13, pc365_14, pc365_15, pc365_16⟩ := Gv.c17 BK365.out; obtain ⟨pf365_0, pf365_1, pf365_2, pf365_3, pf365_4, pf365_5, pf365_6, pf365_7, pf365_8, pf365_9, pf365_10, pf365_11, pf365_12, pf365_13, pf365_14, pf365_15, pf365_16⟩ := Gv.f17 BK365.out))
  (try simp only [Act.put, List.setIfInBounds_toArray, List.set_cons_zero, List.set_cons_succ])
  go_cut [34] (fun v34 wc => ∃ (kq : Nat) (x34_56 : Bool), v34 = .bool x34_56 ∧ Aside0 (impl_ModuleOk.j0 kq a0_0 x34_56 a0_0 a0_1 a0_2 a0_3 a0_4 a0_5 a0_6 a0_7 a0_8 a0_9 a0_10 a0_11 a0_12 a0_13 a0_14 a0_15 a0_16 a0_0 a0_1 a0_2 a0_3 a0_4 a0_5 a0_6 a0_7 a0_8 a0_9 a0_10 a0_11 a0_12 a0_13 a0_14 a0_15 a0_16 = some r) ∧ Aside0 (kq ≤ k) ∧ Aside0 (wc.heap[gb365]? = some (.cells #[.int .i64 a0_0, .int .i64 a0_1, .int .i64 a0_2, .int .i64 a0_3, .int .i64 a0_4, .int .i64 a0_5, .int .i64 a0_6, .int .i64 a0_7, .int .i64 a0_8, .int .i64 a0_9, .int .i64 a0_10, .int .i64 a0_11, .int .i64 a0_12, .int .i64 a0_13, .int .i64 a0_14, .int .i64 a0_15, .int .i64 a0_16] 38 (0, 0))) ∧ Aside0 (wc.heap[gb366]? = some (.cells #[.int .i64 a0_0, .int .i64 a0_1, .int .i64 a0_2, .int .i64 a0_3, .int .i64 a0_4, .int .i64 a0_5, .int .i64 a0_6, .int .i64 a0_7, .int .i64 a0_8, .int .i64 a0_9, .int .i64 a0_10, .int .i64 a0_11, .int .i64 a0_12, .int .i64 a0_13, .int .i64 a0_14, .int .i64 a0_15, .int .i64 a0_16] 38 (0, 0))) ∧ Aside0 (Below w.heap.size w wc))
  case first =>
   have H := HC57.out
   clear HC57
   by_cases c64 : a0_0 = 2
   ·rw [if_pos c64] at H
    have c64b0 : (a0_0 == 2) = true := beq_iff_eq.mpr c64
    have c64b1 : (a0_0 != 2) = false := bne_eq_false_iff_eq.mpr c64
    clear c64
    (first | rw [c64b0] | (simp only [i64_w, i32_w]; rw [c64b0]) | skip)
    have H' := Gv.a0 H
    clear H
    go_wp2_with (first | ((with_reducible refine Gv.gate_load (t := 38) rfl ?_); (try (refine gate_guard (by rfl) ?_; dsimp only)); refine wpList_load_row rfl 38 _ rfl gb365 rfl 38 _ _ _ (by first | exact Gv.kb0 BK365.out | exact Gv.kb1 (Gv.kb0 BK365.out)) Try.underlying38 rfl (by kernel_rfl) ?_) | ((with_reducible refine Gv.gate_load (t := 38) rfl ?_); (try (refine gate_guard (by rfl) ?_; dsimp only)); refine wpList_load_row rfl 38 _ rfl gb366 rfl 38 _ _ _ (by first | exact Gv.kb0 BK366.out | exact Gv.kb1 (Gv.kb0 BK366.out)) Try.underlying38 rfl (by kernel_rfl) ?_) | ((with_reducible refine gate_store (t := 3) rfl ?_); refine Gv.put_event (g := gb365) rfl rfl rfl rfl rfl (Gv.kb0 BK365.out) (by kernel_rfl) (by simp) ?_; intro wp_ hbox hoth hbel; simp only [List.setIfInBounds_toArray, List.set_cons_succ, List.set_cons_zero] at hbox; have n0_ := Gv.a0 hbox; have n1_ := Gv.a0 (hbel w Gv.bw GE365.out); have n2_ := Gv.a0 ((hoth gb366 NB366_365.out).trans (Gv.kb0 BK366.out)); clear BK365 HB BK366; have BK365 := n0_; have HB := n1_; have BK366 := n2_; clear n0_ n1_ n2_ hbox hoth hbel; obtain ⟨pc365_0, pc365_1, pc365_2, pc365_3, pc365_4, pc365_5, pc365_6, pc365_7, pc365_8, pc365_9, pc365_10, pc365_11, pc365_12, pc365_13, pc365_14, pc365_15, pc365_16⟩ := Gv.c17 BK365.out; obtain ⟨pf365_0, pf365_1, pf365_2, pf365_3, pf365_4, pf365_5, pf365_6, pf365_7, pf365_8, pf365_9, pf365_10, pf365_11, pf365_12, pf365_13, pf365_14, pf365_15, pf365_16⟩ := Gv.f17 BK365.out; obtain ⟨pc366_0, pc366_1, pc366_2, pc366_3, pc366_4, pc366_5, pc366_6, pc366_7, pc366_8, pc366_9, pc366_10, pc366_11, pc366_12, pc366_13, pc366_14, pc366_15, pc366_16⟩ := Gv.c17 BK366.out; obtain ⟨pf366_0, pf366_1, pf366_2, pf366_3, pf366_4, pf366_5, pf366_6, pf366_7, pf366_8, pf366_9, pf366_10, pf366_11, pf366_12, pf366_13, pf366_14, pf366_15, pf366_16⟩ := Gv.f17 BK366.out) | ((with_reducible refine gate_store (t := 3) rfl ?_); refine Gv.put_event (g := gb366) rfl rfl rfl rfl rfl (Gv.kb0 BK366.out) (by kernel_rfl) (by simp) ?_; intro wp_ hbox hoth hbel; simp only [List.setIfInBounds_toArray, List.set_cons_succ, List.set_cons_zero] at hbox; have n0_ := Gv.a0 hbox; have n1_ := Gv.a0 (hbel w Gv.bw GE366.out); have n2_ := Gv.a0 ((hoth gb365 NB365_366.out).trans (Gv.kb0 BK365.out)); clear BK366 HB BK365; have BK366 := n0_; have HB := n1_; have BK365 := n2_; clear n0_ n1_ n2_ hbox hoth hbel; obtain ⟨pc366_0, pc366_1, pc366_2, pc366_3, pc366_4, pc366_5, pc366_6, pc366_7, pc366_8, pc366_9, pc366_10, pc366_11, pc366_12, pc366_13, pc366_14, pc366_15, pc366_16⟩ := Gv.c17 BK366.out; obtain ⟨pf366_0, pf366_1, pf366_2, pf366_3, pf366_4, pf366_5, pf366_6, pf366_7, pf366_8, pf366_9, pf366_10, pf366_11, pf366_12, pf366_13, pf366_14, pf366_15, pf366_16⟩ := Gv.f17 BK366.out; obtain ⟨pc365_0, pc365_1, pc365_2, pc365_3, pc365_4, pc365_5, pc365_6, pc365_7, pc365_8, pc365_9, pc365_10, pc365_11, pc365_12, pc365_13, pc365_14, pc365_15, pc365_16⟩ := Gv.c17 BK365.out; obtain ⟨pf365_0, pf365_1, pf365_2, pf365_3, pf365_4, pf365_5, pf365_6, pf365_7, pf365_8, pf365_9, pf365_10, pf365_11, pf365_12, pf365_13, pf365_14, pf365_15, pf365_16⟩ := Gv.f17 BK365.out))
    go_meet
    case rel => exact ⟨_, ((a0_0 == 2)), Gv.rq, H', ⟨by first | omega | exact Nat.le_refl _⟩, ⟨by (with_reducible repeat (first | refine blk_drewN ?_ _ | refine blk_drew ?_ | refine blk_alloc ?_ _)); (repeat (refine blk_far ?_ NB365_366.out _; (with_reducible repeat (first | refine blk_drewN ?_ _ | refine blk_drew ?_ | refine blk_alloc ?_ _)))); (with_reducible repeat (first | refine blk_drewN ?_ _ | refine blk_drew ?_ | refine blk_alloc ?_ _)); exact BK365.out⟩, ⟨by (with_reducible repeat (first | refine blk_drewN ?_ _ | refine blk_drew ?_ | refine blk_alloc ?_ _)); exact BK366.out⟩, ⟨Gv.bw⟩⟩
   ·rw [if_neg c64] at H
    have c64b0 : (a0_0 == 2) = false := beq_eq_false_iff_ne.mpr c64
    have c64b1 : (a0_0 != 2) = true := bne_iff_ne.mpr c64
    (first | rw [c64b0] | (simp only [i64_w, i32_w]; rw [c64b0]) | skip)
    have H' := Gv.a0 H
    clear H
    go_wp2_with (first | ((with_reducible refine Gv.gate_load (t := 38) rfl ?_); (try (refine gate_guard (by rfl) ?_; dsimp only)); refine wpList_load_row rfl 38 _ rfl gb365 rfl 38 _ _ _ (by first | exact Gv.kb0 BK365.out | exact Gv.kb1 (Gv.kb0 BK365.out)) Try.underlying38 rfl (by kernel_rfl) ?_) | ((with_reducible refine Gv.gate_load (t := 38) rfl ?_); (try (refine gate_guard (by rfl) ?_; dsimp only)); refine wpList_load_row rfl 38 _ rfl gb366 rfl 38 _ _ _ (by first | exact Gv.kb0 BK366.out | exact Gv.kb1 (Gv.kb0 BK366.out)) Try.underlying38 rfl (by kernel_rfl) ?_) | ((with_reducible refine gate_store (t := 3) rfl ?_); refine Gv.put_event (g := gb365) rfl rfl rfl rfl rfl (Gv.kb0 BK365.out) (by kernel_rfl) (by simp) ?_; intro wp_ hbox hoth hbel; simp only [List.setIfInBounds_toArray, List.set_cons_succ, List.set_cons_zero] at hbox; have n0_ := Gv.a0 hbox; have n1_ := Gv.a0 (hbel w Gv.bw GE365.out); have n2_ := Gv.a0 ((hoth gb366 NB366_365.out).trans (Gv.kb0 BK366.out)); clear BK365 HB BK366; have BK365 := n0_; have HB := n1_; have BK366 := n2_; clear n0_ n1_ n2_ hbox hoth hbel; obtain ⟨pc365_0, pc365_1, pc365_2, pc365_3, pc365_4, pc365_5, pc365_6, pc365_7, pc365_8, pc365_9, pc365_10, pc365_11, pc365_12, pc365_13, pc365_14, pc365_15, pc365_16⟩ := Gv.c17 BK365.out; obtain ⟨pf365_0, pf365_1, pf365_2, pf365_3, pf365_4, pf365_5, pf365_6, pf365_7, pf365_8, pf365_9, pf365_10, pf365_11, pf365_12, pf365_13, pf365_14, pf365_15, pf365_16⟩ := Gv.f17 BK365.out; obtain ⟨pc366_0, pc366_1, pc366_2, pc366_3, pc366_4, pc366_5, pc366_6, pc366_7, pc366_8, pc366_9, pc366_10, pc366_11, pc366_12, pc366_13, pc366_14, pc366_15, pc366_16⟩ := Gv.c17 BK366.out; obtain ⟨pf366_0, pf366_1, pf366_2, pf366_3, pf366_4, pf366_5, pf366_6, pf366_7, pf366_8, pf366_9, pf366_10, pf366_11, pf366_12, pf366_13, pf366_14, pf366_15, pf366_16⟩ := Gv.f17 BK366.out) | ((with_reducible refine gate_store (t := 3) rfl ?_); refine Gv.put_event (g := gb366) rfl rfl rfl rfl rfl (Gv.kb0 BK366.out) (by kernel_rfl) (by simp) ?_; intro wp_ hbox hoth hbel; simp only [List.setIfInBounds_toArray, List.set_cons_succ, List.set_cons_zero] at hbox; have n0_ := Gv.a0 hbox; have n1_ := Gv.a0 (hbel w Gv.bw GE366.out); have n2_ := Gv.a0 ((hoth gb365 NB365_366.out).trans (Gv.kb0 BK365.out)); clear BK366 HB BK365; have BK366 := n0_; have HB := n1_; have BK365 := n2_; clear n0_ n1_ n2_ hbox hoth hbel; obtain ⟨pc366_0, pc366_1, pc366_2, pc366_3, pc366_4, pc366_5, pc366_6, pc366_7, pc366_8, pc366_9, pc366_10, pc366_11, pc366_12, pc366_13, pc366_14, pc366_15, pc366_16⟩ := Gv.c17 BK366.out; obtain ⟨pf366_0, pf366_1, pf366_2, pf366_3, pf366_4, pf366_5, pf366_6, pf366_7, pf366_8, pf366_9, pf366_10, pf366_11, pf366_12, pf366_13, pf366_14, pf366_15, pf366_16⟩ := Gv.f17 BK366.out; obtain ⟨pc365_0, pc365_1, pc365_2, pc365_3, pc365_4, pc365_5, pc365_6, pc365_7, pc365_8, pc365_9, pc365_10, pc365_11, pc365_12, pc365_13, pc365_14, pc365_15, pc365_16⟩ := Gv.c17 BK365.out; obtain ⟨pf365_0, pf365_1, pf365_2, pf365_3, pf365_4, pf365_5, pf365_6, pf365_7, pf365_8, pf365_9, pf365_10, pf365_11, pf365_12, pf365_13, pf365_14, pf365_15, pf365_16⟩ := Gv.f17 BK365.out))
    go_meet
    case rel => exact ⟨_, ((a0_0 == 3)), Gv.rq, H', ⟨by first | omega | exact Nat.le_refl _⟩, ⟨by (with_reducible repeat (first | refine blk_drewN ?_ _ | refine blk_drew ?_ | refine blk_alloc ?_ _)); (repeat (refine blk_far ?_ NB365_366.out _; (with_reducible repeat (first | refine blk_drewN ?_ _ | refine blk_drew ?_ | refine blk_alloc ?_ _)))); (with_reducible repeat (first | refine blk_drewN ?_ _ | refine blk_drew ?_ | refine blk_alloc ?_ _)); exact BK365.out⟩, ⟨by (with_reducible repeat (first | refine blk_drewN ?_ _ | refine blk_drew ?_ | refine blk_alloc ?_ _)); exact BK366.out⟩, ⟨Gv.bw⟩⟩
  case rest =>
   clear HC57
   try clear c1
   try clear c2
   try clear c2b0
   try clear c2b1
   try clear p2
   try clear c3
   try clear c4
   try clear c5
   try clear c6
   try clear c8
   try clear c10
   try clear c14
   try clear c15
   try clear c24
   try clear c34
   try clear c43
   try clear c44
   try clear c53
   try clear c61
   try clear c64
   try clear c64b0
   try clear c64b1
   try clear hcz12_0 hcz12_1
   try clear hcz12_10 hcz12_11 hcz12_12 hcz12_13 hcz12_14 hcz12_15 hcz12_16
   try clear hcz12_2 hcz12_3 hcz12_4 hcz12_5 hcz12_6 hcz12_7 hcz12_8 hcz12_9
   try clear hcz15_0 hcz15_1
   try clear hcz15_10 hcz15_11 hcz15_12 hcz15_13 hcz15_14 hcz15_15 hcz15_16
   try clear hcz15_2 hcz15_3 hcz15_4 hcz15_5 hcz15_6 hcz15_7 hcz15_8 hcz15_9
   try clear hcz16_0 hcz16_1
   try clear hcz16_10 hcz16_11 hcz16_12 hcz16_13 hcz16_14 hcz16_15 hcz16_16
   try clear hcz16_2 hcz16_3 hcz16_4 hcz16_5 hcz16_6 hcz16_7 hcz16_8 hcz16_9
   try clear hcz18_0 hcz18_1
   try clear hcz18_10 hcz18_11 hcz18_12 hcz18_13 hcz18_14 hcz18_15 hcz18_16
   try clear hcz18_2 hcz18_3 hcz18_4 hcz18_5 hcz18_6 hcz18_7 hcz18_8 hcz18_9
   try clear hcz20_0 hcz20_1
   try clear hcz20_10 hcz20_11 hcz20_12 hcz20_13 hcz20_14 hcz20_15 hcz20_16
   try clear hcz20_2 hcz20_3 hcz20_4 hcz20_5 hcz20_6 hcz20_7 hcz20_8 hcz20_9
   try clear hcz22_0 hcz22_1
   try clear hcz22_10 hcz22_11 hcz22_12 hcz22_13 hcz22_14 hcz22_15 hcz22_16
   try clear hcz22_2 hcz22_3 hcz22_4 hcz22_5 hcz22_6 hcz22_7 hcz22_8 hcz22_9
   try clear hcz25_0 hcz25_1
   try clear hcz25_10 hcz25_11 hcz25_12 hcz25_13 hcz25_14 hcz25_15 hcz25_16
   try clear hcz25_2 hcz25_3 hcz25_4 hcz25_5 hcz25_6 hcz25_7 hcz25_8 hcz25_9
   try clear hcz26_0 hcz26_1
   try clear hcz26_10 hcz26_11 hcz26_12 hcz26_13 hcz26_14 hcz26_15 hcz26_16
   try clear hcz26_2 hcz26_3 hcz26_4 hcz26_5 hcz26_6 hcz26_7 hcz26_8 hcz26_9
   try clear hcz28_0 hcz28_1
   try clear hcz28_10 hcz28_11 hcz28_12 hcz28_13 hcz28_14 hcz28_15 hcz28_16
   try clear hcz28_2 hcz28_3 hcz28_4 hcz28_5 hcz28_6 hcz28_7 hcz28_8 hcz28_9
   try clear hcz30_0 hcz30_1
   try clear hcz30_10 hcz30_11 hcz30_12 hcz30_13 hcz30_14 hcz30_15 hcz30_16
   try clear hcz30_2 hcz30_3 hcz30_4 hcz30_5 hcz30_6 hcz30_7 hcz30_8 hcz30_9
   try clear hcz32_0 hcz32_1
   try clear hcz32_10 hcz32_11 hcz32_12 hcz32_13 hcz32_14 hcz32_15 hcz32_16
   try clear hcz32_2 hcz32_3 hcz32_4 hcz32_5 hcz32_6 hcz32_7 hcz32_8 hcz32_9
   try clear hcz35_0 hcz35_1
   try clear hcz35_10 hcz35_11 hcz35_12 hcz35_13 hcz35_14 hcz35_15 hcz35_16
   try clear hcz35_2 hcz35_3 hcz35_4 hcz35_5 hcz35_6 hcz35_7 hcz35_8 hcz35_9
   try clear hcz36_0 hcz36_1
   try clear hcz36_10 hcz36_11 hcz36_12 hcz36_13 hcz36_14 hcz36_15 hcz36_16
   try clear hcz36_2 hcz36_3 hcz36_4 hcz36_5 hcz36_6 hcz36_7 hcz36_8 hcz36_9
   try clear hcz38_0 hcz38_1
   try clear hcz38_10 hcz38_11 hcz38_12 hcz38_13 hcz38_14 hcz38_15 hcz38_16
   try clear hcz38_2 hcz38_3 hcz38_4 hcz38_5 hcz38_6 hcz38_7 hcz38_8 hcz38_9
   try clear hcz40_0 hcz40_1
   try clear hcz40_10 hcz40_11 hcz40_12 hcz40_13 hcz40_14 hcz40_15 hcz40_16
   try clear hcz40_2 hcz40_3 hcz40_4 hcz40_5 hcz40_6 hcz40_7 hcz40_8 hcz40_9
   try clear hcz42_0 hcz42_1
   try clear hcz42_10 hcz42_11 hcz42_12 hcz42_13 hcz42_14 hcz42_15 hcz42_16
   try clear hcz42_2 hcz42_3 hcz42_4 hcz42_5 hcz42_6 hcz42_7 hcz42_8 hcz42_9
   try clear hcz45_0 hcz45_1
   try clear hcz45_10 hcz45_11 hcz45_12 hcz45_13 hcz45_14 hcz45_15 hcz45_16
   try clear hcz45_2 hcz45_3 hcz45_4 hcz45_5 hcz45_6 hcz45_7 hcz45_8 hcz45_9
   try clear hcz46_0 hcz46_1
   try clear hcz46_10 hcz46_11 hcz46_12 hcz46_13 hcz46_14 hcz46_15 hcz46_16
   try clear hcz46_2 hcz46_3 hcz46_4 hcz46_5 hcz46_6 hcz46_7 hcz46_8 hcz46_9
   try clear hcz48_0 hcz48_1
   try clear hcz48_10 hcz48_11 hcz48_12 hcz48_13 hcz48_14 hcz48_15 hcz48_16
   try clear hcz48_2 hcz48_3 hcz48_4 hcz48_5 hcz48_6 hcz48_7 hcz48_8 hcz48_9
   try clear hcz51_0 hcz51_1
   try clear hcz51_10 hcz51_11 hcz51_12 hcz51_13 hcz51_14 hcz51_15 hcz51_16
   try clear hcz51_2 hcz51_3 hcz51_4 hcz51_5 hcz51_6 hcz51_7 hcz51_8 hcz51_9
   try clear hcz54_0 hcz54_1
   try clear hcz54_10 hcz54_11 hcz54_12 hcz54_13 hcz54_14 hcz54_15 hcz54_16
   try clear hcz54_2 hcz54_3 hcz54_4 hcz54_5 hcz54_6 hcz54_7 hcz54_8 hcz54_9
   try clear hcz55_0 hcz55_1
   try clear hcz55_10 hcz55_11 hcz55_12 hcz55_13 hcz55_14 hcz55_15 hcz55_16
   try clear hcz55_2 hcz55_3 hcz55_4 hcz55_5 hcz55_6 hcz55_7 hcz55_8 hcz55_9
   try clear hcz59_0 hcz59_1
   try clear hcz59_10 hcz59_11 hcz59_12 hcz59_13 hcz59_14 hcz59_15 hcz59_16
   try clear hcz59_2 hcz59_3 hcz59_4 hcz59_5 hcz59_6 hcz59_7 hcz59_8 hcz59_9
   try clear hcz62_0 hcz62_1
   try clear hcz62_10 hcz62_11 hcz62_12 hcz62_13 hcz62_14 hcz62_15 hcz62_16
   try clear hcz62_2 hcz62_3 hcz62_4 hcz62_5 hcz62_6 hcz62_7 hcz62_8 hcz62_9
   try clear hcz63_0 hcz63_1
   try clear hcz63_10 hcz63_11 hcz63_12 hcz63_13 hcz63_14 hcz63_15 hcz63_16
   try clear hcz63_2 hcz63_3 hcz63_4 hcz63_5 hcz63_6 hcz63_7 hcz63_8 hcz63_9
   try clear hfz12_0 hfz12_1
   try clear hfz12_10 hfz12_11 hfz12_12 hfz12_13 hfz12_14 hfz12_15 hfz12_16
   try clear hfz12_2 hfz12_3 hfz12_4 hfz12_5 hfz12_6 hfz12_7 hfz12_8 hfz12_9
   try clear hfz15_0 hfz15_1
   try clear hfz15_10 hfz15_11 hfz15_12 hfz15_13 hfz15_14 hfz15_15 hfz15_16
   try clear hfz15_2 hfz15_3 hfz15_4 hfz15_5 hfz15_6 hfz15_7 hfz15_8 hfz15_9
   try clear hfz16_0 hfz16_1
   try clear hfz16_10 hfz16_11 hfz16_12 hfz16_13 hfz16_14 hfz16_15 hfz16_16
   try clear hfz16_2 hfz16_3 hfz16_4 hfz16_5 hfz16_6 hfz16_7 hfz16_8 hfz16_9
   try clear hfz18_0 hfz18_1
   try clear hfz18_10 hfz18_11 hfz18_12 hfz18_13 hfz18_14 hfz18_15 hfz18_16
   try clear hfz18_2 hfz18_3 hfz18_4 hfz18_5 hfz18_6 hfz18_7 hfz18_8 hfz18_9
   try clear hfz20_0 hfz20_1
   try clear hfz20_10 hfz20_11 hfz20_12 hfz20_13 hfz20_14 hfz20_15 hfz20_16
   try clear hfz20_2 hfz20_3 hfz20_4 hfz20_5 hfz20_6 hfz20_7 hfz20_8 hfz20_9
   try clear hfz22_0 hfz22_1
   try clear hfz22_10 hfz22_11 hfz22_12 hfz22_13 hfz22_14 hfz22_15 hfz22_16
   try clear hfz22_2 hfz22_3 hfz22_4 hfz22_5 hfz22_6 hfz22_7 hfz22_8 hfz22_9
   try clear hfz25_0 hfz25_1
   try clear hfz25_10 hfz25_11 hfz25_12 hfz25_13 hfz25_14 hfz25_15 hfz25_16
   try clear hfz25_2 hfz25_3 hfz25_4 hfz25_5 hfz25_6 hfz25_7 hfz25_8 hfz25_9
   try clear hfz26_0 hfz26_1
   try clear hfz26_10 hfz26_11 hfz26_12 hfz26_13 hfz26_14 hfz26_15 hfz26_16
   try clear hfz26_2 hfz26_3 hfz26_4 hfz26_5 hfz26_6 hfz26_7 hfz26_8 hfz26_9
   try clear hfz28_0 hfz28_1
   try clear hfz28_10 hfz28_11 hfz28_12 hfz28_13 hfz28_14 hfz28_15 hfz28_16
   try clear hfz28_2 hfz28_3 hfz28_4 hfz28_5 hfz28_6 hfz28_7 hfz28_8 hfz28_9
   try clear hfz30_0 hfz30_1
   try clear hfz30_10 hfz30_11 hfz30_12 hfz30_13 hfz30_14 hfz30_15 hfz30_16
   try clear hfz30_2 hfz30_3 hfz30_4 hfz30_5 hfz30_6 hfz30_7 hfz30_8 hfz30_9
   try clear hfz32_0 hfz32_1
   try clear hfz32_10 hfz32_11 hfz32_12 hfz32_13 hfz32_14 hfz32_15 hfz32_16
   try clear hfz32_2 hfz32_3 hfz32_4 hfz32_5 hfz32_6 hfz32_7 hfz32_8 hfz32_9
   try clear hfz35_0 hfz35_1
   try clear hfz35_10 hfz35_11 hfz35_12 hfz35_13 hfz35_14 hfz35_15 hfz35_16
   try clear hfz35_2 hfz35_3 hfz35_4 hfz35_5 hfz35_6 hfz35_7 hfz35_8 hfz35_9
   try clear hfz36_0 hfz36_1
   try clear hfz36_10 hfz36_11 hfz36_12 hfz36_13 hfz36_14 hfz36_15 hfz36_16
   try clear hfz36_2 hfz36_3 hfz36_4 hfz36_5 hfz36_6 hfz36_7 hfz36_8 hfz36_9
   try clear hfz38_0 hfz38_1
   try clear hfz38_10 hfz38_11 hfz38_12 hfz38_13 hfz38_14 hfz38_15 hfz38_16
   try clear hfz38_2 hfz38_3 hfz38_4 hfz38_5 hfz38_6 hfz38_7 hfz38_8 hfz38_9
   try clear hfz40_0 hfz40_1
   try clear hfz40_10 hfz40_11 hfz40_12 hfz40_13 hfz40_14 hfz40_15 hfz40_16
   try clear hfz40_2 hfz40_3 hfz40_4 hfz40_5 hfz40_6 hfz40_7 hfz40_8 hfz40_9
   try clear hfz42_0 hfz42_1
   try clear hfz42_10 hfz42_11 hfz42_12 hfz42_13 hfz42_14 hfz42_15 hfz42_16
   try clear hfz42_2 hfz42_3 hfz42_4 hfz42_5 hfz42_6 hfz42_7 hfz42_8 hfz42_9
   try clear hfz45_0 hfz45_1
   try clear hfz45_10 hfz45_11 hfz45_12 hfz45_13 hfz45_14 hfz45_15 hfz45_16
   try clear hfz45_2 hfz45_3 hfz45_4 hfz45_5 hfz45_6 hfz45_7 hfz45_8 hfz45_9
   try clear hfz46_0 hfz46_1
   try clear hfz46_10 hfz46_11 hfz46_12 hfz46_13 hfz46_14 hfz46_15 hfz46_16
   try clear hfz46_2 hfz46_3 hfz46_4 hfz46_5 hfz46_6 hfz46_7 hfz46_8 hfz46_9
   try clear hfz48_0 hfz48_1
   try clear hfz48_10 hfz48_11 hfz48_12 hfz48_13 hfz48_14 hfz48_15 hfz48_16
   try clear hfz48_2 hfz48_3 hfz48_4 hfz48_5 hfz48_6 hfz48_7 hfz48_8 hfz48_9
   try clear hfz51_0 hfz51_1
   try clear hfz51_10 hfz51_11 hfz51_12 hfz51_13 hfz51_14 hfz51_15 hfz51_16
   try clear hfz51_2 hfz51_3 hfz51_4 hfz51_5 hfz51_6 hfz51_7 hfz51_8 hfz51_9
   try clear hfz54_0 hfz54_1
   try clear hfz54_10 hfz54_11 hfz54_12 hfz54_13 hfz54_14 hfz54_15 hfz54_16
   try clear hfz54_2 hfz54_3 hfz54_4 hfz54_5 hfz54_6 hfz54_7 hfz54_8 hfz54_9
   try clear hfz55_0 hfz55_1
   try clear hfz55_10 hfz55_11 hfz55_12 hfz55_13 hfz55_14 hfz55_15 hfz55_16
   try clear hfz55_2 hfz55_3 hfz55_4 hfz55_5 hfz55_6 hfz55_7 hfz55_8 hfz55_9
   try clear hfz59_0 hfz59_1
   try clear hfz59_10 hfz59_11 hfz59_12 hfz59_13 hfz59_14 hfz59_15 hfz59_16
   try clear hfz59_2 hfz59_3 hfz59_4 hfz59_5 hfz59_6 hfz59_7 hfz59_8 hfz59_9
   try clear hfz62_0 hfz62_1
   try clear hfz62_10 hfz62_11 hfz62_12 hfz62_13 hfz62_14 hfz62_15 hfz62_16
   try clear hfz62_2 hfz62_3 hfz62_4 hfz62_5 hfz62_6 hfz62_7 hfz62_8 hfz62_9
   try clear hfz63_0 hfz63_1
   try clear hfz63_10 hfz63_11 hfz63_12 hfz63_13 hfz63_14 hfz63_15 hfz63_16
   try clear hfz63_2 hfz63_3 hfz63_4 hfz63_5 hfz63_6 hfz63_7 hfz63_8 hfz63_9
   obtain ⟨kq, x34_56, rfl, HA, HJ56, BK365, BK366, HB⟩ := hcut
   cases kq with
   | zero => exact absurd HA.out (by simp [impl_ModuleOk.j0])
   | succ kj56 =>
    have H := HA.out
    clear HA
    simp only [impl_ModuleOk.j0] at H
    by_cases c65 : x34_56 = true
    ·subst c65
     have H1 : ((impl_arePairOf.f kj56 a0_1 a0_2 a0_3 a0_4 a0_5 a0_6 a0_7 a0_8 a0_9 a0_10 a0_11 a0_12).bind fun t371 => (if t371 = true then (some (a0_0 == a0_0 && (a0_13 == 0 && (a0_14 == 0 && (a0_15 == 0 && (a0_16 == 0)))))) else (some false))) = some r := by rw [if_pos rfl] at H; exact H
     clear H
     have H := H1
     clear H1
     replace H := Option.bind_eq_some_iff.mp H
     obtain ⟨t371, A660, H⟩ := H
     replace H : (if t371 = true then (some (a0_0 == a0_0 && (a0_13 == 0 && (a0_14 == 0 && (a0_15 == 0 && (a0_16 == 0)))))) else (some false)) = some r := H
     have A66 := Gv.a0 A660
     clear A660
     by_cases c67 : t371 = true
     ·subst c67
      have H1 : (some (a0_0 == a0_0 && (a0_13 == 0 && (a0_14 == 0 && (a0_15 == 0 && (a0_16 == 0)))))) = some r := by rw [if_pos rfl] at H; exact H
      clear H
      have H := H1
      clear H1
      obtain rfl := Option.some.inj H
      have hnb68 := NB366_365.out
      have hnc68 := NB365_366.out
      obtain ⟨hcz69_0, hcz69_1, hcz69_2, hcz69_3, hcz69_4, hcz69_5, hcz69_6, hcz69_7, hcz69_8, hcz69_9, hcz69_10, hcz69_11, hcz69_12, hcz69_13, hcz69_14, hcz69_15, hcz69_16⟩ := Gv.c17 BK366.out
      obtain ⟨hfz69_0, hfz69_1, hfz69_2, hfz69_3, hfz69_4, hfz69_5, hfz69_6, hfz69_7, hfz69_8, hfz69_9, hfz69_10, hfz69_11, hfz69_12, hfz69_13, hfz69_14, hfz69_15, hfz69_16⟩ := Gv.f17 BK366.out
      obtain ⟨hcz70_0, hcz70_1, hcz70_2, hcz70_3, hcz70_4, hcz70_5, hcz70_6, hcz70_7, hcz70_8, hcz70_9, hcz70_10, hcz70_11, hcz70_12, hcz70_13, hcz70_14, hcz70_15, hcz70_16⟩ := Gv.c17 BK365.out
      obtain ⟨hfz70_0, hfz70_1, hfz70_2, hfz70_3, hfz70_4, hfz70_5, hfz70_6, hfz70_7, hfz70_8, hfz70_9, hfz70_10, hfz70_11, hfz70_12, hfz70_13, hfz70_14, hfz70_15, hfz70_16⟩ := Gv.f17 BK365.out
      go_wp2_with (first | ((with_reducible refine gate_callee (f := 36) rfl ?_); refine goesL_ (some 45) rfl rfl Try.func36 (by kernel_rfl) rfl #[.agg #[.int .i64 a0_1, .int .i64 a0_2, .int .i64 a0_3, .int .i64 a0_4, .int .i64 a0_5, .int .i64 a0_6], .agg #[.int .i64 a0_7, .int .i64 a0_8, .int .i64 a0_9, .int .i64 a0_10, .int .i64 a0_11, .int .i64 a0_12]] rfl Gv.lm ?_; (with_reducible refine (impl_arePairOf.calls kj56 a0_1 a0_2 a0_3 a0_4 a0_5 a0_6 a0_7 a0_8 a0_9 a0_10 a0_11 a0_12 true _ A66.out).mono ?_); rintro e w71 ⟨rfl, hb⟩; refine ⟨_, rfl, ?_⟩; have n0_ := Gv.a0 (blk_below (g := gb365) (o := .cells #[.int .i64 a0_0, .int .i64 a0_1, .int .i64 a0_2, .int .i64 a0_3, .int .i64 a0_4, .int .i64 a0_5, .int .i64 a0_6, .int .i64 a0_7, .int .i64 a0_8, .int .i64 a0_9, .int .i64 a0_10, .int .i64 a0_11, .int .i64 a0_12, .int .i64 a0_13, .int .i64 a0_14, .int .i64 a0_15, .int .i64 a0_16] 38 (0, 0)) Gv.bkf hb); have n1_ := Gv.a0 (blk_below (g := gb366) (o := .cells #[.int .i64 a0_0, .int .i64 0, .int .i64 0, .int .i64 0, .int .i64 0, .int .i64 0, .int .i64 0, .int .i64 0, .int .i64 0, .int .i64 0, .int .i64 0, .int .i64 0, .int .i64 0, .int .i64 a0_13, .int .i64 a0_14, .int .i64 a0_15, .int .i64 a0_16] 38 (0, 0)) (by (with_reducible repeat (first | refine blk_drewN ?_ _ | refine blk_drew ?_ | refine blk_alloc ?_ _)); (try refine blk_put (cs := #[.int .i64 a0_0, .int .i64 0, .int .i64 0, .int .i64 0, .int .i64 0, .int .i64 0, .int .i64 0, .int .i64 0, .int .i64 0, .int .i64 0, .int .i64 0, .int .i64 0, .int .i64 a0_12, .int .i64 a0_13, .int .i64 a0_14, .int .i64 a0_15, .int .i64 a0_16]) ?_ 12 _ rfl); (with_reducible repeat (first | refine blk_drewN ?_ _ | refine blk_drew ?_ | refine blk_alloc ?_ _)); (try refine blk_put (cs := #[.int .i64 a0_0, .int .i64 0, .int .i64 0, .int .i64 0, .int .i64 0, .int .i64 0, .int .i64 0, .int .i64 0, .int .i64 0, .int .i64 0, .int .i64 0, .int .i64 a0_11, .int .i64 a0_12, .int .i64 a0_13, .int .i64 a0_14, .int .i64 a0_15, .int .i64 a0_16]) ?_ 11 _ rfl); (with_reducible repeat (first | refine blk_drewN ?_ _ | refine blk_drew ?_ | refine blk_alloc ?_ _)); (try refine blk_put (cs := #[.int .i64 a0_0, .int .i64 0, .int .i64 0, .int .i64 0, .int .i64 0, .int .i64 0, .int .i64 0, .int .i64 0, .int .i64 0, .int .i64 0, .int .i64 a0_10, .int .i64 a0_11, .int .i64 a0_12, .int .i64 a0_13, .int .i64 a0_14, .int .i64 a0_15, .int .i64 a0_16]) ?_ 10 _ rfl); (with_reducible repeat (first | refine blk_drewN ?_ _ | refine blk_drew ?_ | refine blk_alloc ?_ _)); (try refine blk_put (cs := #[.int .i64 a0_0, .int .i64 0, .int .i64 0, .int .i64 0, .int .i64 0, .int .i64 0, .int .i64 0, .int .i64 0, .int .i64 0, .int .i64 a0_9, .int .i64 a0_10, .int .i64 a0_11, .int .i64 a0_12, .int .i64 a0_13, .int .i64 a0_14, .int .i64 a0_15, .int .i64 a0_16]) ?_ 9 _ rfl); (with_reducible repeat (first | refine blk_drewN ?_ _ | refine blk_drew ?_ | refine blk_alloc ?_ _)); (try refine blk_put (cs := #[.int .i64 a0_0, .int .i64 0, .int .i64 0, .int .i64 0, .int .i64 0, .int .i64 0, .int .i64 0, .int .i64 0, .int .i64 a0_8, .int .i64 a0_9, .int .i64 a0_10, .int .i64 a0_11, .int .i64 a0_12, .int .i64 a0_13, .int .i64 a0_14, .int .i64 a0_15, .int .i64 a0_16]) ?_ 8 _ rfl); (with_reducible repeat (first | refine blk_drewN ?_ _ | refine blk_drew ?_ | refine blk_alloc ?_ _)); (try refine blk_put (cs := #[.int .i64 a0_0, .int .i64 0, .int .i64 0, .int .i64 0, .int .i64 0, .int .i64 0, .int .i64 0, .int .i64 a0_7, .int .i64 a0_8, .int .i64 a0_9, .int .i64 a0_10, .int .i64 a0_11, .int .i64 a0_12, .int .i64 a0_13, .int .i64 a0_14, .int .i64 a0_15, .int .i64 a0_16]) ?_ 7 _ rfl); (with_reducible repeat (first | refine blk_drewN ?_ _ | refine blk_drew ?_ | refine blk_alloc ?_ _)); (try refine blk_put (cs := #[.int .i64 a0_0, .int .i64 0, .int .i64 0, .int .i64 0, .int .i64 0, .int .i64 0, .int .i64 a0_6, .int .i64 a0_7, .int .i64 a0_8, .int .i64 a0_9, .int .i64 a0_10, .int .i64 a0_11, .int .i64 a0_12, .int .i64 a0_13, .int .i64 a0_14, .int .i64 a0_15, .int .i64 a0_16]) ?_ 6 _ rfl); (with_reducible repeat (first | refine blk_drewN ?_ _ | refine blk_drew ?_ | refine blk_alloc ?_ _)); (try refine blk_put (cs := #[.int .i64 a0_0, .int .i64 0, .int .i64 0, .int .i64 0, .int .i64 0, .int .i64 a0_5, .int .i64 a0_6, .int .i64 a0_7, .int .i64 a0_8, .int .i64 a0_9, .int .i64 a0_10, .int .i64 a0_11, .int .i64 a0_12, .int .i64 a0_13, .int .i64 a0_14, .int .i64 a0_15, .int .i64 a0_16]) ?_ 5 _ rfl); (with_reducible repeat (first | refine blk_drewN ?_ _ | refine blk_drew ?_ | refine blk_alloc ?_ _)); (try refine blk_put (cs := #[.int .i64 a0_0, .int .i64 0, .int .i64 0, .int .i64 0, .int .i64 a0_4, .int .i64 a0_5, .int .i64 a0_6, .int .i64 a0_7, .int .i64 a0_8, .int .i64 a0_9, .int .i64 a0_10, .int .i64 a0_11, .int .i64 a0_12, .int .i64 a0_13, .int .i64 a0_14, .int .i64 a0_15, .int .i64 a0_16]) ?_ 4 _ rfl); (with_reducible repeat (first | refine blk_drewN ?_ _ | refine blk_drew ?_ | refine blk_alloc ?_ _)); (try refine blk_put (cs := #[.int .i64 a0_0, .int .i64 0, .int .i64 0, .int .i64 a0_3, .int .i64 a0_4, .int .i64 a0_5, .int .i64 a0_6, .int .i64 a0_7, .int .i64 a0_8, .int .i64 a0_9, .int .i64 a0_10, .int .i64 a0_11, .int .i64 a0_12, .int .i64 a0_13, .int .i64 a0_14, .int .i64 a0_15, .int .i64 a0_16]) ?_ 3 _ rfl); (with_reducible repeat (first | refine blk_drewN ?_ _ | refine blk_drew ?_ | refine blk_alloc ?_ _)); (try refine blk_put (cs := #[.int .i64 a0_0, .int .i64 0, .int .i64 a0_2, .int .i64 a0_3, .int .i64 a0_4, .int .i64 a0_5, .int .i64 a0_6, .int .i64 a0_7, .int .i64 a0_8, .int .i64 a0_9, .int .i64 a0_10, .int .i64 a0_11, .int .i64 a0_12, .int .i64 a0_13, .int .i64 a0_14, .int .i64 a0_15, .int .i64 a0_16]) ?_ 2 _ rfl); (with_reducible repeat (first | refine blk_drewN ?_ _ | refine blk_drew ?_ | refine blk_alloc ?_ _)); (try refine blk_put (cs := #[.int .i64 a0_0, .int .i64 a0_1, .int .i64 a0_2, .int .i64 a0_3, .int .i64 a0_4, .int .i64 a0_5, .int .i64 a0_6, .int .i64 a0_7, .int .i64 a0_8, .int .i64 a0_9, .int .i64 a0_10, .int .i64 a0_11, .int .i64 a0_12, .int .i64 a0_13, .int .i64 a0_14, .int .i64 a0_15, .int .i64 a0_16]) ?_ 1 _ rfl); (with_reducible repeat (first | refine blk_drewN ?_ _ | refine blk_drew ?_ | refine blk_alloc ?_ _)); exact BK366.out) hb); have n2_ := Gv.a0 (below_step Gv.bw hb); clear BK365; clear BK366; clear HB; have BK365 := n0_; have BK366 := n1_; have HB := n2_; clear n0_ n1_ n2_; (try clear hb); (try clear hb2); (try clear hk); (try clear hi); obtain ⟨hcz72_0, hcz72_1, hcz72_2, hcz72_3, hcz72_4, hcz72_5, hcz72_6, hcz72_7, hcz72_8, hcz72_9, hcz72_10, hcz72_11, hcz72_12, hcz72_13, hcz72_14, hcz72_15, hcz72_16⟩ := Gv.c17 BK366.out; obtain ⟨hfz72_0, hfz72_1, hfz72_2, hfz72_3, hfz72_4, hfz72_5, hfz72_6, hfz72_7, hfz72_8, hfz72_9, hfz72_10, hfz72_11, hfz72_12, hfz72_13, hfz72_14, hfz72_15, hfz72_16⟩ := Gv.f17 BK366.out; obtain ⟨hcz73_0, hcz73_1, hcz73_2, hcz73_3, hcz73_4, hcz73_5, hcz73_6, hcz73_7, hcz73_8, hcz73_9, hcz73_10, hcz73_11, hcz73_12, hcz73_13, hcz73_14, hcz73_15, hcz73_16⟩ := Gv.c17 BK365.out; obtain ⟨hfz73_0, hfz73_1, hfz73_2, hfz73_3, hfz73_4, hfz73_5, hfz73_6, hfz73_7, hfz73_8, hfz73_9, hfz73_10, hfz73_11, hfz73_12, hfz73_13, hfz73_14, hfz73_15, hfz73_16⟩ := Gv.f17 BK365.out) | ((with_reducible refine Gv.gate_load (t := 38) rfl ?_); (try (refine gate_guard (by rfl) ?_; dsimp only)); refine wpList_load_row rfl 38 _ rfl gb365 rfl 38 _ _ _ (by first | exact Gv.kb0 BK365.out | exact Gv.kb1 (Gv.kb0 BK365.out)) Try.underlying38 rfl (by kernel_rfl) ?_) | ((with_reducible refine Gv.gate_load (t := 38) rfl ?_); (try (refine gate_guard (by rfl) ?_; dsimp only)); refine wpList_load_row rfl 38 _ rfl gb366 rfl 38 _ _ _ (by first | exact Gv.kb0 BK366.out | exact Gv.kb1 (Gv.kb0 BK366.out)) Try.underlying38 rfl (by kernel_rfl) ?_) | ((with_reducible refine gate_store (t := 3) rfl ?_); refine Gv.put_event (g := gb365) rfl rfl rfl rfl rfl (Gv.kb0 BK365.out) (by kernel_rfl) (by simp) ?_; intro wp_ hbox hoth hbel; simp only [List.setIfInBounds_toArray, List.set_cons_succ, List.set_cons_zero] at hbox; have n0_ := Gv.a0 hbox; have n1_ := Gv.a0 (hbel w Gv.bw GE365.out); have n2_ := Gv.a0 ((hoth gb366 NB366_365.out).trans (Gv.kb0 BK366.out)); clear BK365 HB BK366; have BK365 := n0_; have HB := n1_; have BK366 := n2_; clear n0_ n1_ n2_ hbox hoth hbel; obtain ⟨pc365_0, pc365_1, pc365_2, pc365_3, pc365_4, pc365_5, pc365_6, pc365_7, pc365_8, pc365_9, pc365_10, pc365_11, pc365_12, pc365_13, pc365_14, pc365_15, pc365_16⟩ := Gv.c17 BK365.out; obtain ⟨pf365_0, pf365_1, pf365_2, pf365_3, pf365_4, pf365_5, pf365_6, pf365_7, pf365_8, pf365_9, pf365_10, pf365_11, pf365_12, pf365_13, pf365_14, pf365_15, pf365_16⟩ := Gv.f17 BK365.out; obtain ⟨pc366_0, pc366_1, pc366_2, pc366_3, pc366_4, pc366_5, pc366_6, pc366_7, pc366_8, pc366_9, pc366_10, pc366_11, pc366_12, pc366_13, pc366_14, pc366_15, pc366_16⟩ := Gv.c17 BK366.out; obtain ⟨pf366_0, pf366_1, pf366_2, pf366_3, pf366_4, pf366_5, pf366_6, pf366_7, pf366_8, pf366_9, pf366_10, pf366_11, pf366_12, pf366_13, pf366_14, pf366_15, pf366_16⟩ := Gv.f17 BK366.out) | ((with_reducible refine gate_store (t := 3) rfl ?_); refine Gv.put_event (g := gb366) rfl rfl rfl rfl rfl (Gv.kb0 BK366.out) (by kernel_rfl) (by simp) ?_; intro wp_ hbox hoth hbel; simp only [List.setIfInBounds_toArray, List.set_cons_succ, List.set_cons_zero] at hbox; have n0_ := Gv.a0 hbox; have n1_ := Gv.a0 (hbel w Gv.bw GE366.out); have n2_ := Gv.a0 ((hoth gb365 NB365_366.out).trans (Gv.kb0 BK365.out)); clear BK366 HB BK365; have BK366 := n0_; have HB := n1_; have BK365 := n2_; clear n0_ n1_ n2_ hbox hoth hbel; obtain ⟨pc366_0, pc366_1, pc366_2, pc366_3, pc366_4, pc366_5, pc366_6, pc366_7, pc366_8, pc366_9, pc366_10, pc366_11, pc366_12, pc366_13, pc366_14, pc366_15, pc366_16⟩ := Gv.c17 BK366.out; obtain ⟨pf366_0, pf366_1, pf366_2, pf366_3, pf366_4, pf366_5, pf366_6, pf366_7, pf366_8, pf366_9, pf366_10, pf366_11, pf366_12, pf366_13, pf366_14, pf366_15, pf366_16⟩ := Gv.f17 BK366.out; obtain ⟨pc365_0, pc365_1, pc365_2, pc365_3, pc365_4, pc365_5, pc365_6, pc365_7, pc365_8, pc365_9, pc365_10, pc365_11, pc365_12, pc365_13, pc365_14, pc365_15, pc365_16⟩ := Gv.c17 BK365.out; obtain ⟨pf365_0, pf365_1, pf365_2, pf365_3, pf365_4, pf365_5, pf365_6, pf365_7, pf365_8, pf365_9, pf365_10, pf365_11, pf365_12, pf365_13, pf365_14, pf365_15, pf365_16⟩ := Gv.f17 BK365.out))
      go_ret
      exact ⟨Gv.rt, Gv.bw⟩
     ·replace c67 := Bool.eq_false_iff.mpr c67
      subst c67
      have H1 : (some false) = some r := by rw [if_neg (show ¬ (false = true) by decide)] at H; exact H
      clear H
      have H := H1
      clear H1
      obtain rfl := Option.some.inj H
      have hnb74 := NB366_365.out
      have hnc74 := NB365_366.out
      obtain ⟨hcz75_0, hcz75_1, hcz75_2, hcz75_3, hcz75_4, hcz75_5, hcz75_6, hcz75_7, hcz75_8, hcz75_9, hcz75_10, hcz75_11, hcz75_12, hcz75_13, hcz75_14, hcz75_15, hcz75_16⟩ := Gv.c17 BK366.out
      obtain ⟨hfz75_0, hfz75_1, hfz75_2, hfz75_3, hfz75_4, hfz75_5, hfz75_6, hfz75_7, hfz75_8, hfz75_9, hfz75_10, hfz75_11, hfz75_12, hfz75_13, hfz75_14, hfz75_15, hfz75_16⟩ := Gv.f17 BK366.out
      obtain ⟨hcz76_0, hcz76_1, hcz76_2, hcz76_3, hcz76_4, hcz76_5, hcz76_6, hcz76_7, hcz76_8, hcz76_9, hcz76_10, hcz76_11, hcz76_12, hcz76_13, hcz76_14, hcz76_15, hcz76_16⟩ := Gv.c17 BK365.out
      obtain ⟨hfz76_0, hfz76_1, hfz76_2, hfz76_3, hfz76_4, hfz76_5, hfz76_6, hfz76_7, hfz76_8, hfz76_9, hfz76_10, hfz76_11, hfz76_12, hfz76_13, hfz76_14, hfz76_15, hfz76_16⟩ := Gv.f17 BK365.out
      go_wp2_with (first | ((with_reducible refine gate_callee (f := 36) rfl ?_); refine goesL_ (some 45) rfl rfl Try.func36 (by kernel_rfl) rfl #[.agg #[.int .i64 a0_1, .int .i64 a0_2, .int .i64 a0_3, .int .i64 a0_4, .int .i64 a0_5, .int .i64 a0_6], .agg #[.int .i64 a0_7, .int .i64 a0_8, .int .i64 a0_9, .int .i64 a0_10, .int .i64 a0_11, .int .i64 a0_12]] rfl Gv.lm ?_; (with_reducible refine (impl_arePairOf.calls kj56 a0_1 a0_2 a0_3 a0_4 a0_5 a0_6 a0_7 a0_8 a0_9 a0_10 a0_11 a0_12 false _ A66.out).mono ?_); rintro e w77 ⟨rfl, hb⟩; refine ⟨_, rfl, ?_⟩; have n0_ := Gv.a0 (blk_below (g := gb365) (o := .cells #[.int .i64 a0_0, .int .i64 a0_1, .int .i64 a0_2, .int .i64 a0_3, .int .i64 a0_4, .int .i64 a0_5, .int .i64 a0_6, .int .i64 a0_7, .int .i64 a0_8, .int .i64 a0_9, .int .i64 a0_10, .int .i64 a0_11, .int .i64 a0_12, .int .i64 a0_13, .int .i64 a0_14, .int .i64 a0_15, .int .i64 a0_16] 38 (0, 0)) Gv.bkf hb); have n1_ := Gv.a0 (blk_below (g := gb366) (o := .cells #[.int .i64 a0_0, .int .i64 0, .int .i64 0, .int .i64 0, .int .i64 0, .int .i64 0, .int .i64 0, .int .i64 0, .int .i64 0, .int .i64 0, .int .i64 0, .int .i64 0, .int .i64 0, .int .i64 a0_13, .int .i64 a0_14, .int .i64 a0_15, .int .i64 a0_16] 38 (0, 0)) (by (with_reducible repeat (first | refine blk_drewN ?_ _ | refine blk_drew ?_ | refine blk_alloc ?_ _)); (try refine blk_put (cs := #[.int .i64 a0_0, .int .i64 0, .int .i64 0, .int .i64 0, .int .i64 0, .int .i64 0, .int .i64 0, .int .i64 0, .int .i64 0, .int .i64 0, .int .i64 0, .int .i64 0, .int .i64 a0_12, .int .i64 a0_13, .int .i64 a0_14, .int .i64 a0_15, .int .i64 a0_16]) ?_ 12 _ rfl); (with_reducible repeat (first | refine blk_drewN ?_ _ | refine blk_drew ?_ | refine blk_alloc ?_ _)); (try refine blk_put (cs := #[.int .i64 a0_0, .int .i64 0, .int .i64 0, .int .i64 0, .int .i64 0, .int .i64 0, .int .i64 0, .int .i64 0, .int .i64 0, .int .i64 0, .int .i64 0, .int .i64 a0_11, .int .i64 a0_12, .int .i64 a0_13, .int .i64 a0_14, .int .i64 a0_15, .int .i64 a0_16]) ?_ 11 _ rfl); (with_reducible repeat (first | refine blk_drewN ?_ _ | refine blk_drew ?_ | refine blk_alloc ?_ _)); (try refine blk_put (cs := #[.int .i64 a0_0, .int .i64 0, .int .i64 0, .int .i64 0, .int .i64 0, .int .i64 0, .int .i64 0, .int .i64 0, .int .i64 0, .int .i64 0, .int .i64 a0_10, .int .i64 a0_11, .int .i64 a0_12, .int .i64 a0_13, .int .i64 a0_14, .int .i64 a0_15, .int .i64 a0_16]) ?_ 10 _ rfl); (with_reducible repeat (first | refine blk_drewN ?_ _ | refine blk_drew ?_ | refine blk_alloc ?_ _)); (try refine blk_put (cs := #[.int .i64 a0_0, .int .i64 0, .int .i64 0, .int .i64 0, .int .i64 0, .int .i64 0, .int .i64 0, .int .i64 0, .int .i64 0, .int .i64 a0_9, .int .i64 a0_10, .int .i64 a0_11, .int .i64 a0_12, .int .i64 a0_13, .int .i64 a0_14, .int .i64 a0_15, .int .i64 a0_16]) ?_ 9 _ rfl); (with_reducible repeat (first | refine blk_drewN ?_ _ | refine blk_drew ?_ | refine blk_alloc ?_ _)); (try refine blk_put (cs := #[.int .i64 a0_0, .int .i64 0, .int .i64 0, .int .i64 0, .int .i64 0, .int .i64 0, .int .i64 0, .int .i64 0, .int .i64 a0_8, .int .i64 a0_9, .int .i64 a0_10, .int .i64 a0_11, .int .i64 a0_12, .int .i64 a0_13, .int .i64 a0_14, .int .i64 a0_15, .int .i64 a0_16]) ?_ 8 _ rfl); (with_reducible repeat (first | refine blk_drewN ?_ _ | refine blk_drew ?_ | refine blk_alloc ?_ _)); (try refine blk_put (cs := #[.int .i64 a0_0, .int .i64 0, .int .i64 0, .int .i64 0, .int .i64 0, .int .i64 0, .int .i64 0, .int .i64 a0_7, .int .i64 a0_8, .int .i64 a0_9, .int .i64 a0_10, .int .i64 a0_11, .int .i64 a0_12, .int .i64 a0_13, .int .i64 a0_14, .int .i64 a0_15, .int .i64 a0_16]) ?_ 7 _ rfl); (with_reducible repeat (first | refine blk_drewN ?_ _ | refine blk_drew ?_ | refine blk_alloc ?_ _)); (try refine blk_put (cs := #[.int .i64 a0_0, .int .i64 0, .int .i64 0, .int .i64 0, .int .i64 0, .int .i64 0, .int .i64 a0_6, .int .i64 a0_7, .int .i64 a0_8, .int .i64 a0_9, .int .i64 a0_10, .int .i64 a0_11, .int .i64 a0_12, .int .i64 a0_13, .int .i64 a0_14, .int .i64 a0_15, .int .i64 a0_16]) ?_ 6 _ rfl); (with_reducible repeat (first | refine blk_drewN ?_ _ | refine blk_drew ?_ | refine blk_alloc ?_ _)); (try refine blk_put (cs := #[.int .i64 a0_0, .int .i64 0, .int .i64 0, .int .i64 0, .int .i64 0, .int .i64 a0_5, .int .i64 a0_6, .int .i64 a0_7, .int .i64 a0_8, .int .i64 a0_9, .int .i64 a0_10, .int .i64 a0_11, .int .i64 a0_12, .int .i64 a0_13, .int .i64 a0_14, .int .i64 a0_15, .int .i64 a0_16]) ?_ 5 _ rfl); (with_reducible repeat (first | refine blk_drewN ?_ _ | refine blk_drew ?_ | refine blk_alloc ?_ _)); (try refine blk_put (cs := #[.int .i64 a0_0, .int .i64 0, .int .i64 0, .int .i64 0, .int .i64 a0_4, .int .i64 a0_5, .int .i64 a0_6, .int .i64 a0_7, .int .i64 a0_8, .int .i64 a0_9, .int .i64 a0_10, .int .i64 a0_11, .int .i64 a0_12, .int .i64 a0_13, .int .i64 a0_14, .int .i64 a0_15, .int .i64 a0_16]) ?_ 4 _ rfl); (with_reducible repeat (first | refine blk_drewN ?_ _ | refine blk_drew ?_ | refine blk_alloc ?_ _)); (try refine blk_put (cs := #[.int .i64 a0_0, .int .i64 0, .int .i64 0, .int .i64 a0_3, .int .i64 a0_4, .int .i64 a0_5, .int .i64 a0_6, .int .i64 a0_7, .int .i64 a0_8, .int .i64 a0_9, .int .i64 a0_10, .int .i64 a0_11, .int .i64 a0_12, .int .i64 a0_13, .int .i64 a0_14, .int .i64 a0_15, .int .i64 a0_16]) ?_ 3 _ rfl); (with_reducible repeat (first | refine blk_drewN ?_ _ | refine blk_drew ?_ | refine blk_alloc ?_ _)); (try refine blk_put (cs := #[.int .i64 a0_0, .int .i64 0, .int .i64 a0_2, .int .i64 a0_3, .int .i64 a0_4, .int .i64 a0_5, .int .i64 a0_6, .int .i64 a0_7, .int .i64 a0_8, .int .i64 a0_9, .int .i64 a0_10, .int .i64 a0_11, .int .i64 a0_12, .int .i64 a0_13, .int .i64 a0_14, .int .i64 a0_15, .int .i64 a0_16]) ?_ 2 _ rfl); (with_reducible repeat (first | refine blk_drewN ?_ _ | refine blk_drew ?_ | refine blk_alloc ?_ _)); (try refine blk_put (cs := #[.int .i64 a0_0, .int .i64 a0_1, .int .i64 a0_2, .int .i64 a0_3, .int .i64 a0_4, .int .i64 a0_5, .int .i64 a0_6, .int .i64 a0_7, .int .i64 a0_8, .int .i64 a0_9, .int .i64 a0_10, .int .i64 a0_11, .int .i64 a0_12, .int .i64 a0_13, .int .i64 a0_14, .int .i64 a0_15, .int .i64 a0_16]) ?_ 1 _ rfl); (with_reducible repeat (first | refine blk_drewN ?_ _ | refine blk_drew ?_ | refine blk_alloc ?_ _)); exact BK366.out) hb); have n2_ := Gv.a0 (below_step Gv.bw hb); clear BK365; clear BK366; clear HB; have BK365 := n0_; have BK366 := n1_; have HB := n2_; clear n0_ n1_ n2_; (try clear hb); (try clear hb2); (try clear hk); (try clear hi)) | ((with_reducible refine Gv.gate_load (t := 38) rfl ?_); (try (refine gate_guard (by rfl) ?_; dsimp only)); refine wpList_load_row rfl 38 _ rfl gb365 rfl 38 _ _ _ (by first | exact Gv.kb0 BK365.out | exact Gv.kb1 (Gv.kb0 BK365.out)) Try.underlying38 rfl (by kernel_rfl) ?_) | ((with_reducible refine Gv.gate_load (t := 38) rfl ?_); (try (refine gate_guard (by rfl) ?_; dsimp only)); refine wpList_load_row rfl 38 _ rfl gb366 rfl 38 _ _ _ (by first | exact Gv.kb0 BK366.out | exact Gv.kb1 (Gv.kb0 BK366.out)) Try.underlying38 rfl (by kernel_rfl) ?_) | ((with_reducible refine gate_store (t := 3) rfl ?_); refine Gv.put_event (g := gb365) rfl rfl rfl rfl rfl (Gv.kb0 BK365.out) (by kernel_rfl) (by simp) ?_; intro wp_ hbox hoth hbel; simp only [List.setIfInBounds_toArray, List.set_cons_succ, List.set_cons_zero] at hbox; have n0_ := Gv.a0 hbox; have n1_ := Gv.a0 (hbel w Gv.bw GE365.out); have n2_ := Gv.a0 ((hoth gb366 NB366_365.out).trans (Gv.kb0 BK366.out)); clear BK365 HB BK366; have BK365 := n0_; have HB := n1_; have BK366 := n2_; clear n0_ n1_ n2_ hbox hoth hbel; obtain ⟨pc365_0, pc365_1, pc365_2, pc365_3, pc365_4, pc365_5, pc365_6, pc365_7, pc365_8, pc365_9, pc365_10, pc365_11, pc365_12, pc365_13, pc365_14, pc365_15, pc365_16⟩ := Gv.c17 BK365.out; obtain ⟨pf365_0, pf365_1, pf365_2, pf365_3, pf365_4, pf365_5, pf365_6, pf365_7, pf365_8, pf365_9, pf365_10, pf365_11, pf365_12, pf365_13, pf365_14, pf365_15, pf365_16⟩ := Gv.f17 BK365.out; obtain ⟨pc366_0, pc366_1, pc366_2, pc366_3, pc366_4, pc366_5, pc366_6, pc366_7, pc366_8, pc366_9, pc366_10, pc366_11, pc366_12, pc366_13, pc366_14, pc366_15, pc366_16⟩ := Gv.c17 BK366.out; obtain ⟨pf366_0, pf366_1, pf366_2, pf366_3, pf366_4, pf366_5, pf366_6, pf366_7, pf366_8, pf366_9, pf366_10, pf366_11, pf366_12, pf366_13, pf366_14, pf366_15, pf366_16⟩ := Gv.f17 BK366.out) | ((with_reducible refine gate_store (t := 3) rfl ?_); refine Gv.put_event (g := gb366) rfl rfl rfl rfl rfl (Gv.kb0 BK366.out) (by kernel_rfl) (by simp) ?_; intro wp_ hbox hoth hbel; simp only [List.setIfInBounds_toArray, List.set_cons_succ, List.set_cons_zero] at hbox; have n0_ := Gv.a0 hbox; have n1_ := Gv.a0 (hbel w Gv.bw GE366.out); have n2_ := Gv.a0 ((hoth gb365 NB365_366.out).trans (Gv.kb0 BK365.out)); clear BK366 HB BK365; have BK366 := n0_; have HB := n1_; have BK365 := n2_; clear n0_ n1_ n2_ hbox hoth hbel; obtain ⟨pc366_0, pc366_1, pc366_2, pc366_3, pc366_4, pc366_5, pc366_6, pc366_7, pc366_8, pc366_9, pc366_10, pc366_11, pc366_12, pc366_13, pc366_14, pc366_15, pc366_16⟩ := Gv.c17 BK366.out; obtain ⟨pf366_0, pf366_1, pf366_2, pf366_3, pf366_4, pf366_5, pf366_6, pf366_7, pf366_8, pf366_9, pf366_10, pf366_11, pf366_12, pf366_13, pf366_14, pf366_15, pf366_16⟩ := Gv.f17 BK366.out; obtain ⟨pc365_0, pc365_1, pc365_2, pc365_3, pc365_4, pc365_5, pc365_6, pc365_7, pc365_8, pc365_9, pc365_10, pc365_11, pc365_12, pc365_13, pc365_14, pc365_15, pc365_16⟩ := Gv.c17 BK365.out; obtain ⟨pf365_0, pf365_1, pf365_2, pf365_3, pf365_4, pf365_5, pf365_6, pf365_7, pf365_8, pf365_9, pf365_10, pf365_11, pf365_12, pf365_13, pf365_14, pf365_15, pf365_16⟩ := Gv.f17 BK365.out))
      go_ret
      exact ⟨Gv.rt, Gv.bw⟩
    ·replace c65 := Bool.eq_false_iff.mpr c65
     subst c65
     have H1 : (if a0_0 = 5 then ((impl_within.f a0_16 0 63).bind fun t372 => (if t372 = true then (some (a0_0 == a0_0 && (((a0_1 == 0 && (a0_2 == 0 && (a0_3 == 0 && (a0_4 == 0 && (a0_5 == 0))))) && (a0_6 == 0)) && (((a0_7 == 0 && (a0_8 == 0 && (a0_9 == 0 && (a0_10 == 0 && (a0_11 == 0))))) && (a0_12 == 0)) && (a0_13 == 0 && (a0_14 == 0 && (a0_15 == 0))))))) else (some false))) else (if a0_0 = 7 then ((impl_within.f a0_16 1 4).bind fun t373 => (if t373 = true then (some (a0_0 == a0_0 && (((a0_1 == 0 && (a0_2 == 0 && (a0_3 == 0 && (a0_4 == 0 && (a0_5 == 0))))) && (a0_6 == 0)) && (((a0_7 == 0 && (a0_8 == 0 && (a0_9 == 0 && (a0_10 == 0 && (a0_11 == 0))))) && (a0_12 == 0)) && (a0_13 == 0 && (a0_14 == 0 && (a0_15 == 0))))))) else (some false))) else (if a0_0 = 4 then (some (a0_0 == a0_0 && (((a0_1 == 0 && (a0_2 == 0 && (a0_3 == 0 && (a0_4 == 0 && (a0_5 == 0))))) && (a0_6 == 0)) && (((a0_7 == 0 && (a0_8 == 0 && (a0_9 == 0 && (a0_10 == 0 && (a0_11 == 0))))) && (a0_12 == 0)) && (a0_13 == 0 && (a0_14 == 0 && (a0_15 == 0 && (a0_16 == 0)))))))) else (if a0_0 = 6 then (some (a0_0 == a0_0 && (((a0_1 == 0 && (a0_2 == 0 && (a0_3 == 0 && (a0_4 == 0 && (a0_5 == 0))))) && (a0_6 == 0)) && (((a0_7 == 0 && (a0_8 == 0 && (a0_9 == 0 && (a0_10 == 0 && (a0_11 == 0))))) && (a0_12 == 0)) && (a0_13 == 0 && (a0_14 == 0 && (a0_15 == 0 && (a0_16 == 0)))))))) else (some false))))) = some r := by rw [if_neg (show ¬ (false = true) by decide)] at H; exact H
     clear H
     have H := H1
     clear H1
     by_cases c78 : a0_0 = 5
     ·rw [if_pos c78] at H
      have c78b0 : (a0_0 == 5) = true := beq_iff_eq.mpr c78
      have c78b1 : (a0_0 != 5) = false := bne_eq_false_iff_eq.mpr c78
      clear c78
      replace H := Option.bind_eq_some_iff.mp H
      obtain ⟨t372, A790, H⟩ := H
      replace H : (if t372 = true then (some (a0_0 == a0_0 && (((a0_1 == 0 && (a0_2 == 0 && (a0_3 == 0 && (a0_4 == 0 && (a0_5 == 0))))) && (a0_6 == 0)) && (((a0_7 == 0 && (a0_8 == 0 && (a0_9 == 0 && (a0_10 == 0 && (a0_11 == 0))))) && (a0_12 == 0)) && (a0_13 == 0 && (a0_14 == 0 && (a0_15 == 0))))))) else (some false)) = some r := H
      have A79 := Gv.a0 A790
      clear A790
      by_cases c80 : t372 = true
      ·subst c80
       have H1 : (some (a0_0 == a0_0 && (((a0_1 == 0 && (a0_2 == 0 && (a0_3 == 0 && (a0_4 == 0 && (a0_5 == 0))))) && (a0_6 == 0)) && (((a0_7 == 0 && (a0_8 == 0 && (a0_9 == 0 && (a0_10 == 0 && (a0_11 == 0))))) && (a0_12 == 0)) && (a0_13 == 0 && (a0_14 == 0 && (a0_15 == 0))))))) = some r := by rw [if_pos rfl] at H; exact H
       clear H
       have H := H1
       clear H1
       obtain rfl := Option.some.inj H
       have hnb81 := NB366_365.out
       have hnc81 := NB365_366.out
       obtain ⟨hcz82_0, hcz82_1, hcz82_2, hcz82_3, hcz82_4, hcz82_5, hcz82_6, hcz82_7, hcz82_8, hcz82_9, hcz82_10, hcz82_11, hcz82_12, hcz82_13, hcz82_14, hcz82_15, hcz82_16⟩ := Gv.c17 BK366.out
       obtain ⟨hfz82_0, hfz82_1, hfz82_2, hfz82_3, hfz82_4, hfz82_5, hfz82_6, hfz82_7, hfz82_8, hfz82_9, hfz82_10, hfz82_11, hfz82_12, hfz82_13, hfz82_14, hfz82_15, hfz82_16⟩ := Gv.f17 BK366.out
       obtain ⟨hcz83_0, hcz83_1, hcz83_2, hcz83_3, hcz83_4, hcz83_5, hcz83_6, hcz83_7, hcz83_8, hcz83_9, hcz83_10, hcz83_11, hcz83_12, hcz83_13, hcz83_14, hcz83_15, hcz83_16⟩ := Gv.c17 BK365.out
       obtain ⟨hfz83_0, hfz83_1, hfz83_2, hfz83_3, hfz83_4, hfz83_5, hfz83_6, hfz83_7, hfz83_8, hfz83_9, hfz83_10, hfz83_11, hfz83_12, hfz83_13, hfz83_14, hfz83_15, hfz83_16⟩ := Gv.f17 BK365.out
       go_wp2_with (first | ((with_reducible refine gate_callee (f := 44) rfl ?_); refine goesL_ (some 58) rfl rfl Try.func44 (by kernel_rfl) rfl #[.int .i64 a0_16, .int .i64 0, .int .i64 63] rfl Gv.lm ?_; (with_reducible refine (impl_within.calls a0_16 0 63 true _ A79.out).mono ?_); rintro e w' ⟨rfl, ⟨nd, rfl⟩⟩; refine ⟨_, rfl, ?_⟩) | ((with_reducible refine Gv.gate_load (t := 38) rfl ?_); (try (refine gate_guard (by rfl) ?_; dsimp only)); refine wpList_load_row rfl 38 _ rfl gb365 rfl 38 _ _ _ (by first | exact Gv.kb0 BK365.out | exact Gv.kb1 (Gv.kb0 BK365.out)) Try.underlying38 rfl (by kernel_rfl) ?_) | ((with_reducible refine Gv.gate_load (t := 38) rfl ?_); (try (refine gate_guard (by rfl) ?_; dsimp only)); refine wpList_load_row rfl 38 _ rfl gb366 rfl 38 _ _ _ (by first | exact Gv.kb0 BK366.out | exact Gv.kb1 (Gv.kb0 BK366.out)) Try.underlying38 rfl (by kernel_rfl) ?_) | ((with_reducible refine gate_store (t := 3) rfl ?_); refine Gv.put_event (g := gb365) rfl rfl rfl rfl rfl (Gv.kb0 BK365.out) (by kernel_rfl) (by simp) ?_; intro wp_ hbox hoth hbel; simp only [List.setIfInBounds_toArray, List.set_cons_succ, List.set_cons_zero] at hbox; have n0_ := Gv.a0 hbox; have n1_ := Gv.a0 (hbel w Gv.bw GE365.out); have n2_ := Gv.a0 ((hoth gb366 NB366_365.out).trans (Gv.kb0 BK366.out)); clear BK365 HB BK366; have BK365 := n0_; have HB := n1_; have BK366 := n2_; clear n0_ n1_ n2_ hbox hoth hbel; obtain ⟨pc365_0, pc365_1, pc365_2, pc365_3, pc365_4, pc365_5, pc365_6, pc365_7, pc365_8, pc365_9, pc365_10, pc365_11, pc365_12, pc365_13, pc365_14, pc365_15, pc365_16⟩ := Gv.c17 BK365.out; obtain ⟨pf365_0, pf365_1, pf365_2, pf365_3, pf365_4, pf365_5, pf365_6, pf365_7, pf365_8, pf365_9, pf365_10, pf365_11, pf365_12, pf365_13, pf365_14, pf365_15, pf365_16⟩ := Gv.f17 BK365.out; obtain ⟨pc366_0, pc366_1, pc366_2, pc366_3, pc366_4, pc366_5, pc366_6, pc366_7, pc366_8, pc366_9, pc366_10, pc366_11, pc366_12, pc366_13, pc366_14, pc366_15, pc366_16⟩ := Gv.c17 BK366.out; obtain ⟨pf366_0, pf366_1, pf366_2, pf366_3, pf366_4, pf366_5, pf366_6, pf366_7, pf366_8, pf366_9, pf366_10, pf366_11, pf366_12, pf366_13, pf366_14, pf366_15, pf366_16⟩ := Gv.f17 BK366.out) | ((with_reducible refine gate_store (t := 3) rfl ?_); refine Gv.put_event (g := gb366) rfl rfl rfl rfl rfl (Gv.kb0 BK366.out) (by kernel_rfl) (by simp) ?_; intro wp_ hbox hoth hbel; simp only [List.setIfInBounds_toArray, List.set_cons_succ, List.set_cons_zero] at hbox; have n0_ := Gv.a0 hbox; have n1_ := Gv.a0 (hbel w Gv.bw GE366.out); have n2_ := Gv.a0 ((hoth gb365 NB365_366.out).trans (Gv.kb0 BK365.out)); clear BK366 HB BK365; have BK366 := n0_; have HB := n1_; have BK365 := n2_; clear n0_ n1_ n2_ hbox hoth hbel; obtain ⟨pc366_0, pc366_1, pc366_2, pc366_3, pc366_4, pc366_5, pc366_6, pc366_7, pc366_8, pc366_9, pc366_10, pc366_11, pc366_12, pc366_13, pc366_14, pc366_15, pc366_16⟩ := Gv.c17 BK366.out; obtain ⟨pf366_0, pf366_1, pf366_2, pf366_3, pf366_4, pf366_5, pf366_6, pf366_7, pf366_8, pf366_9, pf366_10, pf366_11, pf366_12, pf366_13, pf366_14, pf366_15, pf366_16⟩ := Gv.f17 BK366.out; obtain ⟨pc365_0, pc365_1, pc365_2, pc365_3, pc365_4, pc365_5, pc365_6, pc365_7, pc365_8, pc365_9, pc365_10, pc365_11, pc365_12, pc365_13, pc365_14, pc365_15, pc365_16⟩ := Gv.c17 BK365.out; obtain ⟨pf365_0, pf365_1, pf365_2, pf365_3, pf365_4, pf365_5, pf365_6, pf365_7, pf365_8, pf365_9, pf365_10, pf365_11, pf365_12, pf365_13, pf365_14, pf365_15, pf365_16⟩ := Gv.f17 BK365.out))
       go_ret
       exact ⟨Gv.rt, Gv.bw⟩
      ·replace c80 := Bool.eq_false_iff.mpr c80
       subst c80
       have H1 : (some false) = some r := by rw [if_neg (show ¬ (false = true) by decide)] at H; exact H
       clear H
       have H := H1
       clear H1
       obtain rfl := Option.some.inj H
       have hnb84 := NB366_365.out
       have hnc84 := NB365_366.out
       obtain ⟨hcz85_0, hcz85_1, hcz85_2, hcz85_3, hcz85_4, hcz85_5, hcz85_6, hcz85_7, hcz85_8, hcz85_9, hcz85_10, hcz85_11, hcz85_12, hcz85_13, hcz85_14, hcz85_15, hcz85_16⟩ := Gv.c17 BK366.out
       obtain ⟨hfz85_0, hfz85_1, hfz85_2, hfz85_3, hfz85_4, hfz85_5, hfz85_6, hfz85_7, hfz85_8, hfz85_9, hfz85_10, hfz85_11, hfz85_12, hfz85_13, hfz85_14, hfz85_15, hfz85_16⟩ := Gv.f17 BK366.out
       obtain ⟨hcz86_0, hcz86_1, hcz86_2, hcz86_3, hcz86_4, hcz86_5, hcz86_6, hcz86_7, hcz86_8, hcz86_9, hcz86_10, hcz86_11, hcz86_12, hcz86_13, hcz86_14, hcz86_15, hcz86_16⟩ := Gv.c17 BK365.out
       obtain ⟨hfz86_0, hfz86_1, hfz86_2, hfz86_3, hfz86_4, hfz86_5, hfz86_6, hfz86_7, hfz86_8, hfz86_9, hfz86_10, hfz86_11, hfz86_12, hfz86_13, hfz86_14, hfz86_15, hfz86_16⟩ := Gv.f17 BK365.out
       go_wp2_with (first | ((with_reducible refine gate_callee (f := 44) rfl ?_); refine goesL_ (some 58) rfl rfl Try.func44 (by kernel_rfl) rfl #[.int .i64 a0_16, .int .i64 0, .int .i64 63] rfl Gv.lm ?_; (with_reducible refine (impl_within.calls a0_16 0 63 false _ A79.out).mono ?_); rintro e w' ⟨rfl, ⟨nd, rfl⟩⟩; refine ⟨_, rfl, ?_⟩) | ((with_reducible refine Gv.gate_load (t := 38) rfl ?_); (try (refine gate_guard (by rfl) ?_; dsimp only)); refine wpList_load_row rfl 38 _ rfl gb365 rfl 38 _ _ _ (by first | exact Gv.kb0 BK365.out | exact Gv.kb1 (Gv.kb0 BK365.out)) Try.underlying38 rfl (by kernel_rfl) ?_) | ((with_reducible refine Gv.gate_load (t := 38) rfl ?_); (try (refine gate_guard (by rfl) ?_; dsimp only)); refine wpList_load_row rfl 38 _ rfl gb366 rfl 38 _ _ _ (by first | exact Gv.kb0 BK366.out | exact Gv.kb1 (Gv.kb0 BK366.out)) Try.underlying38 rfl (by kernel_rfl) ?_) | ((with_reducible refine gate_store (t := 3) rfl ?_); refine Gv.put_event (g := gb365) rfl rfl rfl rfl rfl (Gv.kb0 BK365.out) (by kernel_rfl) (by simp) ?_; intro wp_ hbox hoth hbel; simp only [List.setIfInBounds_toArray, List.set_cons_succ, List.set_cons_zero] at hbox; have n0_ := Gv.a0 hbox; have n1_ := Gv.a0 (hbel w Gv.bw GE365.out); have n2_ := Gv.a0 ((hoth gb366 NB366_365.out).trans (Gv.kb0 BK366.out)); clear BK365 HB BK366; have BK365 := n0_; have HB := n1_; have BK366 := n2_; clear n0_ n1_ n2_ hbox hoth hbel; obtain ⟨pc365_0, pc365_1, pc365_2, pc365_3, pc365_4, pc365_5, pc365_6, pc365_7, pc365_8, pc365_9, pc365_10, pc365_11, pc365_12, pc365_13, pc365_14, pc365_15, pc365_16⟩ := Gv.c17 BK365.out; obtain ⟨pf365_0, pf365_1, pf365_2, pf365_3, pf365_4, pf365_5, pf365_6, pf365_7, pf365_8, pf365_9, pf365_10, pf365_11, pf365_12, pf365_13, pf365_14, pf365_15, pf365_16⟩ := Gv.f17 BK365.out; obtain ⟨pc366_0, pc366_1, pc366_2, pc366_3, pc366_4, pc366_5, pc366_6, pc366_7, pc366_8, pc366_9, pc366_10, pc366_11, pc366_12, pc366_13, pc366_14, pc366_15, pc366_16⟩ := Gv.c17 BK366.out; obtain ⟨pf366_0, pf366_1, pf366_2, pf366_3, pf366_4, pf366_5, pf366_6, pf366_7, pf366_8, pf366_9, pf366_10, pf366_11, pf366_12, pf366_13, pf366_14, pf366_15, pf366_16⟩ := Gv.f17 BK366.out) | ((with_reducible refine gate_store (t := 3) rfl ?_); refine Gv.put_event (g := gb366) rfl rfl rfl rfl rfl (Gv.kb0 BK366.out) (by kernel_rfl) (by simp) ?_; intro wp_ hbox hoth hbel; simp only [List.setIfInBounds_toArray, List.set_cons_succ, List.set_cons_zero] at hbox; have n0_ := Gv.a0 hbox; have n1_ := Gv.a0 (hbel w Gv.bw GE366.out); have n2_ := Gv.a0 ((hoth gb365 NB365_366.out).trans (Gv.kb0 BK365.out)); clear BK366 HB BK365; have BK366 := n0_; have HB := n1_; have BK365 := n2_; clear n0_ n1_ n2_ hbox hoth hbel; obtain ⟨pc366_0, pc366_1, pc366_2, pc366_3, pc366_4, pc366_5, pc366_6, pc366_7, pc366_8, pc366_9, pc366_10, pc366_11, pc366_12, pc366_13, pc366_14, pc366_15, pc366_16⟩ := Gv.c17 BK366.out; obtain ⟨pf366_0, pf366_1, pf366_2, pf366_3, pf366_4, pf366_5, pf366_6, pf366_7, pf366_8, pf366_9, pf366_10, pf366_11, pf366_12, pf366_13, pf366_14, pf366_15, pf366_16⟩ := Gv.f17 BK366.out; obtain ⟨pc365_0, pc365_1, pc365_2, pc365_3, pc365_4, pc365_5, pc365_6, pc365_7, pc365_8, pc365_9, pc365_10, pc365_11, pc365_12, pc365_13, pc365_14, pc365_15, pc365_16⟩ := Gv.c17 BK365.out; obtain ⟨pf365_0, pf365_1, pf365_2, pf365_3, pf365_4, pf365_5, pf365_6, pf365_7, pf365_8, pf365_9, pf365_10, pf365_11, pf365_12, pf365_13, pf365_14, pf365_15, pf365_16⟩ := Gv.f17 BK365.out))
       go_ret
       exact ⟨Gv.rt, Gv.bw⟩
     ·rw [if_neg c78] at H
      have c78b0 : (a0_0 == 5) = false := beq_eq_false_iff_ne.mpr c78
      have c78b1 : (a0_0 != 5) = true := bne_iff_ne.mpr c78
      by_cases c87 : a0_0 = 7
      ·rw [if_pos c87] at H
       have c87b0 : (a0_0 == 7) = true := beq_iff_eq.mpr c87
       have c87b1 : (a0_0 != 7) = false := bne_eq_false_iff_eq.mpr c87
       clear c87
       replace H := Option.bind_eq_some_iff.mp H
       obtain ⟨t373, A880, H⟩ := H
       replace H : (if t373 = true then (some (a0_0 == a0_0 && (((a0_1 == 0 && (a0_2 == 0 && (a0_3 == 0 && (a0_4 == 0 && (a0_5 == 0))))) && (a0_6 == 0)) && (((a0_7 == 0 && (a0_8 == 0 && (a0_9 == 0 && (a0_10 == 0 && (a0_11 == 0))))) && (a0_12 == 0)) && (a0_13 == 0 && (a0_14 == 0 && (a0_15 == 0))))))) else (some false)) = some r := H
       have A88 := Gv.a0 A880
       clear A880
       by_cases c89 : t373 = true
       ·subst c89
        have H1 : (some (a0_0 == a0_0 && (((a0_1 == 0 && (a0_2 == 0 && (a0_3 == 0 && (a0_4 == 0 && (a0_5 == 0))))) && (a0_6 == 0)) && (((a0_7 == 0 && (a0_8 == 0 && (a0_9 == 0 && (a0_10 == 0 && (a0_11 == 0))))) && (a0_12 == 0)) && (a0_13 == 0 && (a0_14 == 0 && (a0_15 == 0))))))) = some r := by rw [if_pos rfl] at H; exact H
        clear H
        have H := H1
        clear H1
        obtain rfl := Option.some.inj H
        have hnb90 := NB366_365.out
        have hnc90 := NB365_366.out
        obtain ⟨hcz91_0, hcz91_1, hcz91_2, hcz91_3, hcz91_4, hcz91_5, hcz91_6, hcz91_7, hcz91_8, hcz91_9, hcz91_10, hcz91_11, hcz91_12, hcz91_13, hcz91_14, hcz91_15, hcz91_16⟩ := Gv.c17 BK366.out
        obtain ⟨hfz91_0, hfz91_1, hfz91_2, hfz91_3, hfz91_4, hfz91_5, hfz91_6, hfz91_7, hfz91_8, hfz91_9, hfz91_10, hfz91_11, hfz91_12, hfz91_13, hfz91_14, hfz91_15, hfz91_16⟩ := Gv.f17 BK366.out
        obtain ⟨hcz92_0, hcz92_1, hcz92_2, hcz92_3, hcz92_4, hcz92_5, hcz92_6, hcz92_7, hcz92_8, hcz92_9, hcz92_10, hcz92_11, hcz92_12, hcz92_13, hcz92_14, hcz92_15, hcz92_16⟩ := Gv.c17 BK365.out
        obtain ⟨hfz92_0, hfz92_1, hfz92_2, hfz92_3, hfz92_4, hfz92_5, hfz92_6, hfz92_7, hfz92_8, hfz92_9, hfz92_10, hfz92_11, hfz92_12, hfz92_13, hfz92_14, hfz92_15, hfz92_16⟩ := Gv.f17 BK365.out
        go_wp2_with (first | ((with_reducible refine gate_callee (f := 44) rfl ?_); refine goesL_ (some 71) rfl rfl Try.func44 (by kernel_rfl) rfl #[.int .i64 a0_16, .int .i64 1, .int .i64 4] rfl Gv.lm ?_; (with_reducible refine (impl_within.calls a0_16 1 4 true _ A88.out).mono ?_); rintro e w' ⟨rfl, ⟨nd, rfl⟩⟩; refine ⟨_, rfl, ?_⟩) | ((with_reducible refine Gv.gate_load (t := 38) rfl ?_); (try (refine gate_guard (by rfl) ?_; dsimp only)); refine wpList_load_row rfl 38 _ rfl gb365 rfl 38 _ _ _ (by first | exact Gv.kb0 BK365.out | exact Gv.kb1 (Gv.kb0 BK365.out)) Try.underlying38 rfl (by kernel_rfl) ?_) | ((with_reducible refine Gv.gate_load (t := 38) rfl ?_); (try (refine gate_guard (by rfl) ?_; dsimp only)); refine wpList_load_row rfl 38 _ rfl gb366 rfl 38 _ _ _ (by first | exact Gv.kb0 BK366.out | exact Gv.kb1 (Gv.kb0 BK366.out)) Try.underlying38 rfl (by kernel_rfl) ?_) | ((with_reducible refine gate_store (t := 3) rfl ?_); refine Gv.put_event (g := gb365) rfl rfl rfl rfl rfl (Gv.kb0 BK365.out) (by kernel_rfl) (by simp) ?_; intro wp_ hbox hoth hbel; simp only [List.setIfInBounds_toArray, List.set_cons_succ, List.set_cons_zero] at hbox; have n0_ := Gv.a0 hbox; have n1_ := Gv.a0 (hbel w Gv.bw GE365.out); have n2_ := Gv.a0 ((hoth gb366 NB366_365.out).trans (Gv.kb0 BK366.out)); clear BK365 HB BK366; have BK365 := n0_; have HB := n1_; have BK366 := n2_; clear n0_ n1_ n2_ hbox hoth hbel; obtain ⟨pc365_0, pc365_1, pc365_2, pc365_3, pc365_4, pc365_5, pc365_6, pc365_7, pc365_8, pc365_9, pc365_10, pc365_11, pc365_12, pc365_13, pc365_14, pc365_15, pc365_16⟩ := Gv.c17 BK365.out; obtain ⟨pf365_0, pf365_1, pf365_2, pf365_3, pf365_4, pf365_5, pf365_6, pf365_7, pf365_8, pf365_9, pf365_10, pf365_11, pf365_12, pf365_13, pf365_14, pf365_15, pf365_16⟩ := Gv.f17 BK365.out; obtain ⟨pc366_0, pc366_1, pc366_2, pc366_3, pc366_4, pc366_5, pc366_6, pc366_7, pc366_8, pc366_9, pc366_10, pc366_11, pc366_12, pc366_13, pc366_14, pc366_15, pc366_16⟩ := Gv.c17 BK366.out; obtain ⟨pf366_0, pf366_1, pf366_2, pf366_3, pf366_4, pf366_5, pf366_6, pf366_7, pf366_8, pf366_9, pf366_10, pf366_11, pf366_12, pf366_13, pf366_14, pf366_15, pf366_16⟩ := Gv.f17 BK366.out) | ((with_reducible refine gate_store (t := 3) rfl ?_); refine Gv.put_event (g := gb366) rfl rfl rfl rfl rfl (Gv.kb0 BK366.out) (by kernel_rfl) (by simp) ?_; intro wp_ hbox hoth hbel; simp only [List.setIfInBounds_toArray, List.set_cons_succ, List.set_cons_zero] at hbox; have n0_ := Gv.a0 hbox; have n1_ := Gv.a0 (hbel w Gv.bw GE366.out); have n2_ := Gv.a0 ((hoth gb365 NB365_366.out).trans (Gv.kb0 BK365.out)); clear BK366 HB BK365; have BK366 := n0_; have HB := n1_; have BK365 := n2_; clear n0_ n1_ n2_ hbox hoth hbel; obtain ⟨pc366_0, pc366_1, pc366_2, pc366_3, pc366_4, pc366_5, pc366_6, pc366_7, pc366_8, pc366_9, pc366_10, pc366_11, pc366_12, pc366_13, pc366_14, pc366_15, pc366_16⟩ := Gv.c17 BK366.out; obtain ⟨pf366_0, pf366_1, pf366_2, pf366_3, pf366_4, pf366_5, pf366_6, pf366_7, pf366_8, pf366_9, pf366_10, pf366_11, pf366_12, pf366_13, pf366_14, pf366_15, pf366_16⟩ := Gv.f17 BK366.out; obtain ⟨pc365_0, pc365_1, pc365_2, pc365_3, pc365_4, pc365_5, pc365_6, pc365_7, pc365_8, pc365_9, pc365_10, pc365_11, pc365_12, pc365_13, pc365_14, pc365_15, pc365_16⟩ := Gv.c17 BK365.out; obtain ⟨pf365_0, pf365_1, pf365_2, pf365_3, pf365_4, pf365_5, pf365_6, pf365_7, pf365_8, pf365_9, pf365_10, pf365_11, pf365_12, pf365_13, pf365_14, pf365_15, pf365_16⟩ := Gv.f17 BK365.out))
        go_ret
        exact ⟨Gv.rt, Gv.bw⟩
       ·replace c89 := Bool.eq_false_iff.mpr c89
        subst c89
        have H1 : (some false) = some r := by rw [if_neg (show ¬ (false = true) by decide)] at H; exact H
        clear H
        have H := H1
        clear H1
        obtain rfl := Option.some.inj H
        have hnb93 := NB366_365.out
        have hnc93 := NB365_366.out
        obtain ⟨hcz94_0, hcz94_1, hcz94_2, hcz94_3, hcz94_4, hcz94_5, hcz94_6, hcz94_7, hcz94_8, hcz94_9, hcz94_10, hcz94_11, hcz94_12, hcz94_13, hcz94_14, hcz94_15, hcz94_16⟩ := Gv.c17 BK366.out
        obtain ⟨hfz94_0, hfz94_1, hfz94_2, hfz94_3, hfz94_4, hfz94_5, hfz94_6, hfz94_7, hfz94_8, hfz94_9, hfz94_10, hfz94_11, hfz94_12, hfz94_13, hfz94_14, hfz94_15, hfz94_16⟩ := Gv.f17 BK366.out
        obtain ⟨hcz95_0, hcz95_1, hcz95_2, hcz95_3, hcz95_4, hcz95_5, hcz95_6, hcz95_7, hcz95_8, hcz95_9, hcz95_10, hcz95_11, hcz95_12, hcz95_13, hcz95_14, hcz95_15, hcz95_16⟩ := Gv.c17 BK365.out
        obtain ⟨hfz95_0, hfz95_1, hfz95_2, hfz95_3, hfz95_4, hfz95_5, hfz95_6, hfz95_7, hfz95_8, hfz95_9, hfz95_10, hfz95_11, hfz95_12, hfz95_13, hfz95_14, hfz95_15, hfz95_16⟩ := Gv.f17 BK365.out
        go_wp2_with (first | ((with_reducible refine gate_callee (f := 44) rfl ?_); refine goesL_ (some 71) rfl rfl Try.func44 (by kernel_rfl) rfl #[.int .i64 a0_16, .int .i64 1, .int .i64 4] rfl Gv.lm ?_; (with_reducible refine (impl_within.calls a0_16 1 4 false _ A88.out).mono ?_); rintro e w' ⟨rfl, ⟨nd, rfl⟩⟩; refine ⟨_, rfl, ?_⟩) | ((with_reducible refine Gv.gate_load (t := 38) rfl ?_); (try (refine gate_guard (by rfl) ?_; dsimp only)); refine wpList_load_row rfl 38 _ rfl gb365 rfl 38 _ _ _ (by first | exact Gv.kb0 BK365.out | exact Gv.kb1 (Gv.kb0 BK365.out)) Try.underlying38 rfl (by kernel_rfl) ?_) | ((with_reducible refine Gv.gate_load (t := 38) rfl ?_); (try (refine gate_guard (by rfl) ?_; dsimp only)); refine wpList_load_row rfl 38 _ rfl gb366 rfl 38 _ _ _ (by first | exact Gv.kb0 BK366.out | exact Gv.kb1 (Gv.kb0 BK366.out)) Try.underlying38 rfl (by kernel_rfl) ?_) | ((with_reducible refine gate_store (t := 3) rfl ?_); refine Gv.put_event (g := gb365) rfl rfl rfl rfl rfl (Gv.kb0 BK365.out) (by kernel_rfl) (by simp) ?_; intro wp_ hbox hoth hbel; simp only [List.setIfInBounds_toArray, List.set_cons_succ, List.set_cons_zero] at hbox; have n0_ := Gv.a0 hbox; have n1_ := Gv.a0 (hbel w Gv.bw GE365.out); have n2_ := Gv.a0 ((hoth gb366 NB366_365.out).trans (Gv.kb0 BK366.out)); clear BK365 HB BK366; have BK365 := n0_; have HB := n1_; have BK366 := n2_; clear n0_ n1_ n2_ hbox hoth hbel; obtain ⟨pc365_0, pc365_1, pc365_2, pc365_3, pc365_4, pc365_5, pc365_6, pc365_7, pc365_8, pc365_9, pc365_10, pc365_11, pc365_12, pc365_13, pc365_14, pc365_15, pc365_16⟩ := Gv.c17 BK365.out; obtain ⟨pf365_0, pf365_1, pf365_2, pf365_3, pf365_4, pf365_5, pf365_6, pf365_7, pf365_8, pf365_9, pf365_10, pf365_11, pf365_12, pf365_13, pf365_14, pf365_15, pf365_16⟩ := Gv.f17 BK365.out; obtain ⟨pc366_0, pc366_1, pc366_2, pc366_3, pc366_4, pc366_5, pc366_6, pc366_7, pc366_8, pc366_9, pc366_10, pc366_11, pc366_12, pc366_13, pc366_14, pc366_15, pc366_16⟩ := Gv.c17 BK366.out; obtain ⟨pf366_0, pf366_1, pf366_2, pf366_3, pf366_4, pf366_5, pf366_6, pf366_7, pf366_8, pf366_9, pf366_10, pf366_11, pf366_12, pf366_13, pf366_14, pf366_15, pf366_16⟩ := Gv.f17 BK366.out) | ((with_reducible refine gate_store (t := 3) rfl ?_); refine Gv.put_event (g := gb366) rfl rfl rfl rfl rfl (Gv.kb0 BK366.out) (by kernel_rfl) (by simp) ?_; intro wp_ hbox hoth hbel; simp only [List.setIfInBounds_toArray, List.set_cons_succ, List.set_cons_zero] at hbox; have n0_ := Gv.a0 hbox; have n1_ := Gv.a0 (hbel w Gv.bw GE366.out); have n2_ := Gv.a0 ((hoth gb365 NB365_366.out).trans (Gv.kb0 BK365.out)); clear BK366 HB BK365; have BK366 := n0_; have HB := n1_; have BK365 := n2_; clear n0_ n1_ n2_ hbox hoth hbel; obtain ⟨pc366_0, pc366_1, pc366_2, pc366_3, pc366_4, pc366_5, pc366_6, pc366_7, pc366_8, pc366_9, pc366_10, pc366_11, pc366_12, pc366_13, pc366_14, pc366_15, pc366_16⟩ := Gv.c17 BK366.out; obtain ⟨pf366_0, pf366_1, pf366_2, pf366_3, pf366_4, pf366_5, pf366_6, pf366_7, pf366_8, pf366_9, pf366_10, pf366_11, pf366_12, pf366_13, pf366_14, pf366_15, pf366_16⟩ := Gv.f17 BK366.out; obtain ⟨pc365_0, pc365_1, pc365_2, pc365_3, pc365_4, pc365_5, pc365_6, pc365_7, pc365_8, pc365_9, pc365_10, pc365_11, pc365_12, pc365_13, pc365_14, pc365_15, pc365_16⟩ := Gv.c17 BK365.out; obtain ⟨pf365_0, pf365_1, pf365_2, pf365_3, pf365_4, pf365_5, pf365_6, pf365_7, pf365_8, pf365_9, pf365_10, pf365_11, pf365_12, pf365_13, pf365_14, pf365_15, pf365_16⟩ := Gv.f17 BK365.out))
        go_ret
        exact ⟨Gv.rt, Gv.bw⟩
      ·rw [if_neg c87] at H
       have c87b0 : (a0_0 == 7) = false := beq_eq_false_iff_ne.mpr c87
       have c87b1 : (a0_0 != 7) = true := bne_iff_ne.mpr c87
       by_cases c96 : a0_0 = 4
       ·rw [if_pos c96] at H
        have c96b0 : (a0_0 == 4) = true := beq_iff_eq.mpr c96
        have c96b1 : (a0_0 != 4) = false := bne_eq_false_iff_eq.mpr c96
        clear c96
        obtain rfl := Option.some.inj H
        have hnb97 := NB366_365.out
        have hnc97 := NB365_366.out
        obtain ⟨hcz98_0, hcz98_1, hcz98_2, hcz98_3, hcz98_4, hcz98_5, hcz98_6, hcz98_7, hcz98_8, hcz98_9, hcz98_10, hcz98_11, hcz98_12, hcz98_13, hcz98_14, hcz98_15, hcz98_16⟩ := Gv.c17 BK366.out
        obtain ⟨hfz98_0, hfz98_1, hfz98_2, hfz98_3, hfz98_4, hfz98_5, hfz98_6, hfz98_7, hfz98_8, hfz98_9, hfz98_10, hfz98_11, hfz98_12, hfz98_13, hfz98_14, hfz98_15, hfz98_16⟩ := Gv.f17 BK366.out
        obtain ⟨hcz99_0, hcz99_1, hcz99_2, hcz99_3, hcz99_4, hcz99_5, hcz99_6, hcz99_7, hcz99_8, hcz99_9, hcz99_10, hcz99_11, hcz99_12, hcz99_13, hcz99_14, hcz99_15, hcz99_16⟩ := Gv.c17 BK365.out
        obtain ⟨hfz99_0, hfz99_1, hfz99_2, hfz99_3, hfz99_4, hfz99_5, hfz99_6, hfz99_7, hfz99_8, hfz99_9, hfz99_10, hfz99_11, hfz99_12, hfz99_13, hfz99_14, hfz99_15, hfz99_16⟩ := Gv.f17 BK365.out
        go_wp2_with (first | ((with_reducible refine Gv.gate_load (t := 38) rfl ?_); (try (refine gate_guard (by rfl) ?_; dsimp only)); refine wpList_load_row rfl 38 _ rfl gb365 rfl 38 _ _ _ (by first | exact Gv.kb0 BK365.out | exact Gv.kb1 (Gv.kb0 BK365.out)) Try.underlying38 rfl (by kernel_rfl) ?_) | ((with_reducible refine Gv.gate_load (t := 38) rfl ?_); (try (refine gate_guard (by rfl) ?_; dsimp only)); refine wpList_load_row rfl 38 _ rfl gb366 rfl 38 _ _ _ (by first | exact Gv.kb0 BK366.out | exact Gv.kb1 (Gv.kb0 BK366.out)) Try.underlying38 rfl (by kernel_rfl) ?_) | ((with_reducible refine gate_store (t := 3) rfl ?_); refine Gv.put_event (g := gb365) rfl rfl rfl rfl rfl (Gv.kb0 BK365.out) (by kernel_rfl) (by simp) ?_; intro wp_ hbox hoth hbel; simp only [List.setIfInBounds_toArray, List.set_cons_succ, List.set_cons_zero] at hbox; have n0_ := Gv.a0 hbox; have n1_ := Gv.a0 (hbel w Gv.bw GE365.out); have n2_ := Gv.a0 ((hoth gb366 NB366_365.out).trans (Gv.kb0 BK366.out)); clear BK365 HB BK366; have BK365 := n0_; have HB := n1_; have BK366 := n2_; clear n0_ n1_ n2_ hbox hoth hbel; obtain ⟨pc365_0, pc365_1, pc365_2, pc365_3, pc365_4, pc365_5, pc365_6, pc365_7, pc365_8, pc365_9, pc365_10, pc365_11, pc365_12, pc365_13, pc365_14, pc365_15, pc365_16⟩ := Gv.c17 BK365.out; obtain ⟨pf365_0, pf365_1, pf365_2, pf365_3, pf365_4, pf365_5, pf365_6, pf365_7, pf365_8, pf365_9, pf365_10, pf365_11, pf365_12, pf365_13, pf365_14, pf365_15, pf365_16⟩ := Gv.f17 BK365.out; obtain ⟨pc366_0, pc366_1, pc366_2, pc366_3, pc366_4, pc366_5, pc366_6, pc366_7, pc366_8, pc366_9, pc366_10, pc366_11, pc366_12, pc366_13, pc366_14, pc366_15, pc366_16⟩ := Gv.c17 BK366.out; obtain ⟨pf366_0, pf366_1, pf366_2, pf366_3, pf366_4, pf366_5, pf366_6, pf366_7, pf366_8, pf366_9, pf366_10, pf366_11, pf366_12, pf366_13, pf366_14, pf366_15, pf366_16⟩ := Gv.f17 BK366.out) | ((with_reducible refine gate_store (t := 3) rfl ?_); refine Gv.put_event (g := gb366) rfl rfl rfl rfl rfl (Gv.kb0 BK366.out) (by kernel_rfl) (by simp) ?_; intro wp_ hbox hoth hbel; simp only [List.setIfInBounds_toArray, List.set_cons_succ, List.set_cons_zero] at hbox; have n0_ := Gv.a0 hbox; have n1_ := Gv.a0 (hbel w Gv.bw GE366.out); have n2_ := Gv.a0 ((hoth gb365 NB365_366.out).trans (Gv.kb0 BK365.out)); clear BK366 HB BK365; have BK366 := n0_; have HB := n1_; have BK365 := n2_; clear n0_ n1_ n2_ hbox hoth hbel; obtain ⟨pc366_0, pc366_1, pc366_2, pc366_3, pc366_4, pc366_5, pc366_6, pc366_7, pc366_8, pc366_9, pc366_10, pc366_11, pc366_12, pc366_13, pc366_14, pc366_15, pc366_16⟩ := Gv.c17 BK366.out; obtain ⟨pf366_0, pf366_1, pf366_2, pf366_3, pf366_4, pf366_5, pf366_6, pf366_7, pf366_8, pf366_9, pf366_10, pf366_11, pf366_12, pf366_13, pf366_14, pf366_15, pf366_16⟩ := Gv.f17 BK366.out; obtain ⟨pc365_0, pc365_1, pc365_2, pc365_3, pc365_4, pc365_5, pc365_6, pc365_7, pc365_8, pc365_9, pc365_10, pc365_11, pc365_12, pc365_13, pc365_14, pc365_15, pc365_16⟩ := Gv.c17 BK365.out; obtain ⟨pf365_0, pf365_1, pf365_2, pf365_3, pf365_4, pf365_5, pf365_6, pf365_7, pf365_8, pf365_9, pf365_10, pf365_11, pf365_12, pf365_13, pf365_14, pf365_15, pf365_16⟩ := Gv.f17 BK365.out))
        go_ret
        exact ⟨Gv.rt, Gv.bw⟩
       ·rw [if_neg c96] at H
        have c96b0 : (a0_0 == 4) = false := beq_eq_false_iff_ne.mpr c96
        have c96b1 : (a0_0 != 4) = true := bne_iff_ne.mpr c96
        by_cases c100 : a0_0 = 6
        ·rw [if_pos c100] at H
         have c100b0 : (a0_0 == 6) = true := beq_iff_eq.mpr c100
         have c100b1 : (a0_0 != 6) = false := bne_eq_false_iff_eq.mpr c100
         clear c100
         obtain rfl := Option.some.inj H
         have hnb101 := NB366_365.out
         have hnc101 := NB365_366.out
         obtain ⟨hcz102_0, hcz102_1, hcz102_2, hcz102_3, hcz102_4, hcz102_5, hcz102_6, hcz102_7, hcz102_8, hcz102_9, hcz102_10, hcz102_11, hcz102_12, hcz102_13, hcz102_14, hcz102_15, hcz102_16⟩ := Gv.c17 BK366.out
         obtain ⟨hfz102_0, hfz102_1, hfz102_2, hfz102_3, hfz102_4, hfz102_5, hfz102_6, hfz102_7, hfz102_8, hfz102_9, hfz102_10, hfz102_11, hfz102_12, hfz102_13, hfz102_14, hfz102_15, hfz102_16⟩ := Gv.f17 BK366.out
         obtain ⟨hcz103_0, hcz103_1, hcz103_2, hcz103_3, hcz103_4, hcz103_5, hcz103_6, hcz103_7, hcz103_8, hcz103_9, hcz103_10, hcz103_11, hcz103_12, hcz103_13, hcz103_14, hcz103_15, hcz103_16⟩ := Gv.c17 BK365.out
         obtain ⟨hfz103_0, hfz103_1, hfz103_2, hfz103_3, hfz103_4, hfz103_5, hfz103_6, hfz103_7, hfz103_8, hfz103_9, hfz103_10, hfz103_11, hfz103_12, hfz103_13, hfz103_14, hfz103_15, hfz103_16⟩ := Gv.f17 BK365.out
         go_wp2_with (first | ((with_reducible refine Gv.gate_load (t := 38) rfl ?_); (try (refine gate_guard (by rfl) ?_; dsimp only)); refine wpList_load_row rfl 38 _ rfl gb365 rfl 38 _ _ _ (by first | exact Gv.kb0 BK365.out | exact Gv.kb1 (Gv.kb0 BK365.out)) Try.underlying38 rfl (by kernel_rfl) ?_) | ((with_reducible refine Gv.gate_load (t := 38) rfl ?_); (try (refine gate_guard (by rfl) ?_; dsimp only)); refine wpList_load_row rfl 38 _ rfl gb366 rfl 38 _ _ _ (by first | exact Gv.kb0 BK366.out | exact Gv.kb1 (Gv.kb0 BK366.out)) Try.underlying38 rfl (by kernel_rfl) ?_) | ((with_reducible refine gate_store (t := 3) rfl ?_); refine Gv.put_event (g := gb365) rfl rfl rfl rfl rfl (Gv.kb0 BK365.out) (by kernel_rfl) (by simp) ?_; intro wp_ hbox hoth hbel; simp only [List.setIfInBounds_toArray, List.set_cons_succ, List.set_cons_zero] at hbox; have n0_ := Gv.a0 hbox; have n1_ := Gv.a0 (hbel w Gv.bw GE365.out); have n2_ := Gv.a0 ((hoth gb366 NB366_365.out).trans (Gv.kb0 BK366.out)); clear BK365 HB BK366; have BK365 := n0_; have HB := n1_; have BK366 := n2_; clear n0_ n1_ n2_ hbox hoth hbel; obtain ⟨pc365_0, pc365_1, pc365_2, pc365_3, pc365_4, pc365_5, pc365_6, pc365_7, pc365_8, pc365_9, pc365_10, pc365_11, pc365_12, pc365_13, pc365_14, pc365_15, pc365_16⟩ := Gv.c17 BK365.out; obtain ⟨pf365_0, pf365_1, pf365_2, pf365_3, pf365_4, pf365_5, pf365_6, pf365_7, pf365_8, pf365_9, pf365_10, pf365_11, pf365_12, pf365_13, pf365_14, pf365_15, pf365_16⟩ := Gv.f17 BK365.out; obtain ⟨pc366_0, pc366_1, pc366_2, pc366_3, pc366_4, pc366_5, pc366_6, pc366_7, pc366_8, pc366_9, pc366_10, pc366_11, pc366_12, pc366_13, pc366_14, pc366_15, pc366_16⟩ := Gv.c17 BK366.out; obtain ⟨pf366_0, pf366_1, pf366_2, pf366_3, pf366_4, pf366_5, pf366_6, pf366_7, pf366_8, pf366_9, pf366_10, pf366_11, pf366_12, pf366_13, pf366_14, pf366_15, pf366_16⟩ := Gv.f17 BK366.out) | ((with_reducible refine gate_store (t := 3) rfl ?_); refine Gv.put_event (g := gb366) rfl rfl rfl rfl rfl (Gv.kb0 BK366.out) (by kernel_rfl) (by simp) ?_; intro wp_ hbox hoth hbel; simp only [List.setIfInBounds_toArray, List.set_cons_succ, List.set_cons_zero] at hbox; have n0_ := Gv.a0 hbox; have n1_ := Gv.a0 (hbel w Gv.bw GE366.out); have n2_ := Gv.a0 ((hoth gb365 NB365_366.out).trans (Gv.kb0 BK365.out)); clear BK366 HB BK365; have BK366 := n0_; have HB := n1_; have BK365 := n2_; clear n0_ n1_ n2_ hbox hoth hbel; obtain ⟨pc366_0, pc366_1, pc366_2, pc366_3, pc366_4, pc366_5, pc366_6, pc366_7, pc366_8, pc366_9, pc366_10, pc366_11, pc366_12, pc366_13, pc366_14, pc366_15, pc366_16⟩ := Gv.c17 BK366.out; obtain ⟨pf366_0, pf366_1, pf366_2, pf366_3, pf366_4, pf366_5, pf366_6, pf366_7, pf366_8, pf366_9, pf366_10, pf366_11, pf366_12, pf366_13, pf366_14, pf366_15, pf366_16⟩ := Gv.f17 BK366.out; obtain ⟨pc365_0, pc365_1, pc365_2, pc365_3, pc365_4, pc365_5, pc365_6, pc365_7, pc365_8, pc365_9, pc365_10, pc365_11, pc365_12, pc365_13, pc365_14, pc365_15, pc365_16⟩ := Gv.c17 BK365.out; obtain ⟨pf365_0, pf365_1, pf365_2, pf365_3, pf365_4, pf365_5, pf365_6, pf365_7, pf365_8, pf365_9, pf365_10, pf365_11, pf365_12, pf365_13, pf365_14, pf365_15, pf365_16⟩ := Gv.f17 BK365.out))
         go_ret
         exact ⟨Gv.rt, Gv.bw⟩
        ·rw [if_neg c100] at H
         have c100b0 : (a0_0 == 6) = false := beq_eq_false_iff_ne.mpr c100
         have c100b1 : (a0_0 != 6) = true := bne_iff_ne.mpr c100
         obtain rfl := Option.some.inj H
         go_wp2_with (first | ((with_reducible refine Gv.gate_load (t := 38) rfl ?_); (try (refine gate_guard (by rfl) ?_; dsimp only)); refine wpList_load_row rfl 38 _ rfl gb365 rfl 38 _ _ _ (by first | exact Gv.kb0 BK365.out | exact Gv.kb1 (Gv.kb0 BK365.out)) Try.underlying38 rfl (by kernel_rfl) ?_) | ((with_reducible refine Gv.gate_load (t := 38) rfl ?_); (try (refine gate_guard (by rfl) ?_; dsimp only)); refine wpList_load_row rfl 38 _ rfl gb366 rfl 38 _ _ _ (by first | exact Gv.kb0 BK366.out | exact Gv.kb1 (Gv.kb0 BK366.out)) Try.underlying38 rfl (by kernel_rfl) ?_) | ((with_reducible refine gate_store (t := 3) rfl ?_); refine Gv.put_event (g := gb365) rfl rfl rfl rfl rfl (Gv.kb0 BK365.out) (by kernel_rfl) (by simp) ?_; intro wp_ hbox hoth hbel; simp only [List.setIfInBounds_toArray, List.set_cons_succ, List.set_cons_zero] at hbox; have n0_ := Gv.a0 hbox; have n1_ := Gv.a0 (hbel w Gv.bw GE365.out); have n2_ := Gv.a0 ((hoth gb366 NB366_365.out).trans (Gv.kb0 BK366.out)); clear BK365 HB BK366; have BK365 := n0_; have HB := n1_; have BK366 := n2_; clear n0_ n1_ n2_ hbox hoth hbel; obtain ⟨pc365_0, pc365_1, pc365_2, pc365_3, pc365_4, pc365_5, pc365_6, pc365_7, pc365_8, pc365_9, pc365_10, pc365_11, pc365_12, pc365_13, pc365_14, pc365_15, pc365_16⟩ := Gv.c17 BK365.out; obtain ⟨pf365_0, pf365_1, pf365_2, pf365_3, pf365_4, pf365_5, pf365_6, pf365_7, pf365_8, pf365_9, pf365_10, pf365_11, pf365_12, pf365_13, pf365_14, pf365_15, pf365_16⟩ := Gv.f17 BK365.out; obtain ⟨pc366_0, pc366_1, pc366_2, pc366_3, pc366_4, pc366_5, pc366_6, pc366_7, pc366_8, pc366_9, pc366_10, pc366_11, pc366_12, pc366_13, pc366_14, pc366_15, pc366_16⟩ := Gv.c17 BK366.out; obtain ⟨pf366_0, pf366_1, pf366_2, pf366_3, pf366_4, pf366_5, pf366_6, pf366_7, pf366_8, pf366_9, pf366_10, pf366_11, pf366_12, pf366_13, pf366_14, pf366_15, pf366_16⟩ := Gv.f17 BK366.out) | ((with_reducible refine gate_store (t := 3) rfl ?_); refine Gv.put_event (g := gb366) rfl rfl rfl rfl rfl (Gv.kb0 BK366.out) (by kernel_rfl) (by simp) ?_; intro wp_ hbox hoth hbel; simp only [List.setIfInBounds_toArray, List.set_cons_succ, List.set_cons_zero] at hbox; have n0_ := Gv.a0 hbox; have n1_ := Gv.a0 (hbel w Gv.bw GE366.out); have n2_ := Gv.a0 ((hoth gb365 NB365_366.out).trans (Gv.kb0 BK365.out)); clear BK366 HB BK365; have BK366 := n0_; have HB := n1_; have BK365 := n2_; clear n0_ n1_ n2_ hbox hoth hbel; obtain ⟨pc366_0, pc366_1, pc366_2, pc366_3, pc366_4, pc366_5, pc366_6, pc366_7, pc366_8, pc366_9, pc366_10, pc366_11, pc366_12, pc366_13, pc366_14, pc366_15, pc366_16⟩ := Gv.c17 BK366.out; obtain ⟨pf366_0, pf366_1, pf366_2, pf366_3, pf366_4, pf366_5, pf366_6, pf366_7, pf366_8, pf366_9, pf366_10, pf366_11, pf366_12, pf366_13, pf366_14, pf366_15, pf366_16⟩ := Gv.f17 BK366.out; obtain ⟨pc365_0, pc365_1, pc365_2, pc365_3, pc365_4, pc365_5, pc365_6, pc365_7, pc365_8, pc365_9, pc365_10, pc365_11, pc365_12, pc365_13, pc365_14, pc365_15, pc365_16⟩ := Gv.c17 BK365.out; obtain ⟨pf365_0, pf365_1, pf365_2, pf365_3, pf365_4, pf365_5, pf365_6, pf365_7, pf365_8, pf365_9, pf365_10, pf365_11, pf365_12, pf365_13, pf365_14, pf365_15, pf365_16⟩ := Gv.f17 BK365.out))
         go_ret
         exact ⟨Gv.rt, Gv.bw⟩

/-! ### impl_Module_c47: function 46 over a closure -/
set_option maxHeartbeats 8000000 in
set_option maxRecDepth 100000 in
theorem impl_Module_c47.idx (g : Nat) (lb : Array Value) (eg : ∀ args w, (callFunc g args).run Try.prog w = .ok (.enter g args) w) (p : S38 → Option Bool) (A0 : Option Addr) (c0 : Nat) (l0 : List S38) (r : Int) (w : World) (hr0 : Kd.C k38 w A0 l0.length l0)
    (hp : ∀ (W : World) (x : S38) (b : Bool), p x = some b → Below w.heap.size w W → Calls Try.prog g (#[.agg #[.int .i64 x.f0, .int .i64 x.f1.f0.f0, .int .i64 x.f1.f0.f1, .int .i64 x.f1.f0.f2, .int .i64 x.f1.f0.f3, .int .i64 x.f1.f0.f4, .int .i64 x.f1.f1, .int .i64 x.f2.f0.f0, .int .i64 x.f2.f0.f1, .int .i64 x.f2.f0.f2, .int .i64 x.f2.f0.f3, .int .i64 x.f2.f0.f4, .int .i64 x.f2.f1, .int .i64 x.f3, .int .i64 x.f4, .int .i64 x.f5, .int .i64 x.f6]] ++ lb) W fun e w' => e = .returned (.bool b) ∧ Below W.heap.size W w') (h : Gv.idxO p l0 0 = some r) :
    Calls Try.prog 71 #[.slice A0 l0.length c0, .func (.func g) #[] lb] w fun e w' => e = .returned (.int .i64 r) ∧ Below w.heap.size w w' := by
  have hu38 := Try.underlying38
  have HR0 := Aside0.mk hr0
  have HP := Aside0.mk hp
  have hlm := hr0.2.1
  have H0 := Aside0.mk h
  clear hr0 hp h
  go_enter Try.func71, Try.ntmps71
  go_wp2
  go_loopg [5, 8] l0.length (fun gg _ s8 wr => ∃ kk : Nat, kk ≤ l0.length ∧ l0.length - kk ≤ gg ∧ s8 = .int .i64 kk ∧ Aside0 (Below w.heap.size w wr) ∧ Aside0 (Gv.idxO p (l0.drop kk) kk = some r))
  case atStart => exact ⟨0, Nat.zero_le _, by omega, rfl, ⟨Below.refl _ w⟩, ⟨H0.out⟩⟩
  case round =>
    obtain ⟨kk, hkk, hg, rfl, HB, HN⟩ := hrel
    by_cases hlt : kk < l0.length
    · have hltz : (kk : Int) < (l0.length : Int) := by omega
      have hk0 : 0 ≤ (kk : Int) := by omega
      obtain ⟨ad, e1, hx0, hx1, hx2, hx3, hx4, hx5, hx6, hx7, hx8, hx9, hx10, hx11, hx12, hx13, hx14, hx15, hx16⟩ := at_T38 (Kd.C_below HR0.out HB.out) (kk : Int) hk0 hltz
      cases e1
      obtain ⟨x_, hx_⟩ : ∃ x_, x_ = rd_T38 l0 kk := ⟨_, rfl⟩
      rw [← hx_, Int.toNat_natCast] at hx0 hx1 hx2 hx3 hx4 hx5 hx6 hx7 hx8 hx9 hx10 hx11 hx12 hx13 hx14 hx15 hx16
      have hN := HN.out
      have hget : l0.drop kk = x_ :: l0.drop (kk + 1) := by
        rw [hx_, List.drop_eq_getElem_cons hlt]
        congr 1
        unfold rd_T38
        rw [Int.toNat_natCast, List.getD_eq_getElem?_getD, List.getElem?_eq_getElem hlt]
        rfl
      rw [hget] at hN
      obtain ⟨b, hq, hN⟩ := Option.bind_eq_some_iff.mp hN
      have hcall := HP.out wr x_ b hq HB.out
      have HC := Aside0.mk hcall
      have HN2 := Aside0.mk hN
      clear hcall hN hq hget HN hx_
      cases b with
      | true =>
        have HRr := Aside0.mk (show (kk : Int) = r from Option.some.inj HN2.out)
        go_wp2_with (first | ((with_reducible refine Gv.gate_load (t := 38) rfl ?_); refine Gv.load_event (cs := [_, _, _, _, _, _, _, _, _, _, _, _, _, _, _, _, _]) rfl rfl rfl ⟨hx0, hx1, hx2, hx3, hx4, hx5, hx6, hx7, hx8, hx9, hx10, hx11, hx12, hx13, hx14, hx15, hx16, trivial⟩ Try.underlying38 rfl (by kernel_rfl) ?_))
        refine HC.out.mono ?_
        rintro e w' ⟨rfl, hb⟩
        have HB' := Aside0.mk (HB.out.trans (hb.mono HB.out.size))
        clear hb
        go_wp2_with fail
        go_ret
        exact ⟨by rw [← HRr.out]; rfl, HB'.out⟩
      | false =>
        go_wp2_with (first | ((with_reducible refine Gv.gate_load (t := 38) rfl ?_); refine Gv.load_event (cs := [_, _, _, _, _, _, _, _, _, _, _, _, _, _, _, _, _]) rfl rfl rfl ⟨hx0, hx1, hx2, hx3, hx4, hx5, hx6, hx7, hx8, hx9, hx10, hx11, hx12, hx13, hx14, hx15, hx16, trivial⟩ Try.underlying38 rfl (by kernel_rfl) ?_))
        refine HC.out.mono ?_
        rintro e w' ⟨rfl, hb⟩
        have HB' := Aside0.mk (HB.out.trans (hb.mono HB.out.size))
        clear hb
        go_wp2_with fail
        go_roundg (l0.length - (kk + 1))
        case measure => omega
        case rel =>
          have e_ : ((kk + 1 : Nat) : Int) = (kk : Int) + 1 := by omega
          exact ⟨kk + 1, by omega, by omega, by go_num, HB', ⟨by rw [e_]; exact HN2.out⟩⟩
    · have hltz : ¬ (kk : Int) < (l0.length : Int) := by omega
      have HRr := Aside0.mk (show (-1 : Int) = r from by
        have hN := HN.out
        rw [List.drop_eq_nil_of_le (by omega)] at hN
        exact Option.some.inj hN)
      go_wp2_with fail
      go_ret
      exact ⟨by rw [← HRr.out]; rfl, HB.out⟩
set_option maxHeartbeats 8000000 in
set_option maxRecDepth 100000 in
theorem impl_Module_c47.clo (k : Nat)  (x : S38) (b : Bool) (W : World)  (h : ((impl_ModuleOk.f k x.f0 x.f1.f0.f0 x.f1.f0.f1 x.f1.f0.f2 x.f1.f0.f3 x.f1.f0.f4 x.f1.f1 x.f2.f0.f0 x.f2.f0.f1 x.f2.f0.f2 x.f2.f0.f3 x.f2.f0.f4 x.f2.f1 x.f3 x.f4 x.f5 x.f6).bind fun b => some (!b)) = some b) :
    Calls Try.prog 47 (#[.agg #[.int .i64 x.f0, .int .i64 x.f1.f0.f0, .int .i64 x.f1.f0.f1, .int .i64 x.f1.f0.f2, .int .i64 x.f1.f0.f3, .int .i64 x.f1.f0.f4, .int .i64 x.f1.f1, .int .i64 x.f2.f0.f0, .int .i64 x.f2.f0.f1, .int .i64 x.f2.f0.f2, .int .i64 x.f2.f0.f3, .int .i64 x.f2.f0.f4, .int .i64 x.f2.f1, .int .i64 x.f3, .int .i64 x.f4, .int .i64 x.f5, .int .i64 x.f6]] ++ #[]) W fun e w' => e = .returned (.bool b) ∧ Below W.heap.size W w' := by
  obtain ⟨b1, h1, h⟩ := Option.bind_eq_some_iff.mp h
  obtain rfl := Option.some.inj h
  have H := Aside0.mk h1
  clear h1 h
  go_enter Try.func47, Try.ntmps47
  go_wp2_with fail
  refine (impl_ModuleOk.calls k _ _ _ _ _ _ _ _ _ _ _ _ _ _ _ _ _ _ _ H.out).mono ?_
  rintro e w' ⟨rfl, hb⟩
  have HB' := Aside0.mk hb
  clear hb
  go_wp2_with fail
  go_ret
  exact ⟨rfl, by first | exact HB'.out | exact HB'.out.below | exact ((Below.refl _ W).alloc (Nat.le_refl _) _).trans (HB'.out.mono ((Below.refl _ W).alloc (Nat.le_refl _) _).size)⟩
def impl_Module_c47.f (k : Nat) (l0 : List S38)  : Option Bool := (Gv.idxO (fun x : S38 => (impl_ModuleOk.f k x.f0 x.f1.f0.f0 x.f1.f0.f1 x.f1.f0.f2 x.f1.f0.f3 x.f1.f0.f4 x.f1.f1 x.f2.f0.f0 x.f2.f0.f1 x.f2.f0.f2 x.f2.f0.f3 x.f2.f0.f4 x.f2.f1 x.f3 x.f4 x.f5 x.f6).bind fun b => some (!b)) l0 0).bind fun i => some (decide (i ≥ 0))
theorem impl_Module_c47.mono : ∀ l0  k, LeO (impl_Module_c47.f k l0 ) (impl_Module_c47.f (k + 1) l0 ) := by
  intro l0  k r h
  unfold impl_Module_c47.f at h ⊢
  obtain ⟨i, hi, h⟩ := Option.bind_eq_some_iff.mp h
  refine Option.bind_eq_some_iff.mpr ⟨i, Gv.idxO_mono (fun x b hb => ?_) _ _ _ hi, h⟩
  obtain ⟨t, h1, h2⟩ := Option.bind_eq_some_iff.mp hb
  exact Option.bind_eq_some_iff.mpr ⟨t, impl_ModuleOk.mono _ _ _ _ _ _ _ _ _ _ _ _ _ _ _ _ _ k _ h1, h2⟩
set_option maxHeartbeats 8000000 in
set_option maxRecDepth 100000 in
theorem impl_Module_c47.calls (k : Nat) (A0 : Option Addr) (c0 : Nat) (l0 : List S38)  (r : Bool) (w : World) (hr0 : Kd.C k38 w A0 l0.length l0) (hc0_ : l0.length ≤ c0)  (h : impl_Module_c47.f k l0  = some r) :
    Calls Try.prog 46 #[.slice A0 l0.length c0, .func (.func 47) #[] #[]] w fun e w' => e = .returned (.bool r) ∧ Below w.heap.size w w' := by
  unfold impl_Module_c47.f at h
  obtain ⟨i, hi, h⟩ := Option.bind_eq_some_iff.mp h
  obtain rfl := Option.some.inj h
  have HR := Aside0.mk hr0
  have HI := Aside0.mk hi
  clear hr0 hi h
  go_enter Try.func46, Try.ntmps46
  go_wp2_with fail
  refine (impl_Module_c47.idx 47 #[] (enters_of Try.func47 (by kernel_rfl) rfl) (fun x => (impl_ModuleOk.f k x.f0 x.f1.f0.f0 x.f1.f0.f1 x.f1.f0.f2 x.f1.f0.f3 x.f1.f0.f4 x.f1.f1 x.f2.f0.f0 x.f2.f0.f1 x.f2.f0.f2 x.f2.f0.f3 x.f2.f0.f4 x.f2.f1 x.f3 x.f4 x.f5 x.f6).bind fun b => some (!b)) A0 c0 l0 i w HR.out (fun W x b hb hW => impl_Module_c47.clo k   x b W  hb) HI.out).mono ?_
  rintro e w' ⟨rfl, hb⟩
  have HB := Aside0.mk hb
  clear hb
  go_wp2_with fail
  go_ret
  exact ⟨rfl, HB.out⟩

/-! ### impl_ChainOk: function 19 -/
def impl_ChainOk.f (k : Nat) (l0 : List (S38)) : Option (Bool) := if (l0.length : Int) ≤ 8 then ((impl_Module_c47.f k l0).bind fun t374 => (some (!t374))) else (some false)
theorem impl_ChainOk.mono : ∀ a0 k, LeO (impl_ChainOk.f k a0) (impl_ChainOk.f (k + 1) a0) := by
 intro a0 k
 unfold impl_ChainOk.f
 repeat' first
   | (with_reducible exact impl_Module_c47.mono _ _)
   | (with_reducible exact LeO.refl _)
   | (with_reducible exact LeO.none _)
   | (with_reducible refine LeO.ite ?_ ?_)
   | (with_reducible refine LeO.bind ?_ (fun _ => ?_))
   | exact impl_Module_c47.mono _ _
   | exact LeO.none _
   | refine LeO.ite ?_ ?_
   | refine LeO.bind ?_ (fun _ => ?_)
set_option maxHeartbeats 8000000 in
set_option maxRecDepth 100000 in
theorem impl_ChainOk.calls (k : Nat) (A0 : Option Addr) (c0 : Nat) (l0 : List (S38)) (r : Bool) (w : World) (hr0 : Kd.C k38 w A0 l0.length l0) (hc0 : l0.length ≤ c0) (h : impl_ChainOk.f k l0 = some r) :
  Calls Try.prog 19 #[.slice A0 l0.length c0] w fun e w' => e = .returned (.bool r) ∧ Below w.heap.size w w' := by
 have HR0 := Gv.a0 hr0
 have HC0 := Gv.a0 hc0
 clear hr0 hc0
 have HB := Gv.a0 (Below.refl w.heap.size w)
 have H : (if (l0.length : Int) ≤ 8 then ((impl_Module_c47.f k l0).bind fun t374 => (some (!t374))) else (some false)) = some r := h
 clear h
 by_cases c2 : (l0.length : Int) ≤ 8
 ·rw [if_pos c2] at H
  have c2b0 : decide ((l0.length : Int) ≤ 8) = true := decide_eq_true c2
  have c2b1 : decide (l0.length ≤ 8) = true := decide_eq_true (by omega)
  clear c2
  replace H := Option.bind_eq_some_iff.mp H
  obtain ⟨t374, A30, H⟩ := H
  replace H : (some (!t374)) = some r := H
  have A3 := Gv.a0 A30
  clear A30
  obtain rfl := Option.some.inj H
  go_enter Try.func19, Try.ntmps19
  go_wp2_with (first | (go_at_call 46; (with_reducible refine (impl_Module_c47.calls k _ _ l0  t374 _ ?side1 ?side2 A3.out).mono ?_); (case side1 => repeat (first | exact HR0.out | (with_reducible refine Kd.C_alloc ?_ _) | (with_reducible refine Kd.C_drewN ?_ _) | (with_reducible refine Kd.C_drew ?_))); (case side2 => exact HC0.out); rintro e w4 ⟨rfl, hb⟩; have n0_ := Gv.a0 (below_step Gv.bw hb); clear HB; have HB := n0_; clear n0_; (try clear hb); (try clear hb2); (try clear hk); (try clear hi)))
  go_ret
  exact ⟨Gv.rt, Gv.bw⟩
 ·rw [if_neg c2] at H
  have c2b0 : decide ((l0.length : Int) ≤ 8) = false := decide_eq_false c2
  have c2b1 : decide (l0.length ≤ 8) = false := decide_eq_false (by omega)
  clear c2
  obtain rfl := Option.some.inj H
  go_enter Try.func19, Try.ntmps19
  go_wp2
  go_ret
  exact ⟨Gv.rt, Gv.bw⟩

/-! ### impl_BackChain: function 28 -/
def impl_BackChain.f (k : Nat) (l0 : List (S38)) : Option ((List (S38))) := if l0.length ≤ 1048576 then (impl_ChainOk.f k l0).bind (fun b => some (if b = true then (l0.reverse.filterMap (fun m : S38 => if m.f0 = 2 then some (⟨3, m.f2, m.f1, 0, 0, 0, 0⟩ : S38) else if m.f0 = 3 then some (⟨2, m.f2, m.f1, 0, 0, 0, 0⟩ : S38) else none)) else [])) else none
theorem impl_BackChain.mono : ∀ a0 k, LeO (impl_BackChain.f k a0) (impl_BackChain.f (k + 1) a0) := by
 intro a0 k
 unfold impl_BackChain.f
 repeat' first
   | (with_reducible exact impl_ChainOk.mono _ _)
   | (with_reducible exact LeO.refl _)
   | (with_reducible exact LeO.none _)
   | (with_reducible refine LeO.ite ?_ ?_)
   | (with_reducible refine LeO.bind ?_ (fun _ => ?_))
   | exact impl_ChainOk.mono _ _
   | exact LeO.none _
   | refine LeO.ite ?_ ?_
   | refine LeO.bind ?_ (fun _ => ?_)
namespace Bk
open Go Go.RowKit Go.Shelf
attribute [local go_sem] Oper.semAt_some
/-- A module's cells. -/
abbrev cz (x : S38) : List Value := [.int .i64 x.f0, .int .i64 x.f1.f0.f0, .int .i64 x.f1.f0.f1, .int .i64 x.f1.f0.f2, .int .i64 x.f1.f0.f3, .int .i64 x.f1.f0.f4, .int .i64 x.f1.f1, .int .i64 x.f2.f0.f0, .int .i64 x.f2.f0.f1, .int .i64 x.f2.f0.f2, .int .i64 x.f2.f0.f3, .int .i64 x.f2.f0.f4, .int .i64 x.f2.f1, .int .i64 x.f3, .int .i64 x.f4, .int .i64 x.f5, .int .i64 x.f6]
theorem cz_one (x : S38) : (cz x).toArray.all (·.oneCell') = true := by simp [Value.oneCell']
section
variable {F : Fence} {n : Nat} {P : Program} {ops : Array Oper} {rest : List Oper} {o : Oper} {a : Act} {W W1 : World} {Q : Exit → Act → World → Prop}
/-- An operation that is no call and no defer statement, and hands back a value, inside a fence. -/
theorem in_value {v : Value} (hgd : o.guard = none) (hc : ∀ c, o.op ≠ .call c) (hd : ∀ c, o.op ≠ .defer c) (hrun : (execOp a.eval o).run P W = .ok (.value v) W1) (h : wpListIn F n P ops Q rest (a.put o.dst v) W1) : wpListIn F n P ops Q (o :: rest) a W := by
 refine wpListIn_plain hgd fun K hK => ?_
 unfold Oper.wpIn
 refine ⟨fun f hf => ?_, ?_⟩
 ·unfold Oper.about at hf
  split at hf
  ·rename_i c e
   exact absurd e (hc c)
  ·cases hf
 ·rw [Oper.semAt_plain F _ _ hd, hrun]
  exact hK _ _ h
theorem in_gate_load {t : TypeId} {p : Tmp} (_ho : o.op = .load t (.tmp p)) (h : wpListIn F n P ops Q (o :: rest) a W) : wpListIn F n P ops Q (o :: rest) a W := h
theorem in_load {t : TypeId} {x : Operand} {A : Addr} {cs : List Value} {d : TypeDesc} (hgd : o.guard = none) (ho : o.op = .load t x) (hx : a.eval x = .pointer (some A)) (hc : Gv.CA W A 0 cs) (hu : P.underlying t = some d) (hd : (match d with | .struct _ | .array _ _ => true | _ => false) = true) (hi : (P.info? t).map (·.size) = some cs.length)
  (h : wpListIn F n P ops Q rest (a.put o.dst (.agg cs.toArray)) W) : wpListIn F n P ops Q (o :: rest) a W :=
 in_value hgd (fun c e => by rw [ho] at e; cases e) (fun c e => by rw [ho] at e; cases e) (Gv.load_run ho hx hc hu hd hi) h
theorem in_gate_store {t : TypeId} {p : Tmp} {v : Operand} (_ho : o.op = .store t (.tmp p) v) (h : wpListIn F n P ops Q (o :: rest) a W) : wpListIn F n P ops Q (o :: rest) a W := h
theorem in_gate_alloc {t : TypeId} (_ho : o.op = .alloc t) (h : wpListIn F n P ops Q (o :: rest) a W) : wpListIn F n P ops Q (o :: rest) a W := h
theorem in_alloc {t : TypeId} {cells : Array Value} (hgd : o.guard = none) (ho : o.op = .alloc t) (hz : (P.info? t).map (·.zero) = some (some (.agg cells)))
  (h : wpListIn F n P ops Q rest (a.put o.dst (.pointer (some ⟨W.heap.size, 0, none⟩))) (W.alloc (.cells cells t (0, 0)))) : wpListIn F n P ops Q (o :: rest) a W :=
 in_value hgd (fun c e => by rw [ho] at e; cases e) (fun c e => by rw [ho] at e; cases e) (Gv.alloc_run ho hz) h
/-- A whole struct laid into a box. -/
theorem in_store {t : TypeId} {p v : Operand} {g : Nat} {old cells : Array Value} (hgd : o.guard = none) (ho : o.op = .store t p v) (hd : o.dst = none) (hx : a.eval p = .pointer (some ⟨g, 0, none⟩)) (hy : a.eval v = .agg cells) (hg : W.heap[g]? = some (.cells old t (0, 0))) (hi : (P.info? t).map (·.size) = some cells.size) (hold : old.size = cells.size) (h1 : cells.all (·.oneCell') = true)
  (h : ∀ w1 : World, w1.heap[g]? = some (.cells cells t (0, 0)) → W.grownBy w1 (some g) → wpListIn F n P ops Q rest a w1) : wpListIn F n P ops Q (o :: rest) a W := by
 have hrun := run_storeVar_row (P := P) W g t t old cells hg hi hold h1
 refine wpListIn_plain hgd fun K hK => ?_
 unfold Oper.wpIn
 refine ⟨fun f hf => ?_, ?_⟩
 ·unfold Oper.about at hf
  rw [ho] at hf
  cases hf
 ·rw [Oper.semAt_plain F _ _ (fun c e => by rw [ho] at e; cases e)]
  unfold execOp
  simp only [ho, hx, hy, Instr.storeAt, Instr.sureAddr, Sem.run_bind, Sem.run_pure, Result.andThen_ok, hrun]
  refine hK _ _ ?_
  rw [hd]
  have hother : ∀ i, i ≠ g → (W.setRow g cells).heap[i]? = W.heap[i]? := by
   intro i hi
   simp only [World.setRow, Array.getElem?_modify]
   rw [if_neg (fun e => hi e.symm)]
  refine h _ ?_ ⟨rfl, rfl, rfl, by simp [World.setRow], fun k _ hk => hother k (fun e => hk (by rw [e]))⟩
  simp only [World.setRow, Array.getElem?_modify]
  rw [if_pos trivial, hg]
  rfl
end
/-- What a round of the loop keeps: whatever lay when the function was called, and the box that holds the chain. -/
def Kp (n₀ Bs : Nat) (W W' : World) : Prop := Below n₀ W W' ∧ W'.heap[Bs]? = W.heap[Bs]?
theorem Kp.refl (n₀ Bs : Nat) (W : World) : Kp n₀ Bs W W := ⟨Below.refl _ _, rfl⟩
theorem Kp.trans {n₀ Bs : Nat} {A B C : World} (h : Kp n₀ Bs A B) (k : Kp n₀ Bs B C) : Kp n₀ Bs A C := ⟨h.1.trans k.1, k.2.trans h.2⟩
abbrev enc2 (x : Int × S38) : Array Value := #[.int .i64 x.1, .agg #[.int .i64 x.2.f0, .int .i64 x.2.f1.f0.f0, .int .i64 x.2.f1.f0.f1, .int .i64 x.2.f1.f0.f2, .int .i64 x.2.f1.f0.f3, .int .i64 x.2.f1.f0.f4, .int .i64 x.2.f1.f1, .int .i64 x.2.f2.f0.f0, .int .i64 x.2.f2.f0.f1, .int .i64 x.2.f2.f0.f2, .int .i64 x.2.f2.f0.f3, .int .i64 x.2.f2.f0.f4, .int .i64 x.2.f2.f1, .int .i64 x.2.f3, .int .i64 x.2.f4, .int .i64 x.2.f5, .int .i64 x.2.f6]]
theorem take_rev (xs : List S38) (i : Int) (h0 : 0 ≤ i) (h1 : i < xs.length) : xs.reverse.take ((xs.length : Int) - 1 - (i - 1)).toNat = xs.reverse.take ((xs.length : Int) - 1 - i).toNat ++ [rd_T38 xs i] := by
 obtain ⟨k, rfl⟩ : ∃ k : Nat, i = k := ⟨i.toNat, by omega⟩
 have e1 : ((xs.length : Int) - 1 - ((k : Int) - 1)).toNat = (xs.length - 1 - k) + 1 := by omega
 have e2 : ((xs.length : Int) - 1 - (k : Int)).toNat = xs.length - 1 - k := by omega
 rw [e1, e2, List.take_succ_eq_append_getElem (by simp; omega), List.getElem_reverse]
 unfold rd_T38
 rw [Int.toNat_natCast, List.getD_eq_getElem?_getD, List.getElem?_eq_getElem (by omega)]
 simp only [Option.getD_some, List.append_cancel_left_eq, List.cons.injEq, and_true]
 congr 1
 omega
set_option maxRecDepth 100000 in
set_option maxHeartbeats 2000000 in
/-- slices.Backward's closure: for every loop body that keeps what lay. -/
theorem back1_in (F : Fence) (n : Nat) (h81 : F.fn 81) (hro : F.round = none) (hn : 1 ≤ n) (l Bs c : Nat) (A : Option Addr) (xs : List S38) (hlen : xs.length ≤ 9223372036854775807) (w0 : World) (hC : Kd.C k38 w0 A xs.length xs) (J Jx : List (Int × S38) → World → Prop)
  (hY : ∀ pre x W, J pre W → pre.length < xs.length → YieldAt F (n - 1) Try.prog l (enc2 x) W fun e W' =>
   (e = .returned (.bool true) ∧ J (pre ++ [x]) W' ∧ Kp w0.heap.size Bs W W') ∨ (e = .returned (.bool false) ∧ Jx (pre ++ [x]) W'))
  (W : World) (hW : Below w0.heap.size w0 W) (hBs : Boxed W Bs 44 (.slice A xs.length c)) (h0 : J [] W) :
  CallsIn F n Try.prog 81 #[.func (.yield l) #[] #[], .pointer (some ⟨Bs, 0, none⟩)] W fun e W' => (∃ v, e = .returned v) ∧
   ((∃ ys : List (Int × S38), ys.map Prod.snd = xs.reverse ∧ J ys W') ∨ (∃ pre : List (Int × S38), True ∧ Jx pre W')) := by
 have hc0 := hBs.cell
 have HBs := Gv.a0 hBs
 have HW := Gv.a0 hW
 have HC := Gv.a0 hC
 have H0 := Gv.a0 h0
 clear hBs hW hC h0
 refine callsIn_of_wp Try.func81 rfl h81 ?_ hro
 simp only [Try.ntmps81, List.size_toArray, List.length_cons, List.length_nil, Nat.reduceAdd, Nat.reduceSub, Array.replicate_succ, Array.replicate_zero, List.push_toArray, List.append_toArray, List.nil_append, List.cons_append]
 gi_wp2
 gi_loopw [3] (fun p wr => ∃ (i : Int) (pre : List (Int × S38)), p = .int .i64 i ∧ -1 ≤ i ∧ i < xs.length ∧ Aside0 (pre.map Prod.snd = xs.reverse.take ((xs.length : Int) - 1 - i).toNat) ∧ Aside0 (J pre wr) ∧ Aside0 (Kp w0.heap.size Bs W wr))
  (fun p _ => (intOf p + 1).toNat)
 case atStart => exact ⟨(xs.length : Int) - 1, [], rfl, by omega, by omega, ⟨by simp⟩, H0, ⟨Kp.refl _ _ _⟩⟩
 case round =>
  obtain ⟨i, pre, rfl, hi1, hi2, HP, HJ, HK⟩ := hrel
  have hl : pre.length = ((xs.length : Int) - 1 - i).toNat := by
   have := congrArg List.length HP.out
   rw [List.length_map, List.length_take, List.length_reverse] at this
   omega
  have hbx : Boxed wr Bs 44 (.slice A xs.length c) := HK.out.2.trans HBs.out
  have hcx := hbx.cell
  clear hc0 hbx
  by_cases hi : 0 ≤ i
  ·obtain ⟨ad, rfl, hx0, hx1, hx2, hx3, hx4, hx5, hx6, hx7, hx8, hx9, hx10, hx11, hx12, hx13, hx14, hx15, hx16⟩ := at_T38 (Kd.C_below HC.out (HW.out.trans HK.out.1)) i hi hi2
   have HT := Gv.a0 (take_rev xs i hi hi2)
   obtain ⟨y, hy_⟩ : ∃ y, y = rd_T38 xs i := ⟨_, rfl⟩
   rw [← hy_] at HT hx0 hx1 hx2 hx3 hx4 hx5 hx6 hx7 hx8 hx9 hx10 hx11 hx12 hx13 hx14 hx15 hx16
   have HX : Aside0 (Gv.CA wr (ad.add (i.toNat * 17)) 0 (cz y)) := ⟨⟨hx0, hx1, hx2, hx3, hx4, hx5, hx6, hx7, hx8, hx9, hx10, hx11, hx12, hx13, hx14, hx15, hx16, trivial⟩⟩
   clear hx0 hx1 hx2 hx3 hx4 hx5 hx6 hx7 hx8 hx9 hx10 hx11 hx12 hx13 hx14 hx15 hx16 hy_
   obtain ⟨fn, tmps, assign, body, hy, hR⟩ := hY pre (i, y) wr HJ.out (by omega)
   clear hl
   gi_wp2_with (first | ((with_reducible refine in_gate_load (t := 38) rfl ?_); refine in_load (cs := cz y) rfl rfl rfl HX.out Try.underlying38 rfl (by kernel_rfl) ?_))
   refine hR.mono ?_
   rintro e W3 (⟨rfl, hJ3, hk3⟩ | ⟨rfl, hJx3⟩)
   ·have HJ3 := Gv.a0 hJ3
    have HK3 := Gv.a0 hk3
    clear hJ3 hk3 hR hy
    gi_wp2
    go_roundw
    case rel => exact ⟨i - 1, pre ++ [(i, y)], rfl, by omega, by omega, ⟨by rw [HT.out, List.map_append, HP.out]; rfl⟩, HJ3, ⟨HK.out.trans HK3.out⟩⟩
    case measure => simp [intOf]; omega
   ·have HJ3 := Gv.a0 hJx3
    clear hJx3 hR hy
    gi_wp2
    refine bodyPost_ret (results_none rfl _ _ _) rfl ?_
    exact ⟨⟨_, rfl⟩, .inr ⟨_, trivial, HJ3.out⟩⟩
  ·gi_wp2
   go_end0
   exact ⟨⟨_, rfl⟩, .inl ⟨pre, by rw [HP.out, List.take_of_length_le (by simp; omega)], HJ.out⟩⟩
theorem back_in (F : Fence) (n : Nat) (h61 : F.fn 61) (hro : F.round = none) (A : Option Addr) (len c : Nat) (w : World) :
  CallsIn F n Try.prog 61 #[.slice A len c] w fun e w' => e = .returned (.func (.func 81) #[] #[.pointer (some ⟨w.heap.size, 0, none⟩)]) ∧ w' = w.alloc (.cells #[.slice A len c] 44) := by
 refine callsIn_of_wp Try.func61 rfl h61 ?_ hro
 simp only [Try.ntmps61, List.size_toArray, List.length_cons, List.length_nil, Nat.reduceAdd, Nat.reduceSub, Array.replicate_succ, Array.replicate_zero, List.push_toArray, List.append_toArray, List.nil_append, List.cons_append]
 gi_wp2
 go_ret
 exact ⟨rfl, rfl⟩
theorem back_stops (F : Fence) (n : Nat) (h81 : F.fn 81) (hro : F.round = none) (hn : 1 ≤ n) (Bs c : Nat) (A : Option Addr) (xs : List S38) (hlen : xs.length ≤ 9223372036854775807) (w0 : World) (hC : Kd.C k38 w0 A xs.length xs) (w : World) (hBs : Boxed w Bs 44 (.slice A xs.length c)) (hw0 : Below w0.heap.size w0 w) :
  SeqStopsK F n Try.prog 81 #[.pointer (some ⟨Bs, 0, none⟩)] enc2 (Kp w0.heap.size Bs) (fun ys => ys.map Prod.snd = xs.reverse) (fun _ => True) xs.length w := fun l J Jx W hW _ _ hY h0 =>
 back1_in F n h81 hro hn l Bs c A xs hlen w0 hC J Jx hY W (hw0.trans (hW.mono hw0.size)) ((hW.block Bs hBs.lt).trans hBs) h0
theorem cells_new (W : World) (l : List Value) (t : TypeId) : ∀ (j : Nat) (u : Value), l[j]? = some u → (W.alloc (.cells l.toArray t)).cell? ((⟨W.heap.size, 0, none⟩ : Addr).add j) = some u := by
 intro j u h
 rw [add_plain, blk_cell (heap_alloc_new W (.cells l.toArray t)) j]
 simpa using h
/-- The way back of one module. -/
def one (m : S38) : Option S38 := if m.f0 = 2 then some ⟨3, m.f2, m.f1, 0, 0, 0, 0⟩ else if m.f0 = 3 then some ⟨2, m.f2, m.f1, 0, 0, 0, 0⟩ else none
def bk (l : List S38) : List S38 := l.reverse.filterMap one
def got (pre : List (Int × S38)) : List S38 := (pre.map Prod.snd).filterMap one
theorem got_len (pre : List (Int × S38)) : (got pre).length ≤ pre.length := by
 unfold got
 exact Nat.le_trans (List.length_filterMap_le _ _) (by simp)
theorem got_hit (pre : List (Int × S38)) {x : Int × S38} {y : S38} (h : one x.2 = some y) : got (pre ++ [x]) = got pre ++ [y] := by
 unfold got
 rw [List.map_append, List.filterMap_append]
 simp [h]
theorem got_miss (pre : List (Int × S38)) {x : Int × S38} (h : one x.2 = none) : got (pre ++ [x]) = got pre := by
 unfold got
 rw [List.map_append, List.filterMap_append]
 simp [h]
theorem cz_len : ∀ l : List S38, (l.flatMap cz).length = l.length * 17
 | [] => rfl
 | x :: l => by rw [List.flatMap_cons, List.length_append, cz_len l, List.length_cons]; simp; omega
theorem reps_flat (base : Nat) (ok : Nat → Prop) (w : World) : ∀ l : List S38, Reps (k38.M w base ok) 17 l (l.flatMap cz)
 | [] => Reps.none _ _
 | x :: l => Reps.front (k38_mkM w base ok x) rfl (reps_flat base ok w l) rfl
theorem info38_ : (Try.prog.info? 38).map (fun i => (i.zero, i.size, i.bytes)) = some (some (.agg #[(.int .i64 0), (.int .i64 0), (.int .i64 0), (.int .i64 0), (.int .i64 0), (.int .i64 0), (.int .i64 0), (.int .i64 0), (.int .i64 0), (.int .i64 0), (.int .i64 0), (.int .i64 0), (.int .i64 0), (.int .i64 0), (.int .i64 0), (.int .i64 0), (.int .i64 0)]), 17, 136) := by kernel_rfl
set_option maxRecDepth 100000 in
set_option maxHeartbeats 4000000 in
theorem caller (A0 : Option Addr) (c0 : Nat) (l0 : List S38) (w : World) (hr0 : Kd.C k38 w A0 l0.length l0) (hlen : l0.length ≤ 1048576)
  (hok : Calls Try.prog 19 #[.slice A0 l0.length c0] w fun e w' => e = .returned (.bool true) ∧ Below w.heap.size w w') :
  CallsIn Fence.wide 4 Try.prog 28 #[.slice A0 l0.length c0] w fun e W' => ∃ v, e = .returned v ∧ W'.ownsRow w.heap.size 38 17 v (bk l0).length ((bk l0).flatMap cz) ∧ Below w.heap.size w W' := by
 obtain ⟨i0, hi, hz0, hz1, hz2⟩ := info_parts info38_
 have HC := Gv.a0 hr0
 have HOK := Gv.a0 hok
 clear hr0 hok
 refine callsIn_of_wp_marks Try.func28 rfl trivial ?_ rfl
 simp only [Try.ntmps28, List.size_toArray, List.length_cons, List.length_nil, Nat.reduceAdd, Nat.reduceSub, Array.replicate_succ, Array.replicate_zero, List.push_toArray, List.append_toArray, List.nil_append, List.cons_append]
 gi_wp2_with (first | (refine ⟨trivial, ?_⟩; gi_at_call 19; refine (callsIn_wide.2 HOK.out).mono ?_; rintro e w1 ⟨rfl, hb⟩; have HB1 := Gv.a0 hb; clear hb) | (refine ⟨trivial, ?_⟩; gi_at_call 61; refine (back_in Fence.wide _ trivial rfl _ _ _ _).mono ?_; rintro e w' ⟨rfl, rfl⟩))
 obtain ⟨W0, hW0⟩ : ∃ W0, (((w1.alloc (.cells #[] 38)).alloc (.cells #[.slice (some ⟨w1.heap.size, 0, none⟩) 0 0] 44)).alloc (.cells #[.slice A0 l0.length c0] 44)) = W0 := ⟨_, rfl⟩
 have bG : W0.heap[w1.heap.size]? = some (.cells #[] 38 (0, 0)) := by rw [← hW0]; exact blk_alloc (blk_alloc (heap_alloc_new w1 _) _) _
 have bO : Boxed W0 (w1.heap.size + 1) 44 (.slice (some ⟨w1.heap.size, 0, none⟩) 0 0) := by
  have h := Boxed.new (w1.alloc (.cells #[] 38)) 44 (.slice (some ⟨w1.heap.size, 0, none⟩) 0 0)
  rw [World.size_alloc] at h
  rw [← hW0]
  exact h.alloc _
 have bN : Boxed W0 (w1.heap.size + 1 + 1) 44 (.slice A0 l0.length c0) := by
  have h := Boxed.new ((w1.alloc (.cells #[] 38)).alloc (.cells #[.slice (some ⟨w1.heap.size, 0, none⟩) 0 0] 44)) 44 (.slice A0 l0.length c0)
  rw [World.size_alloc, World.size_alloc] at h
  rw [← hW0]
  exact h
 have hsz : W0.heap.size = w1.heap.size + 3 := by rw [← hW0]; simp
 have hs1 := HB1.out.size
 have hB0 : Below w.heap.size w W0 := by rw [← hW0]; exact below_alloc (below_alloc (below_alloc HB1.out _) _) _
 rw [hW0]
 clear hW0
 have hR0 : W0.ownsRow w.heap.size 38 17 (.slice (some ⟨w1.heap.size, 0, none⟩) 0 0) 0 [] := ⟨rfl, .inr ⟨w1.heap.size, 0, #[], rfl, hs1, bG, Nat.le_refl _, Nat.zero_le _, rfl, rfl⟩⟩
 obtain ⟨B, hBe⟩ : ∃ B, B = w1.heap.size + 1 := ⟨_, rfl⟩
 rw [← hBe] at bO bN ⊢
 have hBl : W0.heap.size = B + 2 := by omega
 have HSZ := Gv.a0 hBl
 have hBw : w.heap.size ≤ B := by omega
 clear bG hsz hs1 hBe hBl
 obtain ⟨v0, hv0⟩ : ∃ v0 : Value, v0 = .slice (some ⟨w1.heap.size, 0, none⟩) 0 0 := ⟨_, rfl⟩
 rw [← hv0] at bO hR0
 obtain ⟨g0, hg0⟩ : ∃ g0, g0 = w1.heap.size := ⟨_, rfl⟩
 rw [← hg0]
 clear hv0 hg0
 refine wpIn_rangeFunc_ownH rfl (by omega) (gf := 81) (lb := #[.pointer (some ⟨B + 1, 0, none⟩)]) rfl trivial (enters_of Try.func81 (by kernel_rfl) rfl)
  (back_stops Fence.wide 3 trivial rfl (by omega) (B + 1) c0 A0 l0 (by omega) w HC.out W0 bN hB0) (fun h k => h.trans k)
  (fun W l o o' hl ho hoc how => ⟨belowK_b (by have := HSZ.out; omega) W l o o' hl ho hoc how, World.putObj_heap_other (by have := HSZ.out; omega)⟩) (Below.refl _ _) (fun _ => rfl)
  (fun pre W => ((∃ v, Boxed W B 44 v ∧ W.ownsRow w.heap.size 38 17 v (got pre).length ((got pre).flatMap cz) ∧ True) ∧ Boxed W (B + 1) 44 (.slice A0 l0.length c0)) ∧ Below w.heap.size w W)
  (fun _ _ _ => False)
  (OwnFrom.and (OwnFrom.and (Own.from (holdsRow_own w.heap.size B 44 38 17 (fun pre => (got pre).length) (fun pre => (got pre).flatMap cz) (fun _ _ => True)) _) (Own.from (boxed_own (B + 1) 44 (fun _ => .slice A0 l0.length c0)) _)) (ownFrom_below (Nat.le_refl _) (by have := HSZ.out; omega)))
  (fun _ _ _ _ _ hs _ _ => hs)
  ⟨⟨⟨v0, bO, hR0, trivial⟩, bN⟩, hB0⟩
  (fun x a' W => ∃ Bx, B + 1 < Bx ∧ W.heap[Bx]? = some (.cells (cz x.2).toArray 38 (0, 0)) ∧ a' = { tmps := #[.slice A0 l0.length c0, undef, .slice none 0 0, .pointer (some ⟨B, 0, none⟩), undef, .pointer (some ⟨Bx, 0, none⟩), .slice A0 l0.length c0, .bool true, .bool false, .slice (some ⟨g0, 0, none⟩) 0 0, .slice A0 l0.length c0, .func (.func 81) #[] #[.pointer (some ⟨B + 1, 0, none⟩)], .int .i64 x.1, .agg (cz x.2).toArray, undef, undef, undef, undef, undef, undef, undef, undef, undef, undef, undef, undef, undef, undef, undef, undef, undef, undef, undef, undef], defers := [] })
  (fun x a' => ?hAx) ?assign ?body ?done ?stop
 case hAx =>
  rintro s X Y row ⟨Bx, h1, h2, h3⟩ hg hr
  refine ⟨Bx, h1, (hg.block Bx (blk_lt h2) (fun e => ?_)).trans h2, h3⟩
  obtain ⟨_, o, ho, hc⟩ := hr Bx e.symm
  rw [h2] at ho
  cases ho
  cases hc
 case assign =>
  rintro l pre x W K ⟨⟨⟨v, hv, hrow, _⟩, hbs⟩, hB⟩ hK
  simp only [enc2, List.zip_toArray, List.zip_cons_cons, List.zip_nil_right, List.zip_nil_left, List.foldl_toArray, List.foldl_toArray', List.foldl_cons, List.foldl_nil, List.setIfInBounds_toArray, List.set_cons_succ, List.set_cons_zero]
  have hbn := heap_alloc_new W (.cells #[.int .i64 0, .int .i64 0, .int .i64 0, .int .i64 0, .int .i64 0, .int .i64 0, .int .i64 0, .int .i64 0, .int .i64 0, .int .i64 0, .int .i64 0, .int .i64 0, .int .i64 0, .int .i64 0, .int .i64 0, .int .i64 0, .int .i64 0] 38)
  gi_wp2_with (first | ((with_reducible refine in_gate_alloc (t := 38) rfl ?_); refine in_alloc (cells := #[.int .i64 0, .int .i64 0, .int .i64 0, .int .i64 0, .int .i64 0, .int .i64 0, .int .i64 0, .int .i64 0, .int .i64 0, .int .i64 0, .int .i64 0, .int .i64 0, .int .i64 0, .int .i64 0, .int .i64 0, .int .i64 0, .int .i64 0]) rfl rfl (by kernel_rfl) ?_) | ((with_reducible refine in_gate_store (t := 38) rfl ?_); refine in_store (cells := (cz x.2).toArray) rfl rfl rfl rfl rfl hbn (by kernel_rfl) rfl (cz_one x.2) ?_; intro w2 hb2 hg2))
  have hlt := hbs.lt
  have hg1 := World.grownBy_alloc W (.cells #[.int .i64 0, .int .i64 0, .int .i64 0, .int .i64 0, .int .i64 0, .int .i64 0, .int .i64 0, .int .i64 0, .int .i64 0, .int .i64 0, .int .i64 0, .int .i64 0, .int .i64 0, .int .i64 0, .int .i64 0, .int .i64 0, .int .i64 0] 38) none
  have hsw := hB.size
  have hko : KeepsOthers W w2 := (KeepsOthers.alloc W _).trans (KeepsOthers.of_grownBy hg2 (fun j o e ho => by cases e; rw [hbn] at ho; cases ho; rfl))
  have hnl : Below w.heap.size W w2 := ((Below.refl _ W).alloc hsw _).grown hg2 (by simp; omega) (fun k e => by cases e; exact hsw)
  have hb1 : Boxed w2 (B + 1) 44 (.slice A0 l0.length c0) := (hbs.alloc _).kept hg2 (fun e => by injection e with e; omega)
  refine hK _ _ (hko.from _) ⟨hnl, hb1.trans hbs.symm⟩ ⟨⟨⟨v, (hv.alloc _).kept hg2 (fun e => by injection e with e; have := hv.lt; omega), (hrow.alloc _).kept hg2 ?_, trivial⟩, hb1⟩, hB.trans hnl⟩ ⟨_, hlt, hb2, rfl⟩
  rcases hrow.2 with ⟨rfl, _⟩ | ⟨g, cap, cur, rfl, _, hgb, _⟩
  ·exact .inl rfl
  ·refine .inr fun e => ?_
   have e' : g = W.heap.size := by simpa [Value.ownBlock] using e
   have := blk_lt hgb
   omega
 case body =>
  rintro l pre x a' W hl hr ⟨⟨⟨v, hv, hrow, _⟩, hbs⟩, hB⟩ ⟨Bx, hBx, bX, rfl⟩ hlt
  obtain ⟨ix, f0, ⟨⟨a0, a1, a2, a3, a4⟩, a5⟩, ⟨⟨b0, b1, b2, b3, b4⟩, b5⟩, f3, f4, f5, f6⟩ := x
  have hc := hv.cell
  have hcx : W.cell? ⟨Bx, 0, none⟩ = some (.int .i64 f0) := (blk_cell bX 0).trans rfl
  have HX : Aside0 (Gv.CA W ⟨Bx, 1, none⟩ 0 [.int .i64 a0, .int .i64 a1, .int .i64 a2, .int .i64 a3, .int .i64 a4, .int .i64 a5]) := ⟨Gv.CA_mid bX 1 _ 0 (fun j u hj => by rcases j with _ | _ | _ | _ | _ | _ | j <;> first | exact hj | (simp at hj))⟩
  have HY : Aside0 (Gv.CA W ⟨Bx, 7, none⟩ 0 [.int .i64 b0, .int .i64 b1, .int .i64 b2, .int .i64 b3, .int .i64 b4, .int .i64 b5]) := ⟨Gv.CA_mid bX 7 _ 0 (fun j u hj => by rcases j with _ | _ | _ | _ | _ | _ | j <;> first | exact hj | (simp at hj))⟩
  have hpl := got_len pre
  have hszW := hB.size
  clear hr bX
  by_cases h2 : f0 = 2
  ·subst h2
   have hh : one (⟨2, ⟨⟨a0, a1, a2, a3, a4⟩, a5⟩, ⟨⟨b0, b1, b2, b3, b4⟩, b5⟩, f3, f4, f5, f6⟩ : S38) = some (⟨3, ⟨⟨b0, b1, b2, b3, b4⟩, b5⟩, ⟨⟨a0, a1, a2, a3, a4⟩, a5⟩, 0, 0, 0, 0⟩ : S38) := rfl
   have HG := Gv.a0 (got_hit pre (x := (ix, _)) hh)
   clear hh
   gi_wp2_with (first | ((with_reducible refine in_gate_load (t := 29) rfl ?_); refine in_load (cs := [.int .i64 b0, .int .i64 b1, .int .i64 b2, .int .i64 b3, .int .i64 b4, .int .i64 b5]) rfl rfl rfl HY.out Try.underlying29 rfl (by kernel_rfl) ?_) | ((with_reducible refine in_gate_load (t := 29) rfl ?_); refine in_load (cs := [.int .i64 a0, .int .i64 a1, .int .i64 a2, .int .i64 a3, .int .i64 a4, .int .i64 a5]) rfl rfl rfl HX.out Try.underlying29 rfl (by kernel_rfl) ?_) | (gi_at_builtin; refine wpListIn_append_own _ rfl _ _ 44 rfl w.heap.size 38 i0 _ 17 136 Try.underlying44 hi hz0 hz1 hz2 rfl (by decide) _ _ _ rfl (hrow.alloc _) ⟨W.heap.size, 0, none⟩ 1 1 [.int .i64 3, .int .i64 b0, .int .i64 b1, .int .i64 b2, .int .i64 b3, .int .i64 b4, .int .i64 b5, .int .i64 a0, .int .i64 a1, .int .i64 a2, .int .i64 a3, .int .i64 a4, .int .i64 a5, .int .i64 0, .int .i64 0, .int .i64 0, .int .i64 0] rfl rfl (cells_new _ _ _) (by simp; and_intros <;> rfl) (by unfold maxLen; omega) (by omega) (by simp; omega) ?_; intro v' w2 hown' hgrow _; obtain ⟨g', cap', rfl⟩ := ownsRow_succ hown'; obtain ⟨hv1, hv2, hr2, hk2, hb2⟩ := hv.appended (by decide) hrow hszW (by omega) hown' hgrow; have hc1 := hv1.cell; have hf1 := hv1.frozen; have hbs2 := ((hbs.alloc _).kept hgrow (hbs.not_row (by decide) hrow)).other (B' := B) (by omega) (.slice (some ⟨g', 0, none⟩) ((got pre).length + 1) cap')))
   refine ⟨hk2.from _, ⟨hb2, hbs2.trans hbs.symm⟩, ⟨⟨_, hv2, ?_, trivial⟩, hbs2⟩, hB.trans hb2⟩
   rw [HG.out, List.flatMap_append, List.length_append]
   exact hr2
  by_cases h3 : f0 = 3
  ·subst h3
   have hh : one (⟨3, ⟨⟨a0, a1, a2, a3, a4⟩, a5⟩, ⟨⟨b0, b1, b2, b3, b4⟩, b5⟩, f3, f4, f5, f6⟩ : S38) = some (⟨2, ⟨⟨b0, b1, b2, b3, b4⟩, b5⟩, ⟨⟨a0, a1, a2, a3, a4⟩, a5⟩, 0, 0, 0, 0⟩ : S38) := rfl
   have HG := Gv.a0 (got_hit pre (x := (ix, _)) hh)
   clear hh
   gi_wp2_with (first | ((with_reducible refine in_gate_load (t := 29) rfl ?_); refine in_load (cs := [.int .i64 b0, .int .i64 b1, .int .i64 b2, .int .i64 b3, .int .i64 b4, .int .i64 b5]) rfl rfl rfl HY.out Try.underlying29 rfl (by kernel_rfl) ?_) | ((with_reducible refine in_gate_load (t := 29) rfl ?_); refine in_load (cs := [.int .i64 a0, .int .i64 a1, .int .i64 a2, .int .i64 a3, .int .i64 a4, .int .i64 a5]) rfl rfl rfl HX.out Try.underlying29 rfl (by kernel_rfl) ?_) | (gi_at_builtin; refine wpListIn_append_own _ rfl _ _ 44 rfl w.heap.size 38 i0 _ 17 136 Try.underlying44 hi hz0 hz1 hz2 rfl (by decide) _ _ _ rfl (hrow.alloc _) ⟨W.heap.size, 0, none⟩ 1 1 [.int .i64 2, .int .i64 b0, .int .i64 b1, .int .i64 b2, .int .i64 b3, .int .i64 b4, .int .i64 b5, .int .i64 a0, .int .i64 a1, .int .i64 a2, .int .i64 a3, .int .i64 a4, .int .i64 a5, .int .i64 0, .int .i64 0, .int .i64 0, .int .i64 0] rfl rfl (cells_new _ _ _) (by simp; and_intros <;> rfl) (by unfold maxLen; omega) (by omega) (by simp; omega) ?_; intro v' w2 hown' hgrow _; obtain ⟨g', cap', rfl⟩ := ownsRow_succ hown'; obtain ⟨hv1, hv2, hr2, hk2, hb2⟩ := hv.appended (by decide) hrow hszW (by omega) hown' hgrow; have hc1 := hv1.cell; have hf1 := hv1.frozen; have hbs2 := ((hbs.alloc _).kept hgrow (hbs.not_row (by decide) hrow)).other (B' := B) (by omega) (.slice (some ⟨g', 0, none⟩) ((got pre).length + 1) cap')))
   refine ⟨hk2.from _, ⟨hb2, hbs2.trans hbs.symm⟩, ⟨⟨_, hv2, ?_, trivial⟩, hbs2⟩, hB.trans hb2⟩
   rw [HG.out, List.flatMap_append, List.length_append]
   exact hr2
  have hm : one (⟨f0, ⟨⟨a0, a1, a2, a3, a4⟩, a5⟩, ⟨⟨b0, b1, b2, b3, b4⟩, b5⟩, f3, f4, f5, f6⟩ : S38) = none := by
   unfold one
   rw [if_neg h2, if_neg h3]
  have HG := Gv.a0 (got_miss pre (x := (ix, _)) hm)
  clear hm
  have e2 : (f0 == 2) = false := by simp [h2]
  have e3 : (f0 == 3) = false := by simp [h3]
  gi_wp2
  exact ⟨KeepsFrom.refl _ _, Kp.refl _ _ _, ⟨⟨v, hv, by rw [HG.out]; exact hrow, trivial⟩, hbs⟩, hB⟩
 case done =>
  rintro D ys W hD hS ⟨⟨⟨v, hv, hrow, _⟩, hbs⟩, hB⟩ hK
  have hc := hv.cell
  have HG : Aside0 (got ys = bk l0) := ⟨by unfold got bk; rw [hS]⟩
  clear hS
  gi_wp2
  refine ⟨by simp, .inl ⟨_, _, rfl, run_takeDeferred hK, ?_⟩⟩
  exact ⟨_, results_tmp rfl _ _ _, v, rfl, by rw [← HG.out]; exact ownsRow_putObj hrow _ hK rfl, hB.trans (belowK_b (w := w) (Nat.le_refl _) W D _ _ (by have := HSZ.out; omega) hK rfl rfl)⟩
 case stop =>
  rintro D c pre W _ _ h _
  exact h.elim
end Bk
set_option maxHeartbeats 8000000 in
set_option maxRecDepth 100000 in
theorem impl_BackChain.calls (k : Nat) (A0 : Option Addr) (c0 : Nat) (l0 : List (S38)) (r : List (S38)) (w : World) (hr0 : Kd.C k38 w A0 l0.length l0) (hc0 : l0.length ≤ c0) (h : impl_BackChain.f k l0 = some r) :
  Calls Try.prog 28 #[.slice A0 l0.length c0] w fun e w' => ∃ v0_ : Value, e = .returned (v0_) ∧ Kd.R k38 38 w' w.heap.size (fun _ => True) v0_ r ∧ Below w.heap.size w w' := by
 unfold impl_BackChain.f at h
 by_cases hl : l0.length ≤ 1048576
 rotate_left
 ·rw [if_neg hl] at h
  cases h
 rw [if_pos hl] at h
 obtain ⟨b, h1, h⟩ := Option.bind_eq_some_iff.mp h
 obtain rfl := Option.some.inj h
 clear h
 cases b with
 | true =>
  rw [if_pos rfl]
  refine (callsIn_wide.1 (Bk.caller A0 c0 l0 w hr0 hl (impl_ChainOk.calls k A0 c0 l0 true w hr0 hc0 h1))).mono ?_
  rintro e W' ⟨v, rfl, hown, hb⟩
  exact ⟨v, rfl, ⟨fun _ _ => trivial, _, hown, Bk.reps_flat _ _ _ _⟩, hb⟩
 | false =>
  rw [if_neg (by decide)]
  have HR0 := Gv.a0 hr0
  have HC0 := Gv.a0 hc0
  have A2 := Gv.a0 h1
  have HB := Gv.a0 (Below.refl w.heap.size w)
  clear hr0 hc0 h1
  go_enter Try.func28, Try.ntmps28
  go_wp2_with (first | ((with_reducible refine gate_callee (f := 19) rfl ?_); refine goesL_ (some 7) rfl rfl Try.func19 (by kernel_rfl) rfl #[.slice A0 l0.length c0] rfl Gv.lm ?_; refine (impl_ChainOk.calls k _ _ l0 false _ (Kd.C_below HR0.out Gv.bw) HC0.out A2.out).mono ?_; rintro e w6 ⟨rfl, hb⟩; refine ⟨_, rfl, ?_⟩; have n0_ := Gv.a0 (below_step Gv.bw hb); clear HB; have HB := n0_; clear n0_ hb))
  go_ret
  exact ⟨_, Gv.rt, by first | exact HO.out | exact Kd.R_nil _ _ _ _ _, Gv.bw⟩

/-! ### laws_markModuleS: function 29 -/
def laws_markModuleS.f (l0 : List (S38)) (a1 : Int) : Option (Int × (List (S38))) := some (Gv.stepN (Gv.stepN Gv.nx 17) l0.length a1, Gv.mkL (fun a : Int => (⟨(Gv.stepN Gv.nx 0 a), (⟨(⟨(Gv.stepN Gv.nx 1 a), (Gv.stepN Gv.nx 2 a), (Gv.stepN Gv.nx 3 a), (Gv.stepN Gv.nx 4 a), (Gv.stepN Gv.nx 5 a)⟩ : S26), (Gv.stepN Gv.nx 6 a)⟩ : S29), (⟨(⟨(Gv.stepN Gv.nx 7 a), (Gv.stepN Gv.nx 8 a), (Gv.stepN Gv.nx 9 a), (Gv.stepN Gv.nx 10 a), (Gv.stepN Gv.nx 11 a)⟩ : S26), (Gv.stepN Gv.nx 12 a)⟩ : S29), (Gv.stepN Gv.nx 13 a), (Gv.stepN Gv.nx 14 a), (Gv.stepN Gv.nx 15 a), (Gv.stepN Gv.nx 16 a)⟩ : S38)) (Gv.stepN Gv.nx 17) l0.length a1)
set_option maxHeartbeats 8000000 in
set_option maxRecDepth 100000 in
theorem laws_markModuleS.calls (P0_ : Nat → Prop) (u9000_ : Value) (l0 : List (S38)) (a1 : Int) (r1 : Int) (r2 : List (S38)) (w0 w : World) (hB : Below w0.heap.size w0 w) (ho0 : Kd.R k38 38 w w0.heap.size P0_ u9000_ l0) (h : laws_markModuleS.f l0 a1 = some (r1, r2)) :
  Calls Try.prog 29 #[u9000_, .int .i64 a1] w fun e w' => e = .returned (.int .i64 r1) ∧ Kd.R k38 38 w' w0.heap.size (fun k_ => (P0_ k_ ∨ w.heap.size ≤ k_)) u9000_ r2 ∧ Below w0.heap.size w0 w' ∧ Kept w w' (fun k_ => P0_ k_) := by
 obtain ⟨rfl, rfl⟩ := Prod.mk.inj (Option.some.inj h)
 clear h
 obtain ⟨hok, inner, ⟨hlen, ho⟩, hrep⟩ := ho0
 rcases ho with ⟨rfl, hz⟩ | ⟨g, cap, cur, rfl, hbase, hg, hnc, hcm, hsz, htk⟩
 ·have hl : l0 = [] := List.length_eq_zero_iff.1 hz
  subst hl
  have HB := Gv.a0 hB
  clear hrep hok hlen hB
  go_enter Try.func29, Try.ntmps29
  go_wp2
  go_loopg [1, 5] 0 (fun gg s1 s5 wr => s1 = .int .i64 a1 ∧ s5 = .int .i64 0 ∧ wr = w)
  case atStart => exact ⟨rfl, rfl, rfl⟩
  case round =>
   obtain ⟨rfl, rfl, rfl⟩ := hrel
   go_wp2_with fail
   go_ret
   exact ⟨rfl, Kd.R_nil _ _ _ _ _, HB.out, Kept.refl _ _⟩
 ·have hS : l0.length * 17 ≤ cap * 17 := Nat.mul_le_mul_right _ hnc
  have hN : inner.length = l0.length * 17 := hlen
  have hP : P0_ g := hok g rfl
  have hle : w0.heap.size ≤ g := hbase
  have hcap : cap ≤ 9223372036854775807 := by
   unfold maxLen at hcm
   omega
  have HM0 := Gv.a0 (show Gv.MK w0 w g 38 (l0.length * 17) (cap * 17) inner w [] 0 from ⟨rfl, ⟨cur, hg, hsz, htk⟩, fun _ _ => rfl, hB, Nat.le_refl _⟩)
  have HF := Gv.a0 (And.intro hnc (And.intro hcm hP))
  clear hok hlen hrep hbase hg hcm hsz htk hB hP hnc
  go_enter Try.func29, Try.ntmps29
  go_wp2
  go_loopg [1, 5] l0.length (fun gg s1 s5 wr => ∃ kk : Nat, kk ≤ l0.length ∧ l0.length - kk ≤ gg ∧ s1 = .int .i64 (Gv.stepN (Gv.stepN Gv.nx 17) kk a1) ∧ s5 = .int .i64 kk ∧ Aside0 (Gv.MK w0 w g 38 (l0.length * 17) (cap * 17) inner wr ((Gv.mkL (fun a : Int => (⟨(Gv.stepN Gv.nx 0 a), (⟨(⟨(Gv.stepN Gv.nx 1 a), (Gv.stepN Gv.nx 2 a), (Gv.stepN Gv.nx 3 a), (Gv.stepN Gv.nx 4 a), (Gv.stepN Gv.nx 5 a)⟩ : S26), (Gv.stepN Gv.nx 6 a)⟩ : S29), (⟨(⟨(Gv.stepN Gv.nx 7 a), (Gv.stepN Gv.nx 8 a), (Gv.stepN Gv.nx 9 a), (Gv.stepN Gv.nx 10 a), (Gv.stepN Gv.nx 11 a)⟩ : S26), (Gv.stepN Gv.nx 12 a)⟩ : S29), (Gv.stepN Gv.nx 13 a), (Gv.stepN Gv.nx 14 a), (Gv.stepN Gv.nx 15 a), (Gv.stepN Gv.nx 16 a)⟩ : S38)) (Gv.stepN Gv.nx 17) kk a1).flatMap (fun x : S38 => ([.int .i64 x.f0, .int .i64 x.f1.f0.f0, .int .i64 x.f1.f0.f1, .int .i64 x.f1.f0.f2, .int .i64 x.f1.f0.f3, .int .i64 x.f1.f0.f4, .int .i64 x.f1.f1, .int .i64 x.f2.f0.f0, .int .i64 x.f2.f0.f1, .int .i64 x.f2.f0.f2, .int .i64 x.f2.f0.f3, .int .i64 x.f2.f0.f4, .int .i64 x.f2.f1, .int .i64 x.f3, .int .i64 x.f4, .int .i64 x.f5, .int .i64 x.f6] : List Value))) (kk * 17)))
  case atStart => exact ⟨0, Nat.zero_le _, by omega, rfl, rfl, ⟨HM0.out⟩⟩
  case round =>
   obtain ⟨kk, hkk, hgg, rfl, rfl, HM⟩ := hrel
   obtain ⟨x_, hx_⟩ : ∃ x_, x_ = Gv.stepN (Gv.stepN Gv.nx 17) kk a1 := ⟨_, rfl⟩
   rw [← hx_]
   obtain ⟨done, hd_⟩ : ∃ d_, d_ = (Gv.mkL (fun a : Int => (⟨(Gv.stepN Gv.nx 0 a), (⟨(⟨(Gv.stepN Gv.nx 1 a), (Gv.stepN Gv.nx 2 a), (Gv.stepN Gv.nx 3 a), (Gv.stepN Gv.nx 4 a), (Gv.stepN Gv.nx 5 a)⟩ : S26), (Gv.stepN Gv.nx 6 a)⟩ : S29), (⟨(⟨(Gv.stepN Gv.nx 7 a), (Gv.stepN Gv.nx 8 a), (Gv.stepN Gv.nx 9 a), (Gv.stepN Gv.nx 10 a), (Gv.stepN Gv.nx 11 a)⟩ : S26), (Gv.stepN Gv.nx 12 a)⟩ : S29), (Gv.stepN Gv.nx 13 a), (Gv.stepN Gv.nx 14 a), (Gv.stepN Gv.nx 15 a), (Gv.stepN Gv.nx 16 a)⟩ : S38)) (Gv.stepN Gv.nx 17) kk a1).flatMap (fun x : S38 => ([.int .i64 x.f0, .int .i64 x.f1.f0.f0, .int .i64 x.f1.f0.f1, .int .i64 x.f1.f0.f2, .int .i64 x.f1.f0.f3, .int .i64 x.f1.f0.f4, .int .i64 x.f1.f1, .int .i64 x.f2.f0.f0, .int .i64 x.f2.f0.f1, .int .i64 x.f2.f0.f2, .int .i64 x.f2.f0.f3, .int .i64 x.f2.f0.f4, .int .i64 x.f2.f1, .int .i64 x.f3, .int .i64 x.f4, .int .i64 x.f5, .int .i64 x.f6] : List Value)) := ⟨_, rfl⟩
   rw [← hd_] at HM
   have HX := Gv.a0 hx_
   have HD := Gv.a0 hd_
   clear hx_ hd_
   by_cases hlt : kk < l0.length
   ·have hltz : (kk : Int) < (l0.length : Int) := by omega
    have hk0 : 0 ≤ (kk : Int) := by omega
    go_wp2_with (first | ((with_reducible refine gate_store (t := 3) rfl ?_); refine Gv.mark_event rfl rfl rfl rfl rfl (.inl ⟨_, _, rfl⟩) (by kernel_rfl) HM.out hS hN (by omega) (by omega) hle ?_; intro wm hM; have HM' := Gv.a0 hM; clear hM HM; have HM := HM'; clear HM'))
    go_roundg (l0.length - (kk + 1))
    case measure => omega
    case rel =>
     refine ⟨kk + 1, by omega, by omega, by rw [Gv.stepN, ← HX.out]; rfl, by go_num, ⟨?_⟩⟩
     have hm := HM.out
     rw [HD.out] at hm
     rw [Gv.mkL, List.flatMap_append, ← HX.out, Nat.succ_mul]
     simp only [List.append_assoc, List.cons_append, List.nil_append] at hm
     exact hm
   ·have hk : kk = l0.length := by omega
    have hltz : ¬ (kk : Int) < (l0.length : Int) := by omega
    have HK := Gv.a0 hk
    clear hk
    go_wp2_with fail
    go_ret
    obtain ⟨h1, ⟨cur, h2, h3, h4⟩, h5, h6, h7⟩ := HM.out
    have hk := HK.out
    subst hk
    rw [HX.out]
    rw [HD.out, List.drop_eq_nil_of_le (by omega), List.append_nil] at h4
    refine ⟨rfl, ⟨fun k hk => ?_, _, ⟨?_, .inr ⟨g, cap, cur, ?_, hle, h2, ?_, HF.out.2.1, h3, ?_⟩⟩, Gv.mkL_reps _ _ _ (fun x => k38_mkM _ _ _ x) (fun _ => rfl) _⟩, h6, h7, fun i hi hni => h5 i (fun e => hni (by rw [e]; exact HF.out.2.2))⟩
    ·have : g = k := by simpa [Value.ownBlock] using hk
     subst this
     exact .inl HF.out.2.2
    ·rw [← HD.out, h1, Gv.mkL_length]; rfl
    ·rw [Gv.mkL_length]
    ·rw [Gv.mkL_length]; exact HF.out.1
    ·rw [Gv.mkL_length]; exact h4

/-! ### laws_heldModuleS: function 30 -/
def laws_heldModuleS.f (l0 : List (S38)) (a1 : Int) : Option (Int) := Gv.heldL (fun (x : S38) (a : Int) => decide (x.f0 = Gv.stepN Gv.nx 0 a) && (decide (x.f1.f0.f0 = Gv.stepN Gv.nx 1 a) && (decide (x.f1.f0.f1 = Gv.stepN Gv.nx 2 a) && (decide (x.f1.f0.f2 = Gv.stepN Gv.nx 3 a) && (decide (x.f1.f0.f3 = Gv.stepN Gv.nx 4 a) && (decide (x.f1.f0.f4 = Gv.stepN Gv.nx 5 a) && (decide (x.f1.f1 = Gv.stepN Gv.nx 6 a) && (decide (x.f2.f0.f0 = Gv.stepN Gv.nx 7 a) && (decide (x.f2.f0.f1 = Gv.stepN Gv.nx 8 a) && (decide (x.f2.f0.f2 = Gv.stepN Gv.nx 9 a) && (decide (x.f2.f0.f3 = Gv.stepN Gv.nx 10 a) && (decide (x.f2.f0.f4 = Gv.stepN Gv.nx 11 a) && (decide (x.f2.f1 = Gv.stepN Gv.nx 12 a) && (decide (x.f3 = Gv.stepN Gv.nx 13 a) && (decide (x.f4 = Gv.stepN Gv.nx 14 a) && (decide (x.f5 = Gv.stepN Gv.nx 15 a) && (decide (x.f6 = Gv.stepN Gv.nx 16 a)))))))))))))))))) (Gv.stepN Gv.nx 17) l0 a1
set_option maxHeartbeats 8000000 in
set_option maxRecDepth 100000 in
theorem laws_heldModuleS.calls (A0 : Option Addr) (c0 : Nat) (l0 : List (S38)) (a1 : Int) (r : Int) (w : World) (hr0 : Kd.C k38 w A0 l0.length l0) (hc0 : l0.length ≤ c0) (h : laws_heldModuleS.f l0 a1 = some r) :
  Calls Try.prog 30 #[.slice A0 l0.length c0, .int .i64 a1] w fun e w' => e = .returned (.int .i64 r) ∧ Below w.heap.size w w' := by
 have hlm := hr0.2.1
 have HR0 := Gv.a0 hr0
 have H0 := Gv.a0 h
 clear hr0 h hc0
 go_enter Try.func30, Try.ntmps30
 go_wp2
 go_loopg [1, 5] l0.length (fun gg s1 s5 wr => ∃ (kk : Nat) (x_ : Int), kk ≤ l0.length ∧ l0.length - kk ≤ gg ∧ s1 = .int .i64 x_ ∧ s5 = .int .i64 kk ∧ Aside0 (Gv.heldL (fun (x : S38) (a : Int) => decide (x.f0 = Gv.stepN Gv.nx 0 a) && (decide (x.f1.f0.f0 = Gv.stepN Gv.nx 1 a) && (decide (x.f1.f0.f1 = Gv.stepN Gv.nx 2 a) && (decide (x.f1.f0.f2 = Gv.stepN Gv.nx 3 a) && (decide (x.f1.f0.f3 = Gv.stepN Gv.nx 4 a) && (decide (x.f1.f0.f4 = Gv.stepN Gv.nx 5 a) && (decide (x.f1.f1 = Gv.stepN Gv.nx 6 a) && (decide (x.f2.f0.f0 = Gv.stepN Gv.nx 7 a) && (decide (x.f2.f0.f1 = Gv.stepN Gv.nx 8 a) && (decide (x.f2.f0.f2 = Gv.stepN Gv.nx 9 a) && (decide (x.f2.f0.f3 = Gv.stepN Gv.nx 10 a) && (decide (x.f2.f0.f4 = Gv.stepN Gv.nx 11 a) && (decide (x.f2.f1 = Gv.stepN Gv.nx 12 a) && (decide (x.f3 = Gv.stepN Gv.nx 13 a) && (decide (x.f4 = Gv.stepN Gv.nx 14 a) && (decide (x.f5 = Gv.stepN Gv.nx 15 a) && (decide (x.f6 = Gv.stepN Gv.nx 16 a)))))))))))))))))) (Gv.stepN Gv.nx 17) (l0.drop kk) x_ = some r) ∧ Aside0 (Drawn0 w wr))
 case atStart => exact ⟨0, a1, Nat.zero_le _, by omega, rfl, rfl, ⟨H0.out⟩, ⟨Drawn0.refl w⟩⟩
 case round =>
  obtain ⟨kk, z0, hkk, hg, rfl, rfl, HN, HD⟩ := hrel
  by_cases hlt : kk < l0.length
  ·have hltz : (kk : Int) < (l0.length : Int) := by omega
   have hk0 : 0 ≤ (kk : Int) := by omega
   obtain ⟨ad, e1, hx0, hx1, hx2, hx3, hx4, hx5, hx6, hx7, hx8, hx9, hx10, hx11, hx12, hx13, hx14, hx15, hx16⟩ := at_T38 (Kd.C_below HR0.out HD.out.below) (kk : Int) hk0 hltz
   cases e1
   obtain ⟨y_, hy_⟩ : ∃ y_, y_ = rd_T38 l0 kk := ⟨_, rfl⟩
   rw [← hy_, Int.toNat_natCast] at hx0 hx1 hx2 hx3 hx4 hx5 hx6 hx7 hx8 hx9 hx10 hx11 hx12 hx13 hx14 hx15 hx16
   have hN := HN.out
   have hget : l0.drop kk = y_ :: l0.drop (kk + 1) := by
    rw [hy_, List.drop_eq_getElem_cons hlt]
    congr 1
    unfold rd_T38
    rw [Int.toNat_natCast, List.getD_eq_getElem?_getD, List.getElem?_eq_getElem hlt]
    rfl
   rw [hget, Gv.heldL] at hN
   clear hget hy_ HN
   by_cases hq : (fun (x : S38) (a : Int) => decide (x.f0 = Gv.stepN Gv.nx 0 a) && (decide (x.f1.f0.f0 = Gv.stepN Gv.nx 1 a) && (decide (x.f1.f0.f1 = Gv.stepN Gv.nx 2 a) && (decide (x.f1.f0.f2 = Gv.stepN Gv.nx 3 a) && (decide (x.f1.f0.f3 = Gv.stepN Gv.nx 4 a) && (decide (x.f1.f0.f4 = Gv.stepN Gv.nx 5 a) && (decide (x.f1.f1 = Gv.stepN Gv.nx 6 a) && (decide (x.f2.f0.f0 = Gv.stepN Gv.nx 7 a) && (decide (x.f2.f0.f1 = Gv.stepN Gv.nx 8 a) && (decide (x.f2.f0.f2 = Gv.stepN Gv.nx 9 a) && (decide (x.f2.f0.f3 = Gv.stepN Gv.nx 10 a) && (decide (x.f2.f0.f4 = Gv.stepN Gv.nx 11 a) && (decide (x.f2.f1 = Gv.stepN Gv.nx 12 a) && (decide (x.f3 = Gv.stepN Gv.nx 13 a) && (decide (x.f4 = Gv.stepN Gv.nx 14 a) && (decide (x.f5 = Gv.stepN Gv.nx 15 a) && (decide (x.f6 = Gv.stepN Gv.nx 16 a)))))))))))))))))) y_ z0 = true
   ·rw [if_pos hq] at hN
    simp only [Bool.and_eq_true, decide_eq_true_eq] at hq
    obtain ⟨q0, q1, q2, q3, q4, q5, q6, q7, q8, q9, q10, q11, q12, q13, q14, q15, q16⟩ := hq
    have e0 : Gv.stepN Gv.nx 0 z0 = z0 := rfl
    obtain ⟨z1, hw1⟩ : ∃ z_, IntKind.i64.wrap (z0 + 1) = z_ := ⟨_, rfl⟩
    have e1 : Gv.stepN Gv.nx 1 z0 = z1 := by rw [Gv.stepN, e0]; first | exact hw1 | exact (i64_w _).symm.trans hw1
    obtain ⟨z2, hw2⟩ : ∃ z_, IntKind.i64.wrap (z1 + 1) = z_ := ⟨_, rfl⟩
    have e2 : Gv.stepN Gv.nx 2 z0 = z2 := by rw [Gv.stepN, e1]; first | exact hw2 | exact (i64_w _).symm.trans hw2
    obtain ⟨z3, hw3⟩ : ∃ z_, IntKind.i64.wrap (z2 + 1) = z_ := ⟨_, rfl⟩
    have e3 : Gv.stepN Gv.nx 3 z0 = z3 := by rw [Gv.stepN, e2]; first | exact hw3 | exact (i64_w _).symm.trans hw3
    obtain ⟨z4, hw4⟩ : ∃ z_, IntKind.i64.wrap (z3 + 1) = z_ := ⟨_, rfl⟩
    have e4 : Gv.stepN Gv.nx 4 z0 = z4 := by rw [Gv.stepN, e3]; first | exact hw4 | exact (i64_w _).symm.trans hw4
    obtain ⟨z5, hw5⟩ : ∃ z_, IntKind.i64.wrap (z4 + 1) = z_ := ⟨_, rfl⟩
    have e5 : Gv.stepN Gv.nx 5 z0 = z5 := by rw [Gv.stepN, e4]; first | exact hw5 | exact (i64_w _).symm.trans hw5
    obtain ⟨z6, hw6⟩ : ∃ z_, IntKind.i64.wrap (z5 + 1) = z_ := ⟨_, rfl⟩
    have e6 : Gv.stepN Gv.nx 6 z0 = z6 := by rw [Gv.stepN, e5]; first | exact hw6 | exact (i64_w _).symm.trans hw6
    obtain ⟨z7, hw7⟩ : ∃ z_, IntKind.i64.wrap (z6 + 1) = z_ := ⟨_, rfl⟩
    have e7 : Gv.stepN Gv.nx 7 z0 = z7 := by rw [Gv.stepN, e6]; first | exact hw7 | exact (i64_w _).symm.trans hw7
    obtain ⟨z8, hw8⟩ : ∃ z_, IntKind.i64.wrap (z7 + 1) = z_ := ⟨_, rfl⟩
    have e8 : Gv.stepN Gv.nx 8 z0 = z8 := by rw [Gv.stepN, e7]; first | exact hw8 | exact (i64_w _).symm.trans hw8
    obtain ⟨z9, hw9⟩ : ∃ z_, IntKind.i64.wrap (z8 + 1) = z_ := ⟨_, rfl⟩
    have e9 : Gv.stepN Gv.nx 9 z0 = z9 := by rw [Gv.stepN, e8]; first | exact hw9 | exact (i64_w _).symm.trans hw9
    obtain ⟨z10, hw10⟩ : ∃ z_, IntKind.i64.wrap (z9 + 1) = z_ := ⟨_, rfl⟩
    have e10 : Gv.stepN Gv.nx 10 z0 = z10 := by rw [Gv.stepN, e9]; first | exact hw10 | exact (i64_w _).symm.trans hw10
    obtain ⟨z11, hw11⟩ : ∃ z_, IntKind.i64.wrap (z10 + 1) = z_ := ⟨_, rfl⟩
    have e11 : Gv.stepN Gv.nx 11 z0 = z11 := by rw [Gv.stepN, e10]; first | exact hw11 | exact (i64_w _).symm.trans hw11
    obtain ⟨z12, hw12⟩ : ∃ z_, IntKind.i64.wrap (z11 + 1) = z_ := ⟨_, rfl⟩
    have e12 : Gv.stepN Gv.nx 12 z0 = z12 := by rw [Gv.stepN, e11]; first | exact hw12 | exact (i64_w _).symm.trans hw12
    obtain ⟨z13, hw13⟩ : ∃ z_, IntKind.i64.wrap (z12 + 1) = z_ := ⟨_, rfl⟩
    have e13 : Gv.stepN Gv.nx 13 z0 = z13 := by rw [Gv.stepN, e12]; first | exact hw13 | exact (i64_w _).symm.trans hw13
    obtain ⟨z14, hw14⟩ : ∃ z_, IntKind.i64.wrap (z13 + 1) = z_ := ⟨_, rfl⟩
    have e14 : Gv.stepN Gv.nx 14 z0 = z14 := by rw [Gv.stepN, e13]; first | exact hw14 | exact (i64_w _).symm.trans hw14
    obtain ⟨z15, hw15⟩ : ∃ z_, IntKind.i64.wrap (z14 + 1) = z_ := ⟨_, rfl⟩
    have e15 : Gv.stepN Gv.nx 15 z0 = z15 := by rw [Gv.stepN, e14]; first | exact hw15 | exact (i64_w _).symm.trans hw15
    obtain ⟨z16, hw16⟩ : ∃ z_, IntKind.i64.wrap (z15 + 1) = z_ := ⟨_, rfl⟩
    have e16 : Gv.stepN Gv.nx 16 z0 = z16 := by rw [Gv.stepN, e15]; first | exact hw16 | exact (i64_w _).symm.trans hw16
    obtain ⟨z17, hw17⟩ : ∃ z_, IntKind.i64.wrap (z16 + 1) = z_ := ⟨_, rfl⟩
    have e17 : Gv.stepN Gv.nx 17 z0 = z17 := by rw [Gv.stepN, e16]; first | exact hw17 | exact (i64_w _).symm.trans hw17
    rw [q0, e0] at hx0
    rw [q1, e1] at hx1
    rw [q2, e2] at hx2
    rw [q3, e3] at hx3
    rw [q4, e4] at hx4
    rw [q5, e5] at hx5
    rw [q6, e6] at hx6
    rw [q7, e7] at hx7
    rw [q8, e8] at hx8
    rw [q9, e9] at hx9
    rw [q10, e10] at hx10
    rw [q11, e11] at hx11
    rw [q12, e12] at hx12
    rw [q13, e13] at hx13
    rw [q14, e14] at hx14
    rw [q15, e15] at hx15
    rw [q16, e16] at hx16
    rw [e17] at hN
    have HN2 := Gv.a0 hN
    clear hN q0 q1 q2 q3 q4 q5 q6 q7 q8 q9 q10 q11 q12 q13 q14 q15 q16
    go_wp2_with fail
    go_roundg (l0.length - (kk + 1))
    case measure => omega
    case rel => exact ⟨kk + 1, z17, by omega, by omega, by simp [*], by go_num, HN2, HD⟩
   ·rw [if_neg hq] at hN
    cases hN
  ·have hltz : ¬ (kk : Int) < (l0.length : Int) := by omega
   have hN := HN.out
   rw [List.drop_eq_nil_of_le (by omega), Gv.heldL] at hN
   have HN2 := Gv.a0 (Option.some.inj hN)
   clear hN
   go_wp2_with fail
   go_ret
   exact ⟨by rw [← HN2.out]; rfl, by first | exact HD.out | exact HD.out.below⟩

/-! ### laws_FnExactBackChain: function 7 -/
def laws_FnExactBackChain.f (k : Nat) (l0 : List (S35)) : Option (Bool) := (laws_szModuleS.f l0 1048576).bind fun t377 => (if t377 < 0 then (some true) else ((laws_toModuleS.f k l0).bind fun t378 => ((spec_BackChain.f k t378).bind fun t381 => ((laws_toModuleS.f k l0).bind fun t384 => ((impl_BackChain.f k t384).bind fun t387 => ((laws_eqModuleS.f k t387 t381).bind fun t390 => (if t390 = true then ((laws_toModuleS.f k l0).bind fun t391 => ((laws_eqModuleS.f k t384 t391).bind fun t394 => (if t394 = true then ((laws_markModuleS.f t384 1).bind fun bt395 => (if bt395.1 < 0 then (none) else ((laws_eqModuleS.f k t387 t381).bind fun t397 => (if t397 = true then ((laws_markModuleS.f t387 1).bind fun bt398 => ((laws_heldModuleS.f bt398.2 1).bind fun t400 => (if t400 < 0 then (none) else (if t400 = bt398.1 then ((laws_toModuleS.f k l0).bind fun t401 => ((impl_BackChain.f k t401).bind fun t404 => ((laws_eqModuleS.f k t404 t381).bind fun t407 => (if t407 = true then ((laws_heldModuleS.f bt398.2 1).bind fun t408 => (if t408 < 0 then (none) else (if t408 = bt398.1 then (some true) else (none)))) else (none))))) else (none))))) else (none))))) else (none)))) else (none))))))))
theorem laws_FnExactBackChain.mono : ∀ a0 k, LeO (laws_FnExactBackChain.f k a0) (laws_FnExactBackChain.f (k + 1) a0) := by
 intro a0 k
 unfold laws_FnExactBackChain.f
 repeat' first
   | (with_reducible exact impl_BackChain.mono _ _)
   | (with_reducible exact laws_eqModuleS.mono _ _ _)
   | (with_reducible exact laws_toModuleS.mono _ _)
   | (with_reducible exact spec_BackChain.mono _ _)
   | (with_reducible exact LeO.refl _)
   | (with_reducible exact LeO.none _)
   | (with_reducible refine LeO.ite ?_ ?_)
   | (with_reducible refine LeO.bind ?_ (fun _ => ?_))
   | exact impl_BackChain.mono _ _
   | exact laws_eqModuleS.mono _ _ _
   | exact laws_toModuleS.mono _ _
   | exact spec_BackChain.mono _ _
   | exact LeO.none _
   | refine LeO.ite ?_ ?_
   | refine LeO.bind ?_ (fun _ => ?_)
set_option maxHeartbeats 8000000 in
set_option maxRecDepth 100000 in
theorem laws_FnExactBackChain.calls (k : Nat) (A0 : Option Addr) (c0 : Nat) (l0 : List (S35)) (r : Bool) (w : World) (hr0 : Kd.C k35 w A0 l0.length l0) (hc0 : l0.length ≤ c0) (h : laws_FnExactBackChain.f k l0 = some r) :
  Calls Try.prog 7 #[.slice A0 l0.length c0] w fun e w' => e = .returned (.bool r) ∧ Below w.heap.size w w' := by
 have HR0 := Gv.a0 hr0
 have HC0 := Gv.a0 hc0
 clear hr0 hc0
 have HB := Gv.a0 (Below.refl w.heap.size w)
 have H : ((laws_szModuleS.f l0 1048576).bind fun t377 => (if t377 < 0 then (some true) else ((laws_toModuleS.f k l0).bind fun t378 => ((spec_BackChain.f k t378).bind fun t381 => ((laws_toModuleS.f k l0).bind fun t384 => ((impl_BackChain.f k t384).bind fun t387 => ((laws_eqModuleS.f k t387 t381).bind fun t390 => (if t390 = true then ((laws_toModuleS.f k l0).bind fun t391 => ((laws_eqModuleS.f k t384 t391).bind fun t394 => (if t394 = true then ((laws_markModuleS.f t384 1).bind fun bt395 => (if bt395.1 < 0 then (none) else ((laws_eqModuleS.f k t387 t381).bind fun t397 => (if t397 = true then ((laws_markModuleS.f t387 1).bind fun bt398 => ((laws_heldModuleS.f bt398.2 1).bind fun t400 => (if t400 < 0 then (none) else (if t400 = bt398.1 then ((laws_toModuleS.f k l0).bind fun t401 => ((impl_BackChain.f k t401).bind fun t404 => ((laws_eqModuleS.f k t404 t381).bind fun t407 => (if t407 = true then ((laws_heldModuleS.f bt398.2 1).bind fun t408 => (if t408 < 0 then (none) else (if t408 = bt398.1 then (some true) else (none)))) else (none))))) else (none))))) else (none))))) else (none)))) else (none))))))))) = some r := h
 clear h
 replace H := Option.bind_eq_some_iff.mp H
 obtain ⟨t377, A20, H⟩ := H
 replace H : (if t377 < 0 then (some true) else ((laws_toModuleS.f k l0).bind fun t378 => ((spec_BackChain.f k t378).bind fun t381 => ((laws_toModuleS.f k l0).bind fun t384 => ((impl_BackChain.f k t384).bind fun t387 => ((laws_eqModuleS.f k t387 t381).bind fun t390 => (if t390 = true then ((laws_toModuleS.f k l0).bind fun t391 => ((laws_eqModuleS.f k t384 t391).bind fun t394 => (if t394 = true then ((laws_markModuleS.f t384 1).bind fun bt395 => (if bt395.1 < 0 then (none) else ((laws_eqModuleS.f k t387 t381).bind fun t397 => (if t397 = true then ((laws_markModuleS.f t387 1).bind fun bt398 => ((laws_heldModuleS.f bt398.2 1).bind fun t400 => (if t400 < 0 then (none) else (if t400 = bt398.1 then ((laws_toModuleS.f k l0).bind fun t401 => ((impl_BackChain.f k t401).bind fun t404 => ((laws_eqModuleS.f k t404 t381).bind fun t407 => (if t407 = true then ((laws_heldModuleS.f bt398.2 1).bind fun t408 => (if t408 < 0 then (none) else (if t408 = bt398.1 then (some true) else (none)))) else (none))))) else (none))))) else (none))))) else (none)))) else (none)))))))) = some r := H
 have A2 := Gv.a0 A20
 clear A20
 by_cases c3 : t377 < 0
 ·rw [if_pos c3] at H
  have c3b0 : decide (t377 < 0) = true := decide_eq_true c3
  clear c3
  obtain rfl := Option.some.inj H
  go_enter Try.func7, Try.ntmps7
  go_wp2_with (first | ((with_reducible refine gate_callee (f := 16) rfl ?_); refine goesL_ (some 13) rfl rfl Try.func16 (by kernel_rfl) rfl #[.slice A0 l0.length c0, .int .i64 1048576] rfl Gv.lm ?_; (with_reducible refine (laws_szModuleS.calls _ _ l0 1048576 t377 _ ?side1 ?side2 A2.out).mono ?_); (case side1 => repeat (first | exact HR0.out | (with_reducible refine Kd.C_alloc ?_ _) | (with_reducible refine Kd.C_drewN ?_ _) | (with_reducible refine Kd.C_drew ?_))); (case side2 => exact HC0.out); rintro e w' ⟨rfl, ⟨nd, rfl⟩⟩; refine ⟨_, rfl, ?_⟩))
  go_ret
  exact ⟨Gv.rt, Gv.bw⟩
 ·rw [if_neg c3] at H
  have c3b0 : decide (t377 < 0) = false := decide_eq_false c3
  clear c3
  replace H := Option.bind_eq_some_iff.mp H
  obtain ⟨t378, A40, H⟩ := H
  replace H : ((spec_BackChain.f k t378).bind fun t381 => ((laws_toModuleS.f k l0).bind fun t384 => ((impl_BackChain.f k t384).bind fun t387 => ((laws_eqModuleS.f k t387 t381).bind fun t390 => (if t390 = true then ((laws_toModuleS.f k l0).bind fun t391 => ((laws_eqModuleS.f k t384 t391).bind fun t394 => (if t394 = true then ((laws_markModuleS.f t384 1).bind fun bt395 => (if bt395.1 < 0 then (none) else ((laws_eqModuleS.f k t387 t381).bind fun t397 => (if t397 = true then ((laws_markModuleS.f t387 1).bind fun bt398 => ((laws_heldModuleS.f bt398.2 1).bind fun t400 => (if t400 < 0 then (none) else (if t400 = bt398.1 then ((laws_toModuleS.f k l0).bind fun t401 => ((impl_BackChain.f k t401).bind fun t404 => ((laws_eqModuleS.f k t404 t381).bind fun t407 => (if t407 = true then ((laws_heldModuleS.f bt398.2 1).bind fun t408 => (if t408 < 0 then (none) else (if t408 = bt398.1 then (some true) else (none)))) else (none))))) else (none))))) else (none))))) else (none)))) else (none)))))) = some r := H
  have A4 := Gv.a0 A40
  clear A40
  replace H := Option.bind_eq_some_iff.mp H
  obtain ⟨t381, A50, H⟩ := H
  replace H : ((laws_toModuleS.f k l0).bind fun t384 => ((impl_BackChain.f k t384).bind fun t387 => ((laws_eqModuleS.f k t387 t381).bind fun t390 => (if t390 = true then ((laws_toModuleS.f k l0).bind fun t391 => ((laws_eqModuleS.f k t384 t391).bind fun t394 => (if t394 = true then ((laws_markModuleS.f t384 1).bind fun bt395 => (if bt395.1 < 0 then (none) else ((laws_eqModuleS.f k t387 t381).bind fun t397 => (if t397 = true then ((laws_markModuleS.f t387 1).bind fun bt398 => ((laws_heldModuleS.f bt398.2 1).bind fun t400 => (if t400 < 0 then (none) else (if t400 = bt398.1 then ((laws_toModuleS.f k l0).bind fun t401 => ((impl_BackChain.f k t401).bind fun t404 => ((laws_eqModuleS.f k t404 t381).bind fun t407 => (if t407 = true then ((laws_heldModuleS.f bt398.2 1).bind fun t408 => (if t408 < 0 then (none) else (if t408 = bt398.1 then (some true) else (none)))) else (none))))) else (none))))) else (none))))) else (none)))) else (none))))) = some r := H
  have A5 := Gv.a0 A50
  clear A50
  replace H := Option.bind_eq_some_iff.mp H
  obtain ⟨t384, A60, H⟩ := H
  replace H : ((impl_BackChain.f k t384).bind fun t387 => ((laws_eqModuleS.f k t387 t381).bind fun t390 => (if t390 = true then ((laws_toModuleS.f k l0).bind fun t391 => ((laws_eqModuleS.f k t384 t391).bind fun t394 => (if t394 = true then ((laws_markModuleS.f t384 1).bind fun bt395 => (if bt395.1 < 0 then (none) else ((laws_eqModuleS.f k t387 t381).bind fun t397 => (if t397 = true then ((laws_markModuleS.f t387 1).bind fun bt398 => ((laws_heldModuleS.f bt398.2 1).bind fun t400 => (if t400 < 0 then (none) else (if t400 = bt398.1 then ((laws_toModuleS.f k l0).bind fun t401 => ((impl_BackChain.f k t401).bind fun t404 => ((laws_eqModuleS.f k t404 t381).bind fun t407 => (if t407 = true then ((laws_heldModuleS.f bt398.2 1).bind fun t408 => (if t408 < 0 then (none) else (if t408 = bt398.1 then (some true) else (none)))) else (none))))) else (none))))) else (none))))) else (none)))) else (none)))) = some r := H
  have A6 := Gv.a0 A60
  clear A60
  replace H := Option.bind_eq_some_iff.mp H
  obtain ⟨t387, A70, H⟩ := H
  replace H : ((laws_eqModuleS.f k t387 t381).bind fun t390 => (if t390 = true then ((laws_toModuleS.f k l0).bind fun t391 => ((laws_eqModuleS.f k t384 t391).bind fun t394 => (if t394 = true then ((laws_markModuleS.f t384 1).bind fun bt395 => (if bt395.1 < 0 then (none) else ((laws_eqModuleS.f k t387 t381).bind fun t397 => (if t397 = true then ((laws_markModuleS.f t387 1).bind fun bt398 => ((laws_heldModuleS.f bt398.2 1).bind fun t400 => (if t400 < 0 then (none) else (if t400 = bt398.1 then ((laws_toModuleS.f k l0).bind fun t401 => ((impl_BackChain.f k t401).bind fun t404 => ((laws_eqModuleS.f k t404 t381).bind fun t407 => (if t407 = true then ((laws_heldModuleS.f bt398.2 1).bind fun t408 => (if t408 < 0 then (none) else (if t408 = bt398.1 then (some true) else (none)))) else (none))))) else (none))))) else (none))))) else (none)))) else (none))) = some r := H
  have A7 := Gv.a0 A70
  clear A70
  replace H := Option.bind_eq_some_iff.mp H
  obtain ⟨t390, A80, H⟩ := H
  replace H : (if t390 = true then ((laws_toModuleS.f k l0).bind fun t391 => ((laws_eqModuleS.f k t384 t391).bind fun t394 => (if t394 = true then ((laws_markModuleS.f t384 1).bind fun bt395 => (if bt395.1 < 0 then (none) else ((laws_eqModuleS.f k t387 t381).bind fun t397 => (if t397 = true then ((laws_markModuleS.f t387 1).bind fun bt398 => ((laws_heldModuleS.f bt398.2 1).bind fun t400 => (if t400 < 0 then (none) else (if t400 = bt398.1 then ((laws_toModuleS.f k l0).bind fun t401 => ((impl_BackChain.f k t401).bind fun t404 => ((laws_eqModuleS.f k t404 t381).bind fun t407 => (if t407 = true then ((laws_heldModuleS.f bt398.2 1).bind fun t408 => (if t408 < 0 then (none) else (if t408 = bt398.1 then (some true) else (none)))) else (none))))) else (none))))) else (none))))) else (none)))) else (none)) = some r := H
  have A8 := Gv.a0 A80
  clear A80
  by_cases c9 : t390 = true
  ·subst c9
   have H1 : ((laws_toModuleS.f k l0).bind fun t391 => ((laws_eqModuleS.f k t384 t391).bind fun t394 => (if t394 = true then ((laws_markModuleS.f t384 1).bind fun bt395 => (if bt395.1 < 0 then (none) else ((laws_eqModuleS.f k t387 t381).bind fun t397 => (if t397 = true then ((laws_markModuleS.f t387 1).bind fun bt398 => ((laws_heldModuleS.f bt398.2 1).bind fun t400 => (if t400 < 0 then (none) else (if t400 = bt398.1 then ((laws_toModuleS.f k l0).bind fun t401 => ((impl_BackChain.f k t401).bind fun t404 => ((laws_eqModuleS.f k t404 t381).bind fun t407 => (if t407 = true then ((laws_heldModuleS.f bt398.2 1).bind fun t408 => (if t408 < 0 then (none) else (if t408 = bt398.1 then (some true) else (none)))) else (none))))) else (none))))) else (none))))) else (none)))) = some r := by rw [if_pos rfl] at H; exact H
   clear H
   have H := H1
   clear H1
   replace H := Option.bind_eq_some_iff.mp H
   obtain ⟨t391, A100, H⟩ := H
   replace H : ((laws_eqModuleS.f k t384 t391).bind fun t394 => (if t394 = true then ((laws_markModuleS.f t384 1).bind fun bt395 => (if bt395.1 < 0 then (none) else ((laws_eqModuleS.f k t387 t381).bind fun t397 => (if t397 = true then ((laws_markModuleS.f t387 1).bind fun bt398 => ((laws_heldModuleS.f bt398.2 1).bind fun t400 => (if t400 < 0 then (none) else (if t400 = bt398.1 then ((laws_toModuleS.f k l0).bind fun t401 => ((impl_BackChain.f k t401).bind fun t404 => ((laws_eqModuleS.f k t404 t381).bind fun t407 => (if t407 = true then ((laws_heldModuleS.f bt398.2 1).bind fun t408 => (if t408 < 0 then (none) else (if t408 = bt398.1 then (some true) else (none)))) else (none))))) else (none))))) else (none))))) else (none))) = some r := H
   have A10 := Gv.a0 A100
   clear A100
   replace H := Option.bind_eq_some_iff.mp H
   obtain ⟨t394, A110, H⟩ := H
   replace H : (if t394 = true then ((laws_markModuleS.f t384 1).bind fun bt395 => (if bt395.1 < 0 then (none) else ((laws_eqModuleS.f k t387 t381).bind fun t397 => (if t397 = true then ((laws_markModuleS.f t387 1).bind fun bt398 => ((laws_heldModuleS.f bt398.2 1).bind fun t400 => (if t400 < 0 then (none) else (if t400 = bt398.1 then ((laws_toModuleS.f k l0).bind fun t401 => ((impl_BackChain.f k t401).bind fun t404 => ((laws_eqModuleS.f k t404 t381).bind fun t407 => (if t407 = true then ((laws_heldModuleS.f bt398.2 1).bind fun t408 => (if t408 < 0 then (none) else (if t408 = bt398.1 then (some true) else (none)))) else (none))))) else (none))))) else (none))))) else (none)) = some r := H
   have A11 := Gv.a0 A110
   clear A110
   by_cases c12 : t394 = true
   ·subst c12
    have H1 : ((laws_markModuleS.f t384 1).bind fun bt395 => (if bt395.1 < 0 then (none) else ((laws_eqModuleS.f k t387 t381).bind fun t397 => (if t397 = true then ((laws_markModuleS.f t387 1).bind fun bt398 => ((laws_heldModuleS.f bt398.2 1).bind fun t400 => (if t400 < 0 then (none) else (if t400 = bt398.1 then ((laws_toModuleS.f k l0).bind fun t401 => ((impl_BackChain.f k t401).bind fun t404 => ((laws_eqModuleS.f k t404 t381).bind fun t407 => (if t407 = true then ((laws_heldModuleS.f bt398.2 1).bind fun t408 => (if t408 < 0 then (none) else (if t408 = bt398.1 then (some true) else (none)))) else (none))))) else (none))))) else (none))))) = some r := by rw [if_pos rfl] at H; exact H
    clear H
    have H := H1
    clear H1
    replace H := Option.bind_eq_some_iff.mp H
    obtain ⟨⟨t395, t396⟩, A130, H⟩ := H
    replace H : (if t395 < 0 then (none) else ((laws_eqModuleS.f k t387 t381).bind fun t397 => (if t397 = true then ((laws_markModuleS.f t387 1).bind fun bt398 => ((laws_heldModuleS.f bt398.2 1).bind fun t400 => (if t400 < 0 then (none) else (if t400 = bt398.1 then ((laws_toModuleS.f k l0).bind fun t401 => ((impl_BackChain.f k t401).bind fun t404 => ((laws_eqModuleS.f k t404 t381).bind fun t407 => (if t407 = true then ((laws_heldModuleS.f bt398.2 1).bind fun t408 => (if t408 < 0 then (none) else (if t408 = bt398.1 then (some true) else (none)))) else (none))))) else (none))))) else (none)))) = some r := H
    have A13 := Gv.a0 A130
    clear A130
    by_cases c14 : t395 < 0
    ·rw [if_pos c14] at H
     exact absurd H (by simp)
    ·rw [if_neg c14] at H
     have c14b0 : decide (t395 < 0) = false := decide_eq_false c14
     clear c14
     replace H := Option.bind_eq_some_iff.mp H
     obtain ⟨t397, A150, H⟩ := H
     replace H : (if t397 = true then ((laws_markModuleS.f t387 1).bind fun bt398 => ((laws_heldModuleS.f bt398.2 1).bind fun t400 => (if t400 < 0 then (none) else (if t400 = bt398.1 then ((laws_toModuleS.f k l0).bind fun t401 => ((impl_BackChain.f k t401).bind fun t404 => ((laws_eqModuleS.f k t404 t381).bind fun t407 => (if t407 = true then ((laws_heldModuleS.f bt398.2 1).bind fun t408 => (if t408 < 0 then (none) else (if t408 = bt398.1 then (some true) else (none)))) else (none))))) else (none))))) else (none)) = some r := H
     have A15 := Gv.a0 A150
     clear A150
     by_cases c16 : t397 = true
     ·subst c16
      have H1 : ((laws_markModuleS.f t387 1).bind fun bt398 => ((laws_heldModuleS.f bt398.2 1).bind fun t400 => (if t400 < 0 then (none) else (if t400 = bt398.1 then ((laws_toModuleS.f k l0).bind fun t401 => ((impl_BackChain.f k t401).bind fun t404 => ((laws_eqModuleS.f k t404 t381).bind fun t407 => (if t407 = true then ((laws_heldModuleS.f bt398.2 1).bind fun t408 => (if t408 < 0 then (none) else (if t408 = bt398.1 then (some true) else (none)))) else (none))))) else (none))))) = some r := by rw [if_pos rfl] at H; exact H
      clear H
      have H := H1
      clear H1
      replace H := Option.bind_eq_some_iff.mp H
      obtain ⟨⟨t398, t399⟩, A170, H⟩ := H
      replace H : ((laws_heldModuleS.f t399 1).bind fun t400 => (if t400 < 0 then (none) else (if t400 = t398 then ((laws_toModuleS.f k l0).bind fun t401 => ((impl_BackChain.f k t401).bind fun t404 => ((laws_eqModuleS.f k t404 t381).bind fun t407 => (if t407 = true then ((laws_heldModuleS.f t399 1).bind fun t408 => (if t408 < 0 then (none) else (if t408 = t398 then (some true) else (none)))) else (none))))) else (none)))) = some r := H
      have A17 := Gv.a0 A170
      clear A170
      replace H := Option.bind_eq_some_iff.mp H
      obtain ⟨t400, A180, H⟩ := H
      replace H : (if t400 < 0 then (none) else (if t400 = t398 then ((laws_toModuleS.f k l0).bind fun t401 => ((impl_BackChain.f k t401).bind fun t404 => ((laws_eqModuleS.f k t404 t381).bind fun t407 => (if t407 = true then ((laws_heldModuleS.f t399 1).bind fun t408 => (if t408 < 0 then (none) else (if t408 = t398 then (some true) else (none)))) else (none))))) else (none))) = some r := H
      have A18 := Gv.a0 A180
      clear A180
      by_cases c19 : t400 < 0
      ·rw [if_pos c19] at H
       exact absurd H (by simp)
      ·rw [if_neg c19] at H
       have c19b0 : decide (t400 < 0) = false := decide_eq_false c19
       clear c19
       by_cases c20 : t400 = t398
       ·rw [if_pos c20] at H
        have c20b0 : (t400 == t398) = true := beq_iff_eq.mpr c20
        have c20b1 : (t400 != t398) = false := bne_eq_false_iff_eq.mpr c20
        clear c20
        replace H := Option.bind_eq_some_iff.mp H
        obtain ⟨t401, A210, H⟩ := H
        replace H : ((impl_BackChain.f k t401).bind fun t404 => ((laws_eqModuleS.f k t404 t381).bind fun t407 => (if t407 = true then ((laws_heldModuleS.f t399 1).bind fun t408 => (if t408 < 0 then (none) else (if t408 = t398 then (some true) else (none)))) else (none)))) = some r := H
        have A21 := Gv.a0 A210
        clear A210
        replace H := Option.bind_eq_some_iff.mp H
        obtain ⟨t404, A220, H⟩ := H
        replace H : ((laws_eqModuleS.f k t404 t381).bind fun t407 => (if t407 = true then ((laws_heldModuleS.f t399 1).bind fun t408 => (if t408 < 0 then (none) else (if t408 = t398 then (some true) else (none)))) else (none))) = some r := H
        have A22 := Gv.a0 A220
        clear A220
        replace H := Option.bind_eq_some_iff.mp H
        obtain ⟨t407, A230, H⟩ := H
        replace H : (if t407 = true then ((laws_heldModuleS.f t399 1).bind fun t408 => (if t408 < 0 then (none) else (if t408 = t398 then (some true) else (none)))) else (none)) = some r := H
        have A23 := Gv.a0 A230
        clear A230
        by_cases c24 : t407 = true
        ·subst c24
         have H1 : ((laws_heldModuleS.f t399 1).bind fun t408 => (if t408 < 0 then (none) else (if t408 = t398 then (some true) else (none)))) = some r := by rw [if_pos rfl] at H; exact H
         clear H
         have H := H1
         clear H1
         replace H := Option.bind_eq_some_iff.mp H
         obtain ⟨t408, A250, H⟩ := H
         replace H : (if t408 < 0 then (none) else (if t408 = t398 then (some true) else (none))) = some r := H
         have A25 := Gv.a0 A250
         clear A250
         by_cases c26 : t408 < 0
         ·rw [if_pos c26] at H
          exact absurd H (by simp)
         ·rw [if_neg c26] at H
          have c26b0 : decide (t408 < 0) = false := decide_eq_false c26
          clear c26
          by_cases c27 : t408 = t398
          ·rw [if_pos c27] at H
           have c27b0 : (t408 == t398) = true := beq_iff_eq.mpr c27
           have c27b1 : (t408 != t398) = false := bne_eq_false_iff_eq.mpr c27
           clear c27
           obtain rfl := Option.some.inj H
           go_enter Try.func7, Try.ntmps7
           go_wp2_with (first | ((with_reducible refine gate_callee (f := 16) rfl ?_); refine goesL_ (some 13) rfl rfl Try.func16 (by kernel_rfl) rfl #[.slice A0 l0.length c0, .int .i64 1048576] rfl Gv.lm ?_; (with_reducible refine (laws_szModuleS.calls _ _ l0 1048576 t377 _ ?side1 ?side2 A2.out).mono ?_); (case side1 => repeat (first | exact HR0.out | (with_reducible refine Kd.C_alloc ?_ _) | (with_reducible refine Kd.C_drewN ?_ _) | (with_reducible refine Kd.C_drew ?_))); (case side2 => exact HC0.out); rintro e w' ⟨rfl, ⟨nd, rfl⟩⟩; refine ⟨_, rfl, ?_⟩) | ((with_reducible refine gate_callee (f := 18) rfl ?_); refine goesL_ (some 17) rfl rfl Try.func18 (by kernel_rfl) rfl #[.slice A0 l0.length c0] rfl Gv.lm ?_; (with_reducible refine (laws_toModuleS.calls k _ _ l0 t378 _ ?side1 ?side2 A4.out).mono ?_); (case side1 => repeat (first | exact HR0.out | (with_reducible refine Kd.C_alloc ?_ _) | (with_reducible refine Kd.C_drewN ?_ _) | (with_reducible refine Kd.C_drew ?_))); (case side2 => exact HC0.out); rintro e w28 ⟨v379, rfl, ho0, hb⟩; refine ⟨_, rfl, ?_⟩; have n0_ := Gv.a0 (Kd.R_lower ho0 (below_size Gv.bw)); have n1_ := Gv.a0 (below_step Gv.bw hb); clear HB; have HO380 := n0_; have HB := n1_; clear n0_ n1_; (try clear hb); (try clear hb2); (try clear hk); (try clear hi); (try clear ho0); obtain ⟨Ao29, co29, eo29⟩ := Kd.R_slice HO380.out; subst eo29) | ((with_reducible refine gate_callee (f := 27) rfl ?_); refine goesL_ (some 18) rfl rfl Try.func27 (by kernel_rfl) rfl #[.slice Ao29 t378.length co29] rfl Gv.lm ?_; (with_reducible refine (spec_BackChain.calls k _ _ t378 t381 _ ?side1 ?side2 A5.out).mono ?_); (case side1 => repeat (first | exact (Kd.R_reads' HO380.out).2.2 | (with_reducible refine Kd.C_alloc ?_ _) | (with_reducible refine Kd.C_drewN ?_ _) | (with_reducible refine Kd.C_drew ?_))); (case side2 => exact (Kd.R_reads' HO380.out).2.1); rintro e w30 ⟨v382, rfl, ho0, hb⟩; refine ⟨_, rfl, ?_⟩; have n0_ := Gv.a0 (Kd.R_elder' (Gv.kr HO380.out) (Kd.R_base ho0) hb); have n1_ := Gv.a0 (Kd.R_lower (Kd.R_new' ho0 (Kd.R_lt (Gv.kr HO380.out))) (below_size Gv.bw)); have n2_ := Gv.a0 (below_step Gv.bw hb); clear HO380; clear HB; have HO380 := n0_; have HO383 := n1_; have HB := n2_; clear n0_ n1_ n2_; (try clear hb); (try clear hb2); (try clear hk); (try clear hi); (try clear ho0)) | ((with_reducible refine gate_callee (f := 18) rfl ?_); refine goesL_ (some 20) rfl rfl Try.func18 (by kernel_rfl) rfl #[.slice A0 l0.length c0] rfl Gv.lm ?_; (with_reducible refine (laws_toModuleS.calls k _ _ l0 t384 _ ?side1 ?side2 A6.out).mono ?_); (case side1 => repeat (first | exact (Kd.C_below HR0.out HB.out) | (with_reducible refine Kd.C_alloc ?_ _) | (with_reducible refine Kd.C_drewN ?_ _) | (with_reducible refine Kd.C_drew ?_))); (case side2 => exact HC0.out); rintro e w31 ⟨v385, rfl, ho0, hb⟩; refine ⟨_, rfl, ?_⟩; have n0_ := Gv.a0 (Kd.R_elder' (Gv.kr HO380.out) (Kd.R_base ho0) hb); have n1_ := Gv.a0 (Kd.R_elder' (Gv.kr HO383.out) (Kd.R_base ho0) hb); have n2_ := Gv.a0 (Kd.R_lower (Kd.R_new' (Kd.R_new' ho0 (Kd.R_lt (Gv.kr HO380.out))) (Kd.R_lt (Gv.kr HO383.out))) (below_size Gv.bw)); have n3_ := Gv.a0 (below_step Gv.bw hb); clear HO380; clear HO383; clear HB; have HO380 := n0_; have HO383 := n1_; have HO386 := n2_; have HB := n3_; clear n0_ n1_ n2_ n3_; (try clear hb); (try clear hb2); (try clear hk); (try clear hi); (try clear ho0); obtain ⟨Ao32, co32, eo32⟩ := Kd.R_slice HO386.out; subst eo32) | ((with_reducible refine gate_callee (f := 28) rfl ?_); refine goesL_ (some 22) rfl rfl Try.func28 (by kernel_rfl) rfl #[.slice Ao32 t384.length co32] rfl Gv.lm ?_; (with_reducible refine (impl_BackChain.calls k _ _ t384 t387 _ ?side1 ?side2 A7.out).mono ?_); (case side1 => repeat (first | exact (Kd.R_reads' HO386.out).2.2 | (with_reducible refine Kd.C_alloc ?_ _) | (with_reducible refine Kd.C_drewN ?_ _) | (with_reducible refine Kd.C_drew ?_))); (case side2 => exact (Kd.R_reads' HO386.out).2.1); rintro e w33 ⟨v388, rfl, ho0, hb⟩; refine ⟨_, rfl, ?_⟩; have n0_ := Gv.a0 (Kd.R_elder' (Gv.kr HO380.out) (Kd.R_base ho0) hb); have n1_ := Gv.a0 (Kd.R_elder' (Gv.kr HO383.out) (Kd.R_base ho0) hb); have n2_ := Gv.a0 (Kd.R_elder' (Gv.kr HO386.out) (Kd.R_base ho0) hb); have n3_ := Gv.a0 (Kd.R_lower (Kd.R_new' (Kd.R_new' (Kd.R_new' ho0 (Kd.R_lt (Gv.kr HO380.out))) (Kd.R_lt (Gv.kr HO383.out))) (Kd.R_lt (Gv.kr HO386.out))) (below_size Gv.bw)); have n4_ := Gv.a0 (below_step Gv.bw hb); clear HO380; clear HO383; clear HO386; clear HB; have HO380 := n0_; have HO383 := n1_; have HO386 := n2_; have HO389 := n3_; have HB := n4_; clear n0_ n1_ n2_ n3_ n4_; (try clear hb); (try clear hb2); (try clear hk); (try clear hi); (try clear ho0); obtain ⟨Ao34, co34, eo34⟩ := Kd.R_slice HO389.out; subst eo34; obtain ⟨Ao35, co35, eo35⟩ := Kd.R_slice HO383.out; subst eo35) | ((with_reducible refine gate_callee (f := 20) rfl ?_); refine goesL_ (some 25) rfl rfl Try.func20 (by kernel_rfl) rfl #[.slice Ao34 t387.length co34, .slice Ao35 t381.length co35] rfl Gv.lm ?_; (with_reducible refine (laws_eqModuleS.calls k _ _ t387 _ _ t381 true _ ?side1 ?side2 ?side3 ?side4 A8.out).mono ?_); (case side1 => repeat (first | exact (Kd.R_reads' HO389.out).2.2 | (with_reducible refine Kd.C_alloc ?_ _) | (with_reducible refine Kd.C_drewN ?_ _) | (with_reducible refine Kd.C_drew ?_))); (case side2 => exact (Kd.R_reads' HO389.out).2.1); (case side3 => repeat (first | exact (Kd.R_reads' HO383.out).2.2 | (with_reducible refine Kd.C_alloc ?_ _) | (with_reducible refine Kd.C_drewN ?_ _) | (with_reducible refine Kd.C_drew ?_))); (case side4 => exact (Kd.R_reads' HO383.out).2.1); rintro e w36 ⟨rfl, hb⟩; refine ⟨_, rfl, ?_⟩; have n0_ := Gv.a0 (Kd.R_below (Gv.kr HO380.out) hb); have n1_ := Gv.a0 (Kd.R_below (Gv.kr HO383.out) hb); have n2_ := Gv.a0 (Kd.R_below (Gv.kr HO386.out) hb); have n3_ := Gv.a0 (Kd.R_below (Gv.kr HO389.out) hb); have n4_ := Gv.a0 (below_step Gv.bw hb); clear HO380; clear HO383; clear HO386; clear HO389; clear HB; have HO380 := n0_; have HO383 := n1_; have HO386 := n2_; have HO389 := n3_; have HB := n4_; clear n0_ n1_ n2_ n3_ n4_; (try clear hb); (try clear hb2); (try clear hk); (try clear hi)) | ((with_reducible refine gate_callee (f := 18) rfl ?_); refine goesL_ (some 29) rfl rfl Try.func18 (by kernel_rfl) rfl #[.slice A0 l0.length c0] rfl Gv.lm ?_; (with_reducible refine (laws_toModuleS.calls k _ _ l0 t391 _ ?side1 ?side2 A10.out).mono ?_); (case side1 => repeat (first | exact (Kd.C_below HR0.out HB.out) | (with_reducible refine Kd.C_alloc ?_ _) | (with_reducible refine Kd.C_drewN ?_ _) | (with_reducible refine Kd.C_drew ?_))); (case side2 => exact HC0.out); rintro e w37 ⟨v392, rfl, ho0, hb⟩; refine ⟨_, rfl, ?_⟩; have n0_ := Gv.a0 (Kd.R_elder' (Gv.kr HO380.out) (Kd.R_base ho0) hb); have n1_ := Gv.a0 (Kd.R_elder' (Gv.kr HO383.out) (Kd.R_base ho0) hb); have n2_ := Gv.a0 (Kd.R_elder' (Gv.kr HO386.out) (Kd.R_base ho0) hb); have n3_ := Gv.a0 (Kd.R_elder' (Gv.kr HO389.out) (Kd.R_base ho0) hb); have n4_ := Gv.a0 (Kd.R_lower (Kd.R_new' (Kd.R_new' (Kd.R_new' (Kd.R_new' ho0 (Kd.R_lt (Gv.kr HO380.out))) (Kd.R_lt (Gv.kr HO383.out))) (Kd.R_lt (Gv.kr HO386.out))) (Kd.R_lt (Gv.kr HO389.out))) (below_size Gv.bw)); have n5_ := Gv.a0 (below_step Gv.bw hb); clear HO380; clear HO383; clear HO386; clear HO389; clear HB; have HO380 := n0_; have HO383 := n1_; have HO386 := n2_; have HO389 := n3_; have HO393 := n4_; have HB := n5_; clear n0_ n1_ n2_ n3_ n4_ n5_; (try clear hb); (try clear hb2); (try clear hk); (try clear hi); (try clear ho0); obtain ⟨Ao38, co38, eo38⟩ := Kd.R_slice HO393.out; subst eo38) | ((with_reducible refine gate_callee (f := 20) rfl ?_); refine goesL_ (some 30) rfl rfl Try.func20 (by kernel_rfl) rfl #[.slice Ao32 t384.length co32, .slice Ao38 t391.length co38] rfl Gv.lm ?_; (with_reducible refine (laws_eqModuleS.calls k _ _ t384 _ _ t391 true _ ?side1 ?side2 ?side3 ?side4 A11.out).mono ?_); (case side1 => repeat (first | exact (Kd.R_reads' HO386.out).2.2 | (with_reducible refine Kd.C_alloc ?_ _) | (with_reducible refine Kd.C_drewN ?_ _) | (with_reducible refine Kd.C_drew ?_))); (case side2 => exact (Kd.R_reads' HO386.out).2.1); (case side3 => repeat (first | exact (Kd.R_reads' HO393.out).2.2 | (with_reducible refine Kd.C_alloc ?_ _) | (with_reducible refine Kd.C_drewN ?_ _) | (with_reducible refine Kd.C_drew ?_))); (case side4 => exact (Kd.R_reads' HO393.out).2.1); rintro e w39 ⟨rfl, hb⟩; refine ⟨_, rfl, ?_⟩; have n0_ := Gv.a0 (Kd.R_below (Gv.kr HO380.out) hb); have n1_ := Gv.a0 (Kd.R_below (Gv.kr HO383.out) hb); have n2_ := Gv.a0 (Kd.R_below (Gv.kr HO386.out) hb); have n3_ := Gv.a0 (Kd.R_below (Gv.kr HO389.out) hb); have n4_ := Gv.a0 (Kd.R_below (Gv.kr HO393.out) hb); have n5_ := Gv.a0 (below_step Gv.bw hb); clear HO380; clear HO383; clear HO386; clear HO389; clear HO393; clear HB; have HO380 := n0_; have HO383 := n1_; have HO386 := n2_; have HO389 := n3_; have HO393 := n4_; have HB := n5_; clear n0_ n1_ n2_ n3_ n4_ n5_; (try clear hb); (try clear hb2); (try clear hk); (try clear hi)) | ((with_reducible refine gate_callee (f := 29) rfl ?_); refine goesL_ (some 34) rfl rfl Try.func29 (by kernel_rfl) rfl #[.slice Ao32 t384.length co32, .int .i64 1] rfl Gv.lm ?_; (with_reducible refine (laws_markModuleS.calls (fun k_ => some k_ = (.slice Ao32 t384.length co32 : Value).ownBlock) (.slice Ao32 t384.length co32) t384 1 t395 t396 w _ ?side1 ?side2 A13.out).mono ?_); (case side1 => repeat (first | (with_reducible first | exact HB.out | apply below_alloc | apply pw_below_drewN | apply below_drew1) | exact HB.out)); (case side2 => exact Kd.R_tight rfl HO386.out); rintro e w40 ⟨rfl, hy0, hb, hkp⟩; refine ⟨_, rfl, ?_⟩; have n0_ := Gv.a0 (Kd.R_mono (ok' := fun k_ => some k_ ≠ (.slice Ao35 t381.length co35 : Value).ownBlock ∧ some k_ ≠ (.slice Ao32 t384.length co32 : Value).ownBlock ∧ some k_ ≠ (.slice Ao34 t387.length co34 : Value).ownBlock ∧ some k_ ≠ (.slice Ao38 t391.length co38 : Value).ownBlock) (Kd.R_keptB (HO380.out) hkp (fun k_ hk_ hs_ => (hk_.1.1.2) hs_)) (fun k_ hk_ => ⟨hk_.1.1.1.1.2, hk_.1.1.1.2, hk_.1.1.2, hk_.1.2⟩)); have n1_ := Gv.a0 (Kd.R_mono (ok' := fun k_ => some k_ ≠ (.slice Ao29 t378.length co29 : Value).ownBlock ∧ some k_ ≠ (.slice Ao32 t384.length co32 : Value).ownBlock ∧ some k_ ≠ (.slice Ao34 t387.length co34 : Value).ownBlock ∧ some k_ ≠ (.slice Ao38 t391.length co38 : Value).ownBlock) (Kd.R_keptB (HO383.out) hkp (fun k_ hk_ hs_ => (hk_.1.1.2) hs_)) (fun k_ hk_ => ⟨hk_.1.1.1.1.2, hk_.1.1.1.2, hk_.1.1.2, hk_.1.2⟩)); have n2_ := Gv.a0 (Kd.R_reok rfl hy0 (fun k_ e_ => HO386.out.1 k_ e_)); have n3_ := Gv.a0 (Kd.R_mono (ok' := fun k_ => some k_ ≠ (.slice Ao29 t378.length co29 : Value).ownBlock ∧ some k_ ≠ (.slice Ao35 t381.length co35 : Value).ownBlock ∧ some k_ ≠ (.slice Ao32 t384.length co32 : Value).ownBlock ∧ some k_ ≠ (.slice Ao38 t391.length co38 : Value).ownBlock) (Kd.R_keptB (HO389.out) hkp (fun k_ hk_ hs_ => (hk_.1.2) hs_)) (fun k_ hk_ => ⟨hk_.1.1.1.1.2, hk_.1.1.1.2, hk_.1.1.2, hk_.1.2⟩)); have n4_ := Gv.a0 (Kd.R_mono (ok' := fun k_ => some k_ ≠ (.slice Ao29 t378.length co29 : Value).ownBlock ∧ some k_ ≠ (.slice Ao35 t381.length co35 : Value).ownBlock ∧ some k_ ≠ (.slice Ao32 t384.length co32 : Value).ownBlock ∧ some k_ ≠ (.slice Ao34 t387.length co34 : Value).ownBlock) (Kd.R_keptB (HO393.out) hkp (fun k_ hk_ hs_ => (hk_.1.2) hs_)) (fun k_ hk_ => ⟨hk_.1.1.1.1.2, hk_.1.1.1.2, hk_.1.1.2, hk_.1.2⟩)); have n5_ := Gv.a0 (hb); clear HO380; clear HO383; clear HO386; clear HO389; clear HO393; clear HB; have HO380 := n0_; have HO383 := n1_; have HO386 := n2_; have HO389 := n3_; have HO393 := n4_; have HB := n5_; clear n0_ n1_ n2_ n3_ n4_ n5_; (try clear hb); (try clear hkp); (try clear hy0)) | (go_at_call 20; (with_reducible refine (laws_eqModuleS.calls k _ _ t387 _ _ t381 true _ ?side1 ?side2 ?side3 ?side4 A15.out).mono ?_); (case side1 => repeat (first | exact (Kd.R_reads' HO389.out).2.2 | (with_reducible refine Kd.C_alloc ?_ _) | (with_reducible refine Kd.C_drewN ?_ _) | (with_reducible refine Kd.C_drew ?_))); (case side2 => exact (Kd.R_reads' HO389.out).2.1); (case side3 => repeat (first | exact (Kd.R_reads' HO383.out).2.2 | (with_reducible refine Kd.C_alloc ?_ _) | (with_reducible refine Kd.C_drewN ?_ _) | (with_reducible refine Kd.C_drew ?_))); (case side4 => exact (Kd.R_reads' HO383.out).2.1); rintro e w41 ⟨rfl, hb⟩; have n0_ := Gv.a0 (Kd.R_below (Gv.kr HO380.out) hb); have n1_ := Gv.a0 (Kd.R_below (Gv.kr HO383.out) hb); have n2_ := Gv.a0 (Kd.R_below (Gv.kr HO386.out) hb); have n3_ := Gv.a0 (Kd.R_below (Gv.kr HO389.out) hb); have n4_ := Gv.a0 (Kd.R_below (Gv.kr HO393.out) hb); have n5_ := Gv.a0 (below_step Gv.bw hb); clear HO380; clear HO383; clear HO386; clear HO389; clear HO393; clear HB; have HO380 := n0_; have HO383 := n1_; have HO386 := n2_; have HO389 := n3_; have HO393 := n4_; have HB := n5_; clear n0_ n1_ n2_ n3_ n4_ n5_; (try clear hb); (try clear hb2); (try clear hk); (try clear hi)) | ((with_reducible refine gate_callee (f := 29) rfl ?_); refine goesL_ (some 45) rfl rfl Try.func29 (by kernel_rfl) rfl #[.slice Ao34 t387.length co34, .int .i64 1] rfl Gv.lm ?_; (with_reducible refine (laws_markModuleS.calls (fun k_ => some k_ = (.slice Ao34 t387.length co34 : Value).ownBlock) (.slice Ao34 t387.length co34) t387 1 t398 t399 w _ ?side1 ?side2 A17.out).mono ?_); (case side1 => repeat (first | (with_reducible first | exact HB.out | apply below_alloc | apply pw_below_drewN | apply below_drew1) | exact HB.out)); (case side2 => exact Kd.R_tight rfl HO389.out); rintro e w42 ⟨rfl, hy0, hb, hkp⟩; refine ⟨_, rfl, ?_⟩; have n0_ := Gv.a0 (Kd.R_mono (ok' := fun k_ => some k_ ≠ (.slice Ao35 t381.length co35 : Value).ownBlock ∧ some k_ ≠ (.slice Ao32 t384.length co32 : Value).ownBlock ∧ some k_ ≠ (.slice Ao34 t387.length co34 : Value).ownBlock ∧ some k_ ≠ (.slice Ao38 t391.length co38 : Value).ownBlock) (Kd.R_keptB (HO380.out) hkp (fun k_ hk_ hs_ => (hk_.2.2.1) hs_)) (fun k_ hk_ => ⟨hk_.1.1, hk_.1.2.1, hk_.1.2.2.1, hk_.1.2.2.2⟩)); have n1_ := Gv.a0 (Kd.R_mono (ok' := fun k_ => some k_ ≠ (.slice Ao29 t378.length co29 : Value).ownBlock ∧ some k_ ≠ (.slice Ao32 t384.length co32 : Value).ownBlock ∧ some k_ ≠ (.slice Ao34 t387.length co34 : Value).ownBlock ∧ some k_ ≠ (.slice Ao38 t391.length co38 : Value).ownBlock) (Kd.R_keptB (HO383.out) hkp (fun k_ hk_ hs_ => (hk_.2.2.1) hs_)) (fun k_ hk_ => ⟨hk_.1.1, hk_.1.2.1, hk_.1.2.2.1, hk_.1.2.2.2⟩)); have n2_ := Gv.a0 (Kd.R_mono (ok' := fun k_ => some k_ ≠ (.slice Ao29 t378.length co29 : Value).ownBlock ∧ some k_ ≠ (.slice Ao35 t381.length co35 : Value).ownBlock ∧ some k_ ≠ (.slice Ao34 t387.length co34 : Value).ownBlock ∧ some k_ ≠ (.slice Ao38 t391.length co38 : Value).ownBlock) (Kd.R_keptB (HO386.out) hkp (fun k_ hk_ hs_ => (hk_.1.2) hs_)) (fun k_ hk_ => ⟨hk_.1.1.1.1.2, hk_.1.1.1.2, hk_.1.1.2, hk_.1.2⟩)); have n3_ := Gv.a0 (Kd.R_reok rfl hy0 (fun k_ e_ => HO389.out.1 k_ e_)); have n4_ := Gv.a0 (Kd.R_mono (ok' := fun k_ => some k_ ≠ (.slice Ao29 t378.length co29 : Value).ownBlock ∧ some k_ ≠ (.slice Ao35 t381.length co35 : Value).ownBlock ∧ some k_ ≠ (.slice Ao32 t384.length co32 : Value).ownBlock ∧ some k_ ≠ (.slice Ao34 t387.length co34 : Value).ownBlock) (Kd.R_keptB (HO393.out) hkp (fun k_ hk_ hs_ => (hk_.2.2.2) hs_)) (fun k_ hk_ => ⟨hk_.1.1, hk_.1.2.1, hk_.1.2.2.1, hk_.1.2.2.2⟩)); have n5_ := Gv.a0 (hb); clear HO380; clear HO383; clear HO386; clear HO389; clear HO393; clear HB; have HO380 := n0_; have HO383 := n1_; have HO386 := n2_; have HO389 := n3_; have HO393 := n4_; have HB := n5_; clear n0_ n1_ n2_ n3_ n4_ n5_; (try clear hb); (try clear hkp); (try clear hy0)) | ((with_reducible refine gate_callee (f := 30) rfl ?_); refine goesL_ (some 48) rfl rfl Try.func30 (by kernel_rfl) rfl #[.slice Ao34 t399.length co34, .int .i64 1] rfl (by (try simp only [List.map_toArray, List.map_cons, List.map_nil]); first | done | (rw [show t399.length = t387.length from (Kd.R_reads' HO389.out).1.symm] <;> rfl) | rfl | (simp only [List.length_drop, List.length_take]; rfl)) ?_; (with_reducible refine (laws_heldModuleS.calls _ _ t399 1 t400 _ ?side1 ?side2 A18.out).mono ?_); (case side1 => repeat (first | exact (Kd.R_reads' HO389.out).2.2 | (with_reducible refine Kd.C_alloc ?_ _) | (with_reducible refine Kd.C_drewN ?_ _) | (with_reducible refine Kd.C_drew ?_))); (case side2 => rw [show t399.length = t387.length from (Kd.R_reads' HO389.out).1.symm]; exact (Kd.R_reads' HO389.out).2.1); rintro e w43 ⟨rfl, hb⟩; refine ⟨_, rfl, ?_⟩; have n0_ := Gv.a0 (Kd.R_below (Gv.kr HO380.out) hb); have n1_ := Gv.a0 (Kd.R_below (Gv.kr HO383.out) hb); have n2_ := Gv.a0 (Kd.R_below (Gv.kr HO386.out) hb); have n3_ := Gv.a0 (Kd.R_below (Gv.kr HO389.out) hb); have n4_ := Gv.a0 (Kd.R_below (Gv.kr HO393.out) hb); have n5_ := Gv.a0 (below_step Gv.bw hb); clear HO380; clear HO383; clear HO386; clear HO389; clear HO393; clear HB; have HO380 := n0_; have HO383 := n1_; have HO386 := n2_; have HO389 := n3_; have HO393 := n4_; have HB := n5_; clear n0_ n1_ n2_ n3_ n4_ n5_; (try clear hb); (try clear hb2); (try clear hk); (try clear hi)) | ((with_reducible refine gate_callee (f := 18) rfl ?_); refine goesL_ (some 55) rfl rfl Try.func18 (by kernel_rfl) rfl #[.slice A0 l0.length c0] rfl Gv.lm ?_; (with_reducible refine (laws_toModuleS.calls k _ _ l0 t401 _ ?side1 ?side2 A21.out).mono ?_); (case side1 => repeat (first | exact (Kd.C_below HR0.out HB.out) | (with_reducible refine Kd.C_alloc ?_ _) | (with_reducible refine Kd.C_drewN ?_ _) | (with_reducible refine Kd.C_drew ?_))); (case side2 => exact HC0.out); rintro e w44 ⟨v402, rfl, ho0, hb⟩; refine ⟨_, rfl, ?_⟩; have n0_ := Gv.a0 (Kd.R_elder' (Gv.kr HO380.out) (Kd.R_base ho0) hb); have n1_ := Gv.a0 (Kd.R_elder' (Gv.kr HO383.out) (Kd.R_base ho0) hb); have n2_ := Gv.a0 (Kd.R_elder' (Gv.kr HO386.out) (Kd.R_base ho0) hb); have n3_ := Gv.a0 (Kd.R_elder' (Gv.kr HO389.out) (Kd.R_base ho0) hb); have n4_ := Gv.a0 (Kd.R_elder' (Gv.kr HO393.out) (Kd.R_base ho0) hb); have n5_ := Gv.a0 (Kd.R_lower (Kd.R_new' (Kd.R_new' (Kd.R_new' (Kd.R_new' (Kd.R_new' ho0 (Kd.R_lt (Gv.kr HO380.out))) (Kd.R_lt (Gv.kr HO383.out))) (Kd.R_lt (Gv.kr HO386.out))) (Kd.R_lt (Gv.kr HO389.out))) (Kd.R_lt (Gv.kr HO393.out))) (below_size Gv.bw)); have n6_ := Gv.a0 (below_step Gv.bw hb); clear HO380; clear HO383; clear HO386; clear HO389; clear HO393; clear HB; have HO380 := n0_; have HO383 := n1_; have HO386 := n2_; have HO389 := n3_; have HO393 := n4_; have HO403 := n5_; have HB := n6_; clear n0_ n1_ n2_ n3_ n4_ n5_ n6_; (try clear hb); (try clear hb2); (try clear hk); (try clear hi); (try clear ho0); obtain ⟨Ao45, co45, eo45⟩ := Kd.R_slice HO403.out; subst eo45) | ((with_reducible refine gate_callee (f := 28) rfl ?_); refine goesL_ (some 56) rfl rfl Try.func28 (by kernel_rfl) rfl #[.slice Ao45 t401.length co45] rfl Gv.lm ?_; (with_reducible refine (impl_BackChain.calls k _ _ t401 t404 _ ?side1 ?side2 A22.out).mono ?_); (case side1 => repeat (first | exact (Kd.R_reads' HO403.out).2.2 | (with_reducible refine Kd.C_alloc ?_ _) | (with_reducible refine Kd.C_drewN ?_ _) | (with_reducible refine Kd.C_drew ?_))); (case side2 => exact (Kd.R_reads' HO403.out).2.1); rintro e w46 ⟨v405, rfl, ho0, hb⟩; refine ⟨_, rfl, ?_⟩; have n0_ := Gv.a0 (Kd.R_elder' (Gv.kr HO380.out) (Kd.R_base ho0) hb); have n1_ := Gv.a0 (Kd.R_elder' (Gv.kr HO383.out) (Kd.R_base ho0) hb); have n2_ := Gv.a0 (Kd.R_elder' (Gv.kr HO386.out) (Kd.R_base ho0) hb); have n3_ := Gv.a0 (Kd.R_elder' (Gv.kr HO389.out) (Kd.R_base ho0) hb); have n4_ := Gv.a0 (Kd.R_elder' (Gv.kr HO393.out) (Kd.R_base ho0) hb); have n5_ := Gv.a0 (Kd.R_elder' (Gv.kr HO403.out) (Kd.R_base ho0) hb); have n6_ := Gv.a0 (Kd.R_lower (Kd.R_new' (Kd.R_new' (Kd.R_new' (Kd.R_new' (Kd.R_new' (Kd.R_new' ho0 (Kd.R_lt (Gv.kr HO380.out))) (Kd.R_lt (Gv.kr HO383.out))) (Kd.R_lt (Gv.kr HO386.out))) (Kd.R_lt (Gv.kr HO389.out))) (Kd.R_lt (Gv.kr HO393.out))) (Kd.R_lt (Gv.kr HO403.out))) (below_size Gv.bw)); have n7_ := Gv.a0 (below_step Gv.bw hb); clear HO380; clear HO383; clear HO386; clear HO389; clear HO393; clear HO403; clear HB; have HO380 := n0_; have HO383 := n1_; have HO386 := n2_; have HO389 := n3_; have HO393 := n4_; have HO403 := n5_; have HO406 := n6_; have HB := n7_; clear n0_ n1_ n2_ n3_ n4_ n5_ n6_ n7_; (try clear hb); (try clear hb2); (try clear hk); (try clear hi); (try clear ho0); obtain ⟨Ao47, co47, eo47⟩ := Kd.R_slice HO406.out; subst eo47) | ((with_reducible refine gate_callee (f := 20) rfl ?_); refine goesL_ (some 59) rfl rfl Try.func20 (by kernel_rfl) rfl #[.slice Ao47 t404.length co47, .slice Ao35 t381.length co35] rfl Gv.lm ?_; (with_reducible refine (laws_eqModuleS.calls k _ _ t404 _ _ t381 true _ ?side1 ?side2 ?side3 ?side4 A23.out).mono ?_); (case side1 => repeat (first | exact (Kd.R_reads' HO406.out).2.2 | (with_reducible refine Kd.C_alloc ?_ _) | (with_reducible refine Kd.C_drewN ?_ _) | (with_reducible refine Kd.C_drew ?_))); (case side2 => exact (Kd.R_reads' HO406.out).2.1); (case side3 => repeat (first | exact (Kd.R_reads' HO383.out).2.2 | (with_reducible refine Kd.C_alloc ?_ _) | (with_reducible refine Kd.C_drewN ?_ _) | (with_reducible refine Kd.C_drew ?_))); (case side4 => exact (Kd.R_reads' HO383.out).2.1); rintro e w48 ⟨rfl, hb⟩; refine ⟨_, rfl, ?_⟩; have n0_ := Gv.a0 (Kd.R_below (Gv.kr HO380.out) hb); have n1_ := Gv.a0 (Kd.R_below (Gv.kr HO383.out) hb); have n2_ := Gv.a0 (Kd.R_below (Gv.kr HO386.out) hb); have n3_ := Gv.a0 (Kd.R_below (Gv.kr HO389.out) hb); have n4_ := Gv.a0 (Kd.R_below (Gv.kr HO393.out) hb); have n5_ := Gv.a0 (Kd.R_below (Gv.kr HO403.out) hb); have n6_ := Gv.a0 (Kd.R_below (Gv.kr HO406.out) hb); have n7_ := Gv.a0 (below_step Gv.bw hb); clear HO380; clear HO383; clear HO386; clear HO389; clear HO393; clear HO403; clear HO406; clear HB; have HO380 := n0_; have HO383 := n1_; have HO386 := n2_; have HO389 := n3_; have HO393 := n4_; have HO403 := n5_; have HO406 := n6_; have HB := n7_; clear n0_ n1_ n2_ n3_ n4_ n5_ n6_ n7_; (try clear hb); (try clear hb2); (try clear hk); (try clear hi)) | ((with_reducible refine gate_callee (f := 30) rfl ?_); refine goesL_ (some 63) rfl rfl Try.func30 (by kernel_rfl) rfl #[.slice Ao34 t399.length co34, .int .i64 1] rfl (by (try simp only [List.map_toArray, List.map_cons, List.map_nil]); first | done | (rw [show t399.length = t387.length from (Kd.R_reads' HO389.out).1.symm] <;> rfl) | rfl | (simp only [List.length_drop, List.length_take]; rfl)) ?_; (with_reducible refine (laws_heldModuleS.calls _ _ t399 1 t408 _ ?side1 ?side2 A25.out).mono ?_); (case side1 => repeat (first | exact (Kd.R_reads' HO389.out).2.2 | (with_reducible refine Kd.C_alloc ?_ _) | (with_reducible refine Kd.C_drewN ?_ _) | (with_reducible refine Kd.C_drew ?_))); (case side2 => rw [show t399.length = t387.length from (Kd.R_reads' HO389.out).1.symm]; exact (Kd.R_reads' HO389.out).2.1); rintro e w49 ⟨rfl, hb⟩; refine ⟨_, rfl, ?_⟩; have n0_ := Gv.a0 (Kd.R_below (Gv.kr HO380.out) hb); have n1_ := Gv.a0 (Kd.R_below (Gv.kr HO383.out) hb); have n2_ := Gv.a0 (Kd.R_below (Gv.kr HO386.out) hb); have n3_ := Gv.a0 (Kd.R_below (Gv.kr HO389.out) hb); have n4_ := Gv.a0 (Kd.R_below (Gv.kr HO393.out) hb); have n5_ := Gv.a0 (Kd.R_below (Gv.kr HO403.out) hb); have n6_ := Gv.a0 (Kd.R_below (Gv.kr HO406.out) hb); have n7_ := Gv.a0 (below_step Gv.bw hb); clear HO380; clear HO383; clear HO386; clear HO389; clear HO393; clear HO403; clear HO406; clear HB; have HO380 := n0_; have HO383 := n1_; have HO386 := n2_; have HO389 := n3_; have HO393 := n4_; have HO403 := n5_; have HO406 := n6_; have HB := n7_; clear n0_ n1_ n2_ n3_ n4_ n5_ n6_ n7_; (try clear hb); (try clear hb2); (try clear hk); (try clear hi)))
           go_ret
           exact ⟨Gv.rt, Gv.bw⟩
          ·rw [if_neg c27] at H
           exact absurd H (by simp)
        ·replace c24 := Bool.eq_false_iff.mpr c24
         subst c24
         have H1 : (none) = some r := by rw [if_neg (show ¬ (false = true) by decide)] at H; exact H
         clear H
         have H := H1
         clear H1
         exact absurd H (by simp)
       ·rw [if_neg c20] at H
        exact absurd H (by simp)
     ·replace c16 := Bool.eq_false_iff.mpr c16
      subst c16
      have H1 : (none) = some r := by rw [if_neg (show ¬ (false = true) by decide)] at H; exact H
      clear H
      have H := H1
      clear H1
      exact absurd H (by simp)
   ·replace c12 := Bool.eq_false_iff.mpr c12
    subst c12
    have H1 : (none) = some r := by rw [if_neg (show ¬ (false = true) by decide)] at H; exact H
    clear H
    have H := H1
    clear H1
    exact absurd H (by simp)
  ·replace c9 := Bool.eq_false_iff.mpr c9
   subst c9
   have H1 : (none) = some r := by rw [if_neg (show ¬ (false = true) by decide)] at H; exact H
   clear H
   have H := H1
   clear H1
   exact absurd H (by simp)

end Go.Proofs.Ytbpkmdghloapjaa.PBc
