/- Plain Lean functions of a law's Go functions, their contracts, by a program of this session (wip/pr.py over the kit's print). -/
import Derived.Test.YtfnpodebjejhpaaPTkx0
import Derived.Test.YtfnpodebjejhpaaPTkx2
import Derived.Test.YtfnpodebjejhpaaPTkx3
import Derived.Test.YtfnpodebjejhpaaPTkx4
namespace Go.Proofs.Ytfnpodebjejhpaa.PTk
open Go.RowKit Go.Proofs.YtfnpodebjejhpaaW.PrintWords Go.Proofs.YtfnpodebjejhpaaW.PrintLast Go.Proofs.YtfnpodebjejhpaaW.PrintMore
attribute [local go_sem] max2_int min2_int max_two min_two max_three min_three max_four min_four   -- for this text's walks alone
set_option linter.unusedVariables false
set_option linter.unusedSimpArgs false

attribute [local go_sem high] eqA75
/-! ### spec_TableOk: function 24 -/
mutual
def spec_TableOk.j0 : Nat → Int → Bool → Int → List (S75) → Option (Bool)
 | 0, _, _, _, _ => none
 | k + 1, x3, x37, x305000, x305001 => if x37 = true then (some false) else ((spec_l11Count.f k x305000 x305001).bind fun t305 => (if (wrap64 (4 * t305)) > (wrap64 (3 * x3)) then (some false) else (spec_TableOk.l0 k x3 0 x305000 x305001)))
def spec_TableOk.l0 : Nat → Int → Int → Int → List (S75) → Option (Bool)
 | 0, _, _, _, _ => none
 | k + 1, x3, x4, x305000, x305001 => if x4 < x3 then (if 0 ≤ x4 then (if x4 < (x305001.length : Int) then (if ((rd_T75 x305001 x4).f0 = true) then ((spec_FlowKeyOk.f ((rd_T75 x305001 x4).f1.f0) ((rd_T75 x305001 x4).f1.f1.f0.f0) ((rd_T75 x305001 x4).f1.f1.f0.f1) ((rd_T75 x305001 x4).f1.f1.f0.f2) ((rd_T75 x305001 x4).f1.f1.f0.f3) ((rd_T75 x305001 x4).f1.f1.f0.f4) ((rd_T75 x305001 x4).f1.f1.f1.f0) ((rd_T75 x305001 x4).f1.f1.f1.f1) ((rd_T75 x305001 x4).f1.f1.f1.f2) ((rd_T75 x305001 x4).f1.f1.f1.f3) ((rd_T75 x305001 x4).f1.f1.f1.f4) ((rd_T75 x305001 x4).f1.f1.f2) ((rd_T75 x305001 x4).f1.f1.f3) ((rd_T75 x305001 x4).f1.f1.f4)).bind fun t308 => (if t308 = true then (if ((rd_T75 x305001 x4).f2) < 0 then (spec_TableOk.j2 k x3 x4 true x305000 x305001 ((rd_T75 x305001 x4).f0) ((rd_T75 x305001 x4).f1.f0) ((rd_T75 x305001 x4).f1.f1.f0.f0) ((rd_T75 x305001 x4).f1.f1.f0.f1) ((rd_T75 x305001 x4).f1.f1.f0.f2) ((rd_T75 x305001 x4).f1.f1.f0.f3) ((rd_T75 x305001 x4).f1.f1.f0.f4) ((rd_T75 x305001 x4).f1.f1.f1.f0) ((rd_T75 x305001 x4).f1.f1.f1.f1) ((rd_T75 x305001 x4).f1.f1.f1.f2) ((rd_T75 x305001 x4).f1.f1.f1.f3) ((rd_T75 x305001 x4).f1.f1.f1.f4) ((rd_T75 x305001 x4).f1.f1.f2) ((rd_T75 x305001 x4).f1.f1.f3) ((rd_T75 x305001 x4).f1.f1.f4) ((rd_T75 x305001 x4).f2)) else (if ((rd_T75 x305001 x4).f2) > 1000000000000 then (spec_TableOk.j2 k x3 x4 true x305000 x305001 ((rd_T75 x305001 x4).f0) ((rd_T75 x305001 x4).f1.f0) ((rd_T75 x305001 x4).f1.f1.f0.f0) ((rd_T75 x305001 x4).f1.f1.f0.f1) ((rd_T75 x305001 x4).f1.f1.f0.f2) ((rd_T75 x305001 x4).f1.f1.f0.f3) ((rd_T75 x305001 x4).f1.f1.f0.f4) ((rd_T75 x305001 x4).f1.f1.f1.f0) ((rd_T75 x305001 x4).f1.f1.f1.f1) ((rd_T75 x305001 x4).f1.f1.f1.f2) ((rd_T75 x305001 x4).f1.f1.f1.f3) ((rd_T75 x305001 x4).f1.f1.f1.f4) ((rd_T75 x305001 x4).f1.f1.f2) ((rd_T75 x305001 x4).f1.f1.f3) ((rd_T75 x305001 x4).f1.f1.f4) ((rd_T75 x305001 x4).f2)) else ((spec_l11Place.f k x305000 x305001 ((rd_T75 x305001 x4).f1.f0) ((rd_T75 x305001 x4).f1.f1.f0.f0) ((rd_T75 x305001 x4).f1.f1.f0.f1) ((rd_T75 x305001 x4).f1.f1.f0.f2) ((rd_T75 x305001 x4).f1.f1.f0.f3) ((rd_T75 x305001 x4).f1.f1.f0.f4) ((rd_T75 x305001 x4).f1.f1.f1.f0) ((rd_T75 x305001 x4).f1.f1.f1.f1) ((rd_T75 x305001 x4).f1.f1.f1.f2) ((rd_T75 x305001 x4).f1.f1.f1.f3) ((rd_T75 x305001 x4).f1.f1.f1.f4) ((rd_T75 x305001 x4).f1.f1.f2) ((rd_T75 x305001 x4).f1.f1.f3) ((rd_T75 x305001 x4).f1.f1.f4)).bind fun t309 => (spec_TableOk.j2 k x3 x4 (t309 != x4) x305000 x305001 ((rd_T75 x305001 x4).f0) ((rd_T75 x305001 x4).f1.f0) ((rd_T75 x305001 x4).f1.f1.f0.f0) ((rd_T75 x305001 x4).f1.f1.f0.f1) ((rd_T75 x305001 x4).f1.f1.f0.f2) ((rd_T75 x305001 x4).f1.f1.f0.f3) ((rd_T75 x305001 x4).f1.f1.f0.f4) ((rd_T75 x305001 x4).f1.f1.f1.f0) ((rd_T75 x305001 x4).f1.f1.f1.f1) ((rd_T75 x305001 x4).f1.f1.f1.f2) ((rd_T75 x305001 x4).f1.f1.f1.f3) ((rd_T75 x305001 x4).f1.f1.f1.f4) ((rd_T75 x305001 x4).f1.f1.f2) ((rd_T75 x305001 x4).f1.f1.f3) ((rd_T75 x305001 x4).f1.f1.f4) ((rd_T75 x305001 x4).f2))))) else (spec_TableOk.j2 k x3 x4 true x305000 x305001 ((rd_T75 x305001 x4).f0) ((rd_T75 x305001 x4).f1.f0) ((rd_T75 x305001 x4).f1.f1.f0.f0) ((rd_T75 x305001 x4).f1.f1.f0.f1) ((rd_T75 x305001 x4).f1.f1.f0.f2) ((rd_T75 x305001 x4).f1.f1.f0.f3) ((rd_T75 x305001 x4).f1.f1.f0.f4) ((rd_T75 x305001 x4).f1.f1.f1.f0) ((rd_T75 x305001 x4).f1.f1.f1.f1) ((rd_T75 x305001 x4).f1.f1.f1.f2) ((rd_T75 x305001 x4).f1.f1.f1.f3) ((rd_T75 x305001 x4).f1.f1.f1.f4) ((rd_T75 x305001 x4).f1.f1.f2) ((rd_T75 x305001 x4).f1.f1.f3) ((rd_T75 x305001 x4).f1.f1.f4) ((rd_T75 x305001 x4).f2)))) else (if (((rd_T75 x305001 x4).f0) || ((!(((rd_T75 x305001 x4).f1.f0) == 0) || (((!(((rd_T75 x305001 x4).f1.f1.f0.f0) == 0) || (!(((rd_T75 x305001 x4).f1.f1.f0.f1) == 0) || (!(((rd_T75 x305001 x4).f1.f1.f0.f2) == 0) || (!(((rd_T75 x305001 x4).f1.f1.f0.f3) == 0) || (!(((rd_T75 x305001 x4).f1.f1.f0.f4) == 0)))))) || ((!(((rd_T75 x305001 x4).f1.f1.f1.f0) == 0) || (!(((rd_T75 x305001 x4).f1.f1.f1.f1) == 0) || (!(((rd_T75 x305001 x4).f1.f1.f1.f2) == 0) || (!(((rd_T75 x305001 x4).f1.f1.f1.f3) == 0) || (!(((rd_T75 x305001 x4).f1.f1.f1.f4) == 0)))))) || (!(((rd_T75 x305001 x4).f1.f1.f2) == 0) || (!(((rd_T75 x305001 x4).f1.f1.f3) == 0) || (!(((rd_T75 x305001 x4).f1.f1.f4) == 0)))))))) || (!(((rd_T75 x305001 x4).f2) == 0)))) = true then (some false) else (spec_TableOk.l0 k x3 (wrap64 (x4 + 1)) x305000 x305001))) else (none)) else (none)) else (some true)
def spec_TableOk.j2 : Nat → Int → Int → Bool → Int → List (S75) → Bool → Int → Int → Int → Int → Int → Int → Int → Int → Int → Int → Int → Int → Int → Int → Int → Option (Bool)
 | 0, _, _, _, _, _, _, _, _, _, _, _, _, _, _, _, _, _, _, _, _, _ => none
 | k + 1, x3, x4, x81, x305000, x305001, x308000, x308001, x308002, x308003, x308004, x308005, x308006, x308007, x308008, x308009, x308010, x308011, x308012, x308013, x308014, x308015 => if x81 = true then (some false) else ((spec_l11Home.f k x305000 x305001 x308001 x308002 x308003 x308004 x308005 x308006 x308007 x308008 x308009 x308010 x308011 x308012 x308013 x308014).bind fun t310 => (spec_TableOk.l1 k x3 x4 t310 x305000 x305001))
def spec_TableOk.l1 : Nat → Int → Int → Int → Int → List (S75) → Option (Bool)
 | 0, _, _, _, _, _ => none
 | k + 1, x3, x4, x6, x305000, x305001 => if x6 = x4 then (spec_TableOk.l0 k x3 (wrap64 (x4 + 1)) x305000 x305001) else (if 0 ≤ x6 then (if x6 < (x305001.length : Int) then (if ((rd_T75 x305001 x6).f0 = true) then (if x3 = 0 then (none) else (spec_TableOk.l1 k x3 x4 (Int.tmod (wrap64 (x6 + 1)) x3) x305000 x305001)) else (some false)) else (none)) else (none))
end
def spec_TableOk.f (k : Nat) (a0_0 : Int) (l0_1 : List (S75)) : Option (Bool) := if a0_0 < 0 then (spec_TableOk.j0 k (l0_1.length : Int) true a0_0 l0_1) else (if a0_0 > 4294967295 then (spec_TableOk.j0 k (l0_1.length : Int) true a0_0 l0_1) else (if (l0_1.length : Int) = 4 then (spec_TableOk.j0 k (l0_1.length : Int) false a0_0 l0_1) else (if (l0_1.length : Int) = 8 then (spec_TableOk.j0 k (l0_1.length : Int) false a0_0 l0_1) else (if (l0_1.length : Int) = 16 then (spec_TableOk.j0 k (l0_1.length : Int) false a0_0 l0_1) else (if (l0_1.length : Int) = 32 then (spec_TableOk.j0 k (l0_1.length : Int) false a0_0 l0_1) else (spec_TableOk.j0 k (l0_1.length : Int) ((l0_1.length : Int) != 64) a0_0 l0_1))))))
theorem spec_TableOk.mono_l : ∀ k, (∀ y0 y1 y2 y3, LeO (spec_TableOk.j0 k y0 y1 y2 y3) (spec_TableOk.j0 (k + 1) y0 y1 y2 y3)) ∧ (∀ y0 y1 y2 y3, LeO (spec_TableOk.l0 k y0 y1 y2 y3) (spec_TableOk.l0 (k + 1) y0 y1 y2 y3)) ∧ (∀ y0 y1 y2 y3 y4 y5 y6 y7 y8 y9 y10 y11 y12 y13 y14 y15 y16 y17 y18 y19 y20, LeO (spec_TableOk.j2 k y0 y1 y2 y3 y4 y5 y6 y7 y8 y9 y10 y11 y12 y13 y14 y15 y16 y17 y18 y19 y20) (spec_TableOk.j2 (k + 1) y0 y1 y2 y3 y4 y5 y6 y7 y8 y9 y10 y11 y12 y13 y14 y15 y16 y17 y18 y19 y20)) ∧ (∀ y0 y1 y2 y3 y4, LeO (spec_TableOk.l1 k y0 y1 y2 y3 y4) (spec_TableOk.l1 (k + 1) y0 y1 y2 y3 y4))
 | 0 => ⟨fun _ _ _ _ r h => by simp [spec_TableOk.j0] at h, fun _ _ _ _ r h => by simp [spec_TableOk.l0] at h, fun _ _ _ _ _ _ _ _ _ _ _ _ _ _ _ _ _ _ _ _ _ r h => by simp [spec_TableOk.j2] at h, fun _ _ _ _ _ r h => by simp [spec_TableOk.l1] at h⟩
 | k + 1 => by
  obtain ⟨ih0, ih1, ih2, ih3⟩ := spec_TableOk.mono_l k
  refine ⟨?_, ?_, ?_, ?_⟩
  ·intro y0 y1 y2 y3
   unfold spec_TableOk.j0
   repeat' first
   | (with_reducible exact ih0 _ _ _ _)
   | (with_reducible exact ih1 _ _ _ _)
   | (with_reducible exact ih2 _ _ _ _ _ _ _ _ _ _ _ _ _ _ _ _ _ _ _ _ _)
   | (with_reducible exact ih3 _ _ _ _ _)
   | (with_reducible exact spec_l11Count.mono _ _ _)
   | (with_reducible exact spec_l11Home.mono _ _ _ _ _ _ _ _ _ _ _ _ _ _ _ _ _)
   | (with_reducible exact spec_l11Place.mono _ _ _ _ _ _ _ _ _ _ _ _ _ _ _ _ _)
   | (with_reducible exact LeO.refl _)
   | (with_reducible exact LeO.none _)
   | (with_reducible refine LeO.ite ?_ ?_)
   | (with_reducible refine LeO.bind ?_ (fun _ => ?_))
   | exact ih0 _ _ _ _
   | exact ih1 _ _ _ _
   | exact ih2 _ _ _ _ _ _ _ _ _ _ _ _ _ _ _ _ _ _ _ _ _
   | exact ih3 _ _ _ _ _
   | exact spec_l11Count.mono _ _ _
   | exact spec_l11Home.mono _ _ _ _ _ _ _ _ _ _ _ _ _ _ _ _ _
   | exact spec_l11Place.mono _ _ _ _ _ _ _ _ _ _ _ _ _ _ _ _ _
   | exact LeO.none _
   | refine LeO.ite ?_ ?_
   | refine LeO.bind ?_ (fun _ => ?_)
  ·intro y0 y1 y2 y3
   unfold spec_TableOk.l0
   repeat' first
   | (with_reducible exact ih0 _ _ _ _)
   | (with_reducible exact ih1 _ _ _ _)
   | (with_reducible exact ih2 _ _ _ _ _ _ _ _ _ _ _ _ _ _ _ _ _ _ _ _ _)
   | (with_reducible exact ih3 _ _ _ _ _)
   | (with_reducible exact spec_l11Count.mono _ _ _)
   | (with_reducible exact spec_l11Home.mono _ _ _ _ _ _ _ _ _ _ _ _ _ _ _ _ _)
   | (with_reducible exact spec_l11Place.mono _ _ _ _ _ _ _ _ _ _ _ _ _ _ _ _ _)
   | (with_reducible exact LeO.refl _)
   | (with_reducible exact LeO.none _)
   | (with_reducible refine LeO.ite ?_ ?_)
   | (with_reducible refine LeO.bind ?_ (fun _ => ?_))
   | exact ih0 _ _ _ _
   | exact ih1 _ _ _ _
   | exact ih2 _ _ _ _ _ _ _ _ _ _ _ _ _ _ _ _ _ _ _ _ _
   | exact ih3 _ _ _ _ _
   | exact spec_l11Count.mono _ _ _
   | exact spec_l11Home.mono _ _ _ _ _ _ _ _ _ _ _ _ _ _ _ _ _
   | exact spec_l11Place.mono _ _ _ _ _ _ _ _ _ _ _ _ _ _ _ _ _
   | exact LeO.none _
   | refine LeO.ite ?_ ?_
   | refine LeO.bind ?_ (fun _ => ?_)
  ·intro y0 y1 y2 y3 y4 y5 y6 y7 y8 y9 y10 y11 y12 y13 y14 y15 y16 y17 y18 y19 y20
   unfold spec_TableOk.j2
   repeat' first
   | (with_reducible exact ih0 _ _ _ _)
   | (with_reducible exact ih1 _ _ _ _)
   | (with_reducible exact ih2 _ _ _ _ _ _ _ _ _ _ _ _ _ _ _ _ _ _ _ _ _)
   | (with_reducible exact ih3 _ _ _ _ _)
   | (with_reducible exact spec_l11Count.mono _ _ _)
   | (with_reducible exact spec_l11Home.mono _ _ _ _ _ _ _ _ _ _ _ _ _ _ _ _ _)
   | (with_reducible exact spec_l11Place.mono _ _ _ _ _ _ _ _ _ _ _ _ _ _ _ _ _)
   | (with_reducible exact LeO.refl _)
   | (with_reducible exact LeO.none _)
   | (with_reducible refine LeO.ite ?_ ?_)
   | (with_reducible refine LeO.bind ?_ (fun _ => ?_))
   | exact ih0 _ _ _ _
   | exact ih1 _ _ _ _
   | exact ih2 _ _ _ _ _ _ _ _ _ _ _ _ _ _ _ _ _ _ _ _ _
   | exact ih3 _ _ _ _ _
   | exact spec_l11Count.mono _ _ _
   | exact spec_l11Home.mono _ _ _ _ _ _ _ _ _ _ _ _ _ _ _ _ _
   | exact spec_l11Place.mono _ _ _ _ _ _ _ _ _ _ _ _ _ _ _ _ _
   | exact LeO.none _
   | refine LeO.ite ?_ ?_
   | refine LeO.bind ?_ (fun _ => ?_)
  ·intro y0 y1 y2 y3 y4
   unfold spec_TableOk.l1
   repeat' first
   | (with_reducible exact ih0 _ _ _ _)
   | (with_reducible exact ih1 _ _ _ _)
   | (with_reducible exact ih2 _ _ _ _ _ _ _ _ _ _ _ _ _ _ _ _ _ _ _ _ _)
   | (with_reducible exact ih3 _ _ _ _ _)
   | (with_reducible exact spec_l11Count.mono _ _ _)
   | (with_reducible exact spec_l11Home.mono _ _ _ _ _ _ _ _ _ _ _ _ _ _ _ _ _)
   | (with_reducible exact spec_l11Place.mono _ _ _ _ _ _ _ _ _ _ _ _ _ _ _ _ _)
   | (with_reducible exact LeO.refl _)
   | (with_reducible exact LeO.none _)
   | (with_reducible refine LeO.ite ?_ ?_)
   | (with_reducible refine LeO.bind ?_ (fun _ => ?_))
   | exact ih0 _ _ _ _
   | exact ih1 _ _ _ _
   | exact ih2 _ _ _ _ _ _ _ _ _ _ _ _ _ _ _ _ _ _ _ _ _
   | exact ih3 _ _ _ _ _
   | exact spec_l11Count.mono _ _ _
   | exact spec_l11Home.mono _ _ _ _ _ _ _ _ _ _ _ _ _ _ _ _ _
   | exact spec_l11Place.mono _ _ _ _ _ _ _ _ _ _ _ _ _ _ _ _ _
   | exact LeO.none _
   | refine LeO.ite ?_ ?_
   | refine LeO.bind ?_ (fun _ => ?_)
theorem spec_TableOk.mono : ∀ a0 a1 k, LeO (spec_TableOk.f k a0 a1) (spec_TableOk.f (k + 1) a0 a1) := by
 intro a0 a1 k
 obtain ⟨ih0, ih1, ih2, ih3⟩ := spec_TableOk.mono_l k
 unfold spec_TableOk.f
 repeat' first
   | (with_reducible exact ih0 _ _ _ _)
   | (with_reducible exact ih1 _ _ _ _)
   | (with_reducible exact ih2 _ _ _ _ _ _ _ _ _ _ _ _ _ _ _ _ _ _ _ _ _)
   | (with_reducible exact ih3 _ _ _ _ _)
   | (with_reducible exact spec_l11Count.mono _ _ _)
   | (with_reducible exact spec_l11Home.mono _ _ _ _ _ _ _ _ _ _ _ _ _ _ _ _ _)
   | (with_reducible exact spec_l11Place.mono _ _ _ _ _ _ _ _ _ _ _ _ _ _ _ _ _)
   | (with_reducible exact LeO.refl _)
   | (with_reducible exact LeO.none _)
   | (with_reducible refine LeO.ite ?_ ?_)
   | (with_reducible refine LeO.bind ?_ (fun _ => ?_))
   | exact ih0 _ _ _ _
   | exact ih1 _ _ _ _
   | exact ih2 _ _ _ _ _ _ _ _ _ _ _ _ _ _ _ _ _ _ _ _ _
   | exact ih3 _ _ _ _ _
   | exact spec_l11Count.mono _ _ _
   | exact spec_l11Home.mono _ _ _ _ _ _ _ _ _ _ _ _ _ _ _ _ _
   | exact spec_l11Place.mono _ _ _ _ _ _ _ _ _ _ _ _ _ _ _ _ _
   | exact LeO.none _
   | refine LeO.ite ?_ ?_
   | refine LeO.bind ?_ (fun _ => ?_)
set_option maxHeartbeats 8000000 in
set_option maxRecDepth 100000 in
theorem spec_TableOk.calls (k : Nat) (a0_0 : Int) (A0_1 : Option Addr) (c0_1 : Nat) (l0_1 : List (S75)) (r : Bool) (w : World) (hr0_1 : Kd.C k75 w A0_1 l0_1.length l0_1) (hc0_1 : l0_1.length ≤ c0_1) (h : spec_TableOk.f k a0_0 l0_1 = some r) :
  Calls Try.prog 24 #[.agg #[.int .i64 a0_0, .slice A0_1 l0_1.length c0_1]] w fun e w' => e = .returned (.bool r) ∧ Below w.heap.size w w' := by
 have hu40 := Try.underlying40
 have hu75 := Try.underlying75
 have hu33 := Try.underlying33
 have HR0_1 := Gv.a0 hr0_1
 have HC0_1 := Gv.a0 hc0_1
 clear hr0_1 hc0_1
 have HB := Gv.a0 (Below.refl w.heap.size w)
 have H : (if a0_0 < 0 then (spec_TableOk.j0 k (l0_1.length : Int) true a0_0 l0_1) else (if a0_0 > 4294967295 then (spec_TableOk.j0 k (l0_1.length : Int) true a0_0 l0_1) else (if (l0_1.length : Int) = 4 then (spec_TableOk.j0 k (l0_1.length : Int) false a0_0 l0_1) else (if (l0_1.length : Int) = 8 then (spec_TableOk.j0 k (l0_1.length : Int) false a0_0 l0_1) else (if (l0_1.length : Int) = 16 then (spec_TableOk.j0 k (l0_1.length : Int) false a0_0 l0_1) else (if (l0_1.length : Int) = 32 then (spec_TableOk.j0 k (l0_1.length : Int) false a0_0 l0_1) else (spec_TableOk.j0 k (l0_1.length : Int) ((l0_1.length : Int) != 64) a0_0 l0_1))))))) = some r := h
 clear h
 have HC2 := Gv.a0 H
 clear H
 go_enter Try.func24, Try.ntmps24
 go_upto_region 2 with (first | ((with_reducible refine gate_dst (N := 1) rfl ?_); refine box_event ?hg (N := 1) ?hd (cs := #[.int .i64 a0_0, .slice A0_1 l0_1.length c0_1]) (t := 40) ?hr ?_; (case hd => rfl); (case hg => rfl); (case hr => first | (go_simp; done) | (go_simp; rfl)); intro gb304 hg w3 hbox hb; have n0_ := Gv.a0 (below_step Gv.bw hb); have n1_ := Gv.a0 (hbox); have n2_ := Gv.a0 ((Gv.ble hg Gv.bw : w.heap.size ≤ gb304)); have n3_ := Gv.a0 ((Gv.ble hg Gv.bw : w.heap.size ≤ gb304)); clear HB; have HB := n0_; have BK304 := n1_; have GW304 := n2_; have GE304 := n3_; clear n0_ n1_ n2_ n3_; clear hb hbox hg; have hcz4_0 : w3.cell? ⟨gb304, 0, none⟩ = some (.int .i64 a0_0) := (blk_cell BK304.out 0).trans rfl; have hcz4_1 : w3.cell? ⟨gb304, 1, none⟩ = some (.slice A0_1 l0_1.length c0_1) := (blk_cell BK304.out 1).trans rfl; have hfz4_0 := blk_frozen BK304.out 0; have hfz4_1 := blk_frozen BK304.out 1) | ((with_reducible refine gate_store (t := 40) (p := 1) rfl ?_); refine Gv.store_event rfl rfl rfl rfl rfl (Gv.kb BK304.out) (by kernel_rfl) rfl (by simp; and_intros <;> rfl) ?_; intro w3s hbox hoth hbel; have n0_ := Gv.a0 (hbox); have n1_ := Gv.a0 (hbel w Gv.bw GE304.out); clear BK304 HB; have BK304 := n0_; have HB := n1_; clear n0_ n1_ hbox hoth hbel; (try clear hcz4_0 hcz4_1 hfz4_0 hfz4_1); have hcz4_0 : w3s.cell? ⟨gb304, 0, none⟩ = some (.int .i64 a0_0) := (blk_cell BK304.out 0).trans rfl; have hcz4_1 : w3s.cell? ⟨gb304, 1, none⟩ = some (.slice A0_1 l0_1.length c0_1) := (blk_cell BK304.out 1).trans rfl; have hfz4_0 := blk_frozen BK304.out 0; have hfz4_1 := blk_frozen BK304.out 1) | ((with_reducible refine Gv.gate_load (t := 75) rfl ?_); (try (refine gate_guard (by rfl) ?_; dsimp only)); refine wpList_load_row rfl 75 _ rfl gb307 rfl 75 _ _ _ (by first | exact Gv.kb0 BK307.out | exact Gv.kb1 (Gv.kb0 BK307.out)) Try.underlying75 rfl (by kernel_rfl) ?_))
 (try simp only [Act.put, List.setIfInBounds_toArray, List.set_cons_zero, List.set_cons_succ])
 go_cut [37] (fun v37 wc => ∃ (kq : Nat) (x37_1 : Bool), v37 = .bool x37_1 ∧ Aside0 (spec_TableOk.j0 kq (l0_1.length : Int) x37_1 a0_0 l0_1 = some r) ∧ Aside0 (kq ≤ k) ∧ Aside0 (wc.heap[gb304]? = some (.cells #[.int .i64 a0_0, (.slice A0_1 l0_1.length c0_1)] 40 (0, 0))) ∧ Aside0 (Below w.heap.size w wc))
 case first =>
  have H := HC2.out
  clear HC2
  by_cases c5 : a0_0 < 0
  ·rw [if_pos c5] at H
   have c5b0 : decide (a0_0 < 0) = true := decide_eq_true c5
   clear c5
   (first | rw [c5b0] | (simp only [i64_w, i32_w]; rw [c5b0]) | skip)
   have H' := Gv.a0 H
   clear H
   have hcz6_0 : w3.cell? ⟨gb304, 0, none⟩ = some (.int .i64 a0_0) := (blk_cell BK304.out 0).trans rfl
   have hcz6_1 : w3.cell? ⟨gb304, 1, none⟩ = some (.slice A0_1 l0_1.length c0_1) := (blk_cell BK304.out 1).trans rfl
   have hfz6_0 := blk_frozen BK304.out 0
   have hfz6_1 := blk_frozen BK304.out 1
   go_wp2_with (first | ((with_reducible refine Gv.gate_load (t := 75) rfl ?_); (try (refine gate_guard (by rfl) ?_; dsimp only)); refine wpList_load_row rfl 75 _ rfl gb307 rfl 75 _ _ _ (by first | exact Gv.kb0 BK307.out | exact Gv.kb1 (Gv.kb0 BK307.out)) Try.underlying75 rfl (by kernel_rfl) ?_))
   go_meet
   case rel => exact ⟨_, (true), Gv.rq, H', ⟨by first | omega | exact Nat.le_refl _⟩, ⟨by (with_reducible repeat (first | refine blk_drewN ?_ _ | refine blk_drew ?_ | refine blk_alloc ?_ _)); exact BK304.out⟩, ⟨Gv.bw⟩⟩
  ·rw [if_neg c5] at H
   have c5b0 : decide (a0_0 < 0) = false := decide_eq_false c5
   clear c5
   (first | rw [c5b0] | (simp only [i64_w, i32_w]; rw [c5b0]) | skip)
   by_cases c7 : a0_0 > 4294967295
   ·rw [if_pos c7] at H
    have c7b0 : decide (4294967295 < a0_0) = true := decide_eq_true c7
    clear c7
    have H' := Gv.a0 H
    clear H
    have hcz8_0 : w3.cell? ⟨gb304, 0, none⟩ = some (.int .i64 a0_0) := (blk_cell BK304.out 0).trans rfl
    have hcz8_1 : w3.cell? ⟨gb304, 1, none⟩ = some (.slice A0_1 l0_1.length c0_1) := (blk_cell BK304.out 1).trans rfl
    have hfz8_0 := blk_frozen BK304.out 0
    have hfz8_1 := blk_frozen BK304.out 1
    go_wp2_with (first | ((with_reducible refine Gv.gate_load (t := 75) rfl ?_); (try (refine gate_guard (by rfl) ?_; dsimp only)); refine wpList_load_row rfl 75 _ rfl gb307 rfl 75 _ _ _ (by first | exact Gv.kb0 BK307.out | exact Gv.kb1 (Gv.kb0 BK307.out)) Try.underlying75 rfl (by kernel_rfl) ?_))
    go_meet
    case rel => exact ⟨_, (true), Gv.rq, H', ⟨by first | omega | exact Nat.le_refl _⟩, ⟨by (with_reducible repeat (first | refine blk_drewN ?_ _ | refine blk_drew ?_ | refine blk_alloc ?_ _)); exact BK304.out⟩, ⟨Gv.bw⟩⟩
   ·rw [if_neg c7] at H
    have c7b0 : decide (4294967295 < a0_0) = false := decide_eq_false c7
    clear c7
    by_cases c9 : (l0_1.length : Int) = 4
    ·rw [if_pos c9] at H
     have c9b0 : ((l0_1.length : Int) == 4) = true := beq_iff_eq.mpr c9
     have c9b1 : ((l0_1.length : Int) != 4) = false := bne_eq_false_iff_eq.mpr c9
     clear c9
     have H' := Gv.a0 H
     clear H
     have hcz10_0 : w3.cell? ⟨gb304, 0, none⟩ = some (.int .i64 a0_0) := (blk_cell BK304.out 0).trans rfl
     have hcz10_1 : w3.cell? ⟨gb304, 1, none⟩ = some (.slice A0_1 l0_1.length c0_1) := (blk_cell BK304.out 1).trans rfl
     have hfz10_0 := blk_frozen BK304.out 0
     have hfz10_1 := blk_frozen BK304.out 1
     go_wp2_with (first | ((with_reducible refine Gv.gate_load (t := 75) rfl ?_); (try (refine gate_guard (by rfl) ?_; dsimp only)); refine wpList_load_row rfl 75 _ rfl gb307 rfl 75 _ _ _ (by first | exact Gv.kb0 BK307.out | exact Gv.kb1 (Gv.kb0 BK307.out)) Try.underlying75 rfl (by kernel_rfl) ?_))
     go_meet
     case rel => exact ⟨_, (false), Gv.rq, H', ⟨by first | omega | exact Nat.le_refl _⟩, ⟨by (with_reducible repeat (first | refine blk_drewN ?_ _ | refine blk_drew ?_ | refine blk_alloc ?_ _)); exact BK304.out⟩, ⟨Gv.bw⟩⟩
    ·rw [if_neg c9] at H
     have c9b0 : ((l0_1.length : Int) == 4) = false := beq_eq_false_iff_ne.mpr c9
     have c9b1 : ((l0_1.length : Int) != 4) = true := bne_iff_ne.mpr c9
     by_cases c11 : (l0_1.length : Int) = 8
     ·rw [if_pos c11] at H
      have c11b0 : ((l0_1.length : Int) == 8) = true := beq_iff_eq.mpr c11
      have c11b1 : ((l0_1.length : Int) != 8) = false := bne_eq_false_iff_eq.mpr c11
      clear c11
      have H' := Gv.a0 H
      clear H
      have hcz12_0 : w3.cell? ⟨gb304, 0, none⟩ = some (.int .i64 a0_0) := (blk_cell BK304.out 0).trans rfl
      have hcz12_1 : w3.cell? ⟨gb304, 1, none⟩ = some (.slice A0_1 l0_1.length c0_1) := (blk_cell BK304.out 1).trans rfl
      have hfz12_0 := blk_frozen BK304.out 0
      have hfz12_1 := blk_frozen BK304.out 1
      go_wp2_with (first | ((with_reducible refine Gv.gate_load (t := 75) rfl ?_); (try (refine gate_guard (by rfl) ?_; dsimp only)); refine wpList_load_row rfl 75 _ rfl gb307 rfl 75 _ _ _ (by first | exact Gv.kb0 BK307.out | exact Gv.kb1 (Gv.kb0 BK307.out)) Try.underlying75 rfl (by kernel_rfl) ?_))
      go_meet
      case rel => exact ⟨_, (false), Gv.rq, H', ⟨by first | omega | exact Nat.le_refl _⟩, ⟨by (with_reducible repeat (first | refine blk_drewN ?_ _ | refine blk_drew ?_ | refine blk_alloc ?_ _)); exact BK304.out⟩, ⟨Gv.bw⟩⟩
     ·rw [if_neg c11] at H
      have c11b0 : ((l0_1.length : Int) == 8) = false := beq_eq_false_iff_ne.mpr c11
      have c11b1 : ((l0_1.length : Int) != 8) = true := bne_iff_ne.mpr c11
      by_cases c13 : (l0_1.length : Int) = 16
      ·rw [if_pos c13] at H
       have c13b0 : ((l0_1.length : Int) == 16) = true := beq_iff_eq.mpr c13
       have c13b1 : ((l0_1.length : Int) != 16) = false := bne_eq_false_iff_eq.mpr c13
       clear c13
       have H' := Gv.a0 H
       clear H
       have hcz14_0 : w3.cell? ⟨gb304, 0, none⟩ = some (.int .i64 a0_0) := (blk_cell BK304.out 0).trans rfl
       have hcz14_1 : w3.cell? ⟨gb304, 1, none⟩ = some (.slice A0_1 l0_1.length c0_1) := (blk_cell BK304.out 1).trans rfl
       have hfz14_0 := blk_frozen BK304.out 0
       have hfz14_1 := blk_frozen BK304.out 1
       go_wp2_with (first | ((with_reducible refine Gv.gate_load (t := 75) rfl ?_); (try (refine gate_guard (by rfl) ?_; dsimp only)); refine wpList_load_row rfl 75 _ rfl gb307 rfl 75 _ _ _ (by first | exact Gv.kb0 BK307.out | exact Gv.kb1 (Gv.kb0 BK307.out)) Try.underlying75 rfl (by kernel_rfl) ?_))
       go_meet
       case rel => exact ⟨_, (false), Gv.rq, H', ⟨by first | omega | exact Nat.le_refl _⟩, ⟨by (with_reducible repeat (first | refine blk_drewN ?_ _ | refine blk_drew ?_ | refine blk_alloc ?_ _)); exact BK304.out⟩, ⟨Gv.bw⟩⟩
      ·rw [if_neg c13] at H
       have c13b0 : ((l0_1.length : Int) == 16) = false := beq_eq_false_iff_ne.mpr c13
       have c13b1 : ((l0_1.length : Int) != 16) = true := bne_iff_ne.mpr c13
       by_cases c15 : (l0_1.length : Int) = 32
       ·rw [if_pos c15] at H
        have c15b0 : ((l0_1.length : Int) == 32) = true := beq_iff_eq.mpr c15
        have c15b1 : ((l0_1.length : Int) != 32) = false := bne_eq_false_iff_eq.mpr c15
        clear c15
        have H' := Gv.a0 H
        clear H
        have hcz16_0 : w3.cell? ⟨gb304, 0, none⟩ = some (.int .i64 a0_0) := (blk_cell BK304.out 0).trans rfl
        have hcz16_1 : w3.cell? ⟨gb304, 1, none⟩ = some (.slice A0_1 l0_1.length c0_1) := (blk_cell BK304.out 1).trans rfl
        have hfz16_0 := blk_frozen BK304.out 0
        have hfz16_1 := blk_frozen BK304.out 1
        go_wp2_with (first | ((with_reducible refine Gv.gate_load (t := 75) rfl ?_); (try (refine gate_guard (by rfl) ?_; dsimp only)); refine wpList_load_row rfl 75 _ rfl gb307 rfl 75 _ _ _ (by first | exact Gv.kb0 BK307.out | exact Gv.kb1 (Gv.kb0 BK307.out)) Try.underlying75 rfl (by kernel_rfl) ?_))
        go_meet
        case rel => exact ⟨_, (false), Gv.rq, H', ⟨by first | omega | exact Nat.le_refl _⟩, ⟨by (with_reducible repeat (first | refine blk_drewN ?_ _ | refine blk_drew ?_ | refine blk_alloc ?_ _)); exact BK304.out⟩, ⟨Gv.bw⟩⟩
       ·rw [if_neg c15] at H
        have c15b0 : ((l0_1.length : Int) == 32) = false := beq_eq_false_iff_ne.mpr c15
        have c15b1 : ((l0_1.length : Int) != 32) = true := bne_iff_ne.mpr c15
        have H' := Gv.a0 H
        clear H
        have hcz17_0 : w3.cell? ⟨gb304, 0, none⟩ = some (.int .i64 a0_0) := (blk_cell BK304.out 0).trans rfl
        have hcz17_1 : w3.cell? ⟨gb304, 1, none⟩ = some (.slice A0_1 l0_1.length c0_1) := (blk_cell BK304.out 1).trans rfl
        have hfz17_0 := blk_frozen BK304.out 0
        have hfz17_1 := blk_frozen BK304.out 1
        go_wp2_with (first | ((with_reducible refine Gv.gate_load (t := 75) rfl ?_); (try (refine gate_guard (by rfl) ?_; dsimp only)); refine wpList_load_row rfl 75 _ rfl gb307 rfl 75 _ _ _ (by first | exact Gv.kb0 BK307.out | exact Gv.kb1 (Gv.kb0 BK307.out)) Try.underlying75 rfl (by kernel_rfl) ?_))
        go_meet
        case rel => exact ⟨_, (((l0_1.length : Int) != 64)), Gv.rq, H', ⟨by first | omega | exact Nat.le_refl _⟩, ⟨by (with_reducible repeat (first | refine blk_drewN ?_ _ | refine blk_drew ?_ | refine blk_alloc ?_ _)); exact BK304.out⟩, ⟨Gv.bw⟩⟩
 case rest =>
  clear HC2
  try clear c1
  try clear c2
  try clear p2
  try clear c5
  try clear c5b0
  try clear c7
  try clear c7b0
  try clear c9
  try clear c9b0
  try clear c9b1
  try clear c11
  try clear c11b0
  try clear c11b1
  try clear c13
  try clear c13b0
  try clear c13b1
  try clear c15
  try clear c15b0
  try clear c15b1
  try clear hcz10_0 hcz10_1
  try clear hcz12_0 hcz12_1
  try clear hcz14_0 hcz14_1
  try clear hcz16_0 hcz16_1
  try clear hcz17_0 hcz17_1
  try clear hcz4_0 hcz4_1
  try clear hcz6_0 hcz6_1
  try clear hcz8_0 hcz8_1
  try clear hfz10_0 hfz10_1
  try clear hfz12_0 hfz12_1
  try clear hfz14_0 hfz14_1
  try clear hfz16_0 hfz16_1
  try clear hfz17_0 hfz17_1
  try clear hfz4_0 hfz4_1
  try clear hfz6_0 hfz6_1
  try clear hfz8_0 hfz8_1
  obtain ⟨kq, x37_1, rfl, HA, HJ1, BK304, HB⟩ := hcut
  cases kq with
  | zero => exact absurd HA.out (by simp [spec_TableOk.j0])
  | succ kj1 =>
   have H := HA.out
   clear HA
   simp only [spec_TableOk.j0] at H
   by_cases c18 : x37_1 = true
   ·subst c18
    have H1 : (some false) = some r := by rw [if_pos rfl] at H; exact H
    clear H
    have H := H1
    clear H1
    obtain rfl := Option.some.inj H
    go_wp2_with (first | ((with_reducible refine Gv.gate_load (t := 75) rfl ?_); (try (refine gate_guard (by rfl) ?_; dsimp only)); refine wpList_load_row rfl 75 _ rfl gb307 rfl 75 _ _ _ (by first | exact Gv.kb0 BK307.out | exact Gv.kb1 (Gv.kb0 BK307.out)) Try.underlying75 rfl (by kernel_rfl) ?_))
    go_ret
    exact ⟨Gv.rt, Gv.bw⟩
   ·replace c18 := Bool.eq_false_iff.mpr c18
    subst c18
    have H1 : ((spec_l11Count.f kj1 a0_0 l0_1).bind fun t305 => (if (wrap64 (4 * t305)) > (wrap64 (3 * (l0_1.length : Int))) then (some false) else (spec_TableOk.l0 kj1 (l0_1.length : Int) 0 a0_0 l0_1))) = some r := by rw [if_neg (show ¬ (false = true) by decide)] at H; exact H
    clear H
    have H := H1
    clear H1
    replace H := Option.bind_eq_some_iff.mp H
    obtain ⟨t305, A190, H⟩ := H
    replace H : (if (wrap64 (4 * t305)) > (wrap64 (3 * (l0_1.length : Int))) then (some false) else (spec_TableOk.l0 kj1 (l0_1.length : Int) 0 a0_0 l0_1)) = some r := H
    have A19 := Gv.a0 A190
    clear A190
    by_cases c20 : (wrap64 (4 * t305)) > (wrap64 (3 * (l0_1.length : Int)))
    ·rw [if_pos c20] at H
     have c20b0 : decide ((wrap64 (3 * (l0_1.length : Int))) < (wrap64 (4 * t305))) = true := decide_eq_true c20
     clear c20
     obtain rfl := Option.some.inj H
     have hcz21_0 : wc.cell? ⟨gb304, 0, none⟩ = some (.int .i64 a0_0) := (blk_cell BK304.out 0).trans rfl
     have hcz21_1 : wc.cell? ⟨gb304, 1, none⟩ = some (.slice A0_1 l0_1.length c0_1) := (blk_cell BK304.out 1).trans rfl
     have hfz21_0 := blk_frozen BK304.out 0
     have hfz21_1 := blk_frozen BK304.out 1
     go_wp2_with (first | ((with_reducible refine gate_callee (f := 53) rfl ?_); refine goesL_ (some 39) rfl rfl Try.func53 (by kernel_rfl) rfl #[.agg #[.int .i64 a0_0, .slice A0_1 l0_1.length c0_1]] rfl Gv.lm ?_; (with_reducible refine (spec_l11Count.calls kj1 a0_0 _ _ l0_1 t305 _ ?side1 ?side2 A19.out).mono ?_); (case side1 => repeat (first | exact (Kd.C_below HR0_1.out HB.out) | (with_reducible refine Kd.C_alloc ?_ _) | (with_reducible refine Kd.C_drewN ?_ _) | (with_reducible refine Kd.C_drew ?_))); (case side2 => exact HC0_1.out); rintro e w22 ⟨rfl, hb⟩; refine ⟨_, rfl, ?_⟩; have n0_ := Gv.a0 (Gv.bb BK304.out hb); have n1_ := Gv.a0 (below_step Gv.bw hb); clear BK304; clear HB; have BK304 := n0_; have HB := n1_; clear n0_ n1_; (try clear hb); (try clear hb2); (try clear hk); (try clear hi)) | ((with_reducible refine Gv.gate_load (t := 75) rfl ?_); (try (refine gate_guard (by rfl) ?_; dsimp only)); refine wpList_load_row rfl 75 _ rfl gb307 rfl 75 _ _ _ (by first | exact Gv.kb0 BK307.out | exact Gv.kb1 (Gv.kb0 BK307.out)) Try.underlying75 rfl (by kernel_rfl) ?_))
     go_ret
     exact ⟨Gv.rt, Gv.bw⟩
    ·rw [if_neg c20] at H
     have c20b0 : decide ((wrap64 (3 * (l0_1.length : Int))) < (wrap64 (4 * t305))) = false := decide_eq_false c20
     clear c20
     have H' := Gv.a0 H
     clear H
     have hcz23_0 : wc.cell? ⟨gb304, 0, none⟩ = some (.int .i64 a0_0) := (blk_cell BK304.out 0).trans rfl
     have hcz23_1 : wc.cell? ⟨gb304, 1, none⟩ = some (.slice A0_1 l0_1.length c0_1) := (blk_cell BK304.out 1).trans rfl
     have hfz23_0 := blk_frozen BK304.out 0
     have hfz23_1 := blk_frozen BK304.out 1
     go_wp2_with (first | ((with_reducible refine gate_callee (f := 53) rfl ?_); refine goesL_ (some 39) rfl rfl Try.func53 (by kernel_rfl) rfl #[.agg #[.int .i64 a0_0, .slice A0_1 l0_1.length c0_1]] rfl Gv.lm ?_; (with_reducible refine (spec_l11Count.calls kj1 a0_0 _ _ l0_1 t305 _ ?side1 ?side2 A19.out).mono ?_); (case side1 => repeat (first | exact (Kd.C_below HR0_1.out HB.out) | (with_reducible refine Kd.C_alloc ?_ _) | (with_reducible refine Kd.C_drewN ?_ _) | (with_reducible refine Kd.C_drew ?_))); (case side2 => exact HC0_1.out); rintro e w24 ⟨rfl, hb⟩; refine ⟨_, rfl, ?_⟩; have n0_ := Gv.a0 (Gv.bb BK304.out hb); have n1_ := Gv.a0 (below_step Gv.bw hb); clear BK304; clear HB; have BK304 := n0_; have HB := n1_; clear n0_ n1_; (try clear hb); (try clear hb2); (try clear hk); (try clear hi)) | ((with_reducible refine Gv.gate_load (t := 75) rfl ?_); (try (refine gate_guard (by rfl) ?_; dsimp only)); refine wpList_load_row rfl 75 _ rfl gb307 rfl 75 _ _ _ (by first | exact Gv.kb0 BK307.out | exact Gv.kb1 (Gv.kb0 BK307.out)) Try.underlying75 rfl (by kernel_rfl) ?_))
     go_loopg [4] kj1 (fun kq v4 w' => ∃ (x4_2 : Int), v4 = .int .i64 x4_2 ∧ Aside0 (spec_TableOk.l0 kq (l0_1.length : Int) x4_2 a0_0 l0_1 = some r) ∧ Aside0 (kq ≤ kj1) ∧ Aside0 (w'.heap[gb304]? = some (.cells #[.int .i64 a0_0, (.slice A0_1 l0_1.length c0_1)] 40 (0, 0))) ∧ Aside0 (Below w.heap.size w w'))
     case atStart => exact ⟨(0), Gv.rq, H', ⟨Nat.le_refl _⟩, ⟨by (with_reducible repeat (first | refine blk_drewN ?_ _ | refine blk_drew ?_ | refine blk_alloc ?_ _)); exact BK304.out⟩, ⟨Gv.bw⟩⟩
     case round =>
      clear H'
      try clear c1
      try clear c2
      try clear p2
      try clear c5
      try clear c5b0
      try clear p6
      try clear c7
      try clear c7b0
      try clear c9
      try clear c9b0
      try clear c9b1
      try clear c11
      try clear c11b0
      try clear c11b1
      try clear c13
      try clear c13b0
      try clear c13b1
      try clear c15
      try clear c15b0
      try clear c15b1
      try clear c18
      try clear c20
      try clear c20b0
      try clear c24
      try clear hcz10_0 hcz10_1
      try clear hcz12_0 hcz12_1
      try clear hcz14_0 hcz14_1
      try clear hcz16_0 hcz16_1
      try clear hcz17_0 hcz17_1
      try clear hcz21_0 hcz21_1
      try clear hcz23_0 hcz23_1
      try clear hcz4_0 hcz4_1
      try clear hcz6_0 hcz6_1
      try clear hcz8_0 hcz8_1
      try clear hfz10_0 hfz10_1
      try clear hfz12_0 hfz12_1
      try clear hfz14_0 hfz14_1
      try clear hfz16_0 hfz16_1
      try clear hfz17_0 hfz17_1
      try clear hfz21_0 hfz21_1
      try clear hfz23_0 hfz23_1
      try clear hfz4_0 hfz4_1
      try clear hfz6_0 hfz6_1
      try clear hfz8_0 hfz8_1
      try clear p2
      obtain ⟨x4_2, rfl, HA, HK2, BK304, HB⟩ := hrel
      cases gk with
      | zero => exact absurd HA.out (by simp [spec_TableOk.l0])
      | succ k2 =>
       have H := HA.out
       clear HA
       simp only [spec_TableOk.l0] at H
       by_cases c25 : x4_2 < (l0_1.length : Int)
       ·rw [if_pos c25] at H
        have c25b0 : decide (x4_2 < (l0_1.length : Int)) = true := decide_eq_true c25
        clear c25
        by_cases c26 : 0 ≤ x4_2
        ·rw [if_pos c26] at H
         have c26b0 : decide (0 ≤ x4_2) = true := decide_eq_true c26
         clear c26
         by_cases c27 : x4_2 < (l0_1.length : Int)
         ·rw [if_pos c27] at H
          have c27b0 : decide (x4_2 < (l0_1.length : Int)) = true := decide_eq_true c27
          clear c27
          obtain ⟨bq28, hbq28⟩ : ∃ b_ : Bool, b_ = ((rd_T75 l0_1 x4_2).f0) := ⟨_, rfl⟩
          replace H : (if (bq28 = true) then ((spec_FlowKeyOk.f ((rd_T75 l0_1 x4_2).f1.f0) ((rd_T75 l0_1 x4_2).f1.f1.f0.f0) ((rd_T75 l0_1 x4_2).f1.f1.f0.f1) ((rd_T75 l0_1 x4_2).f1.f1.f0.f2) ((rd_T75 l0_1 x4_2).f1.f1.f0.f3) ((rd_T75 l0_1 x4_2).f1.f1.f0.f4) ((rd_T75 l0_1 x4_2).f1.f1.f1.f0) ((rd_T75 l0_1 x4_2).f1.f1.f1.f1) ((rd_T75 l0_1 x4_2).f1.f1.f1.f2) ((rd_T75 l0_1 x4_2).f1.f1.f1.f3) ((rd_T75 l0_1 x4_2).f1.f1.f1.f4) ((rd_T75 l0_1 x4_2).f1.f1.f2) ((rd_T75 l0_1 x4_2).f1.f1.f3) ((rd_T75 l0_1 x4_2).f1.f1.f4)).bind fun t308 => (if t308 = true then (if ((rd_T75 l0_1 x4_2).f2) < 0 then (spec_TableOk.j2 k2 (l0_1.length : Int) x4_2 true a0_0 l0_1 bq28 ((rd_T75 l0_1 x4_2).f1.f0) ((rd_T75 l0_1 x4_2).f1.f1.f0.f0) ((rd_T75 l0_1 x4_2).f1.f1.f0.f1) ((rd_T75 l0_1 x4_2).f1.f1.f0.f2) ((rd_T75 l0_1 x4_2).f1.f1.f0.f3) ((rd_T75 l0_1 x4_2).f1.f1.f0.f4) ((rd_T75 l0_1 x4_2).f1.f1.f1.f0) ((rd_T75 l0_1 x4_2).f1.f1.f1.f1) ((rd_T75 l0_1 x4_2).f1.f1.f1.f2) ((rd_T75 l0_1 x4_2).f1.f1.f1.f3) ((rd_T75 l0_1 x4_2).f1.f1.f1.f4) ((rd_T75 l0_1 x4_2).f1.f1.f2) ((rd_T75 l0_1 x4_2).f1.f1.f3) ((rd_T75 l0_1 x4_2).f1.f1.f4) ((rd_T75 l0_1 x4_2).f2)) else (if ((rd_T75 l0_1 x4_2).f2) > 1000000000000 then (spec_TableOk.j2 k2 (l0_1.length : Int) x4_2 true a0_0 l0_1 bq28 ((rd_T75 l0_1 x4_2).f1.f0) ((rd_T75 l0_1 x4_2).f1.f1.f0.f0) ((rd_T75 l0_1 x4_2).f1.f1.f0.f1) ((rd_T75 l0_1 x4_2).f1.f1.f0.f2) ((rd_T75 l0_1 x4_2).f1.f1.f0.f3) ((rd_T75 l0_1 x4_2).f1.f1.f0.f4) ((rd_T75 l0_1 x4_2).f1.f1.f1.f0) ((rd_T75 l0_1 x4_2).f1.f1.f1.f1) ((rd_T75 l0_1 x4_2).f1.f1.f1.f2) ((rd_T75 l0_1 x4_2).f1.f1.f1.f3) ((rd_T75 l0_1 x4_2).f1.f1.f1.f4) ((rd_T75 l0_1 x4_2).f1.f1.f2) ((rd_T75 l0_1 x4_2).f1.f1.f3) ((rd_T75 l0_1 x4_2).f1.f1.f4) ((rd_T75 l0_1 x4_2).f2)) else ((spec_l11Place.f k2 a0_0 l0_1 ((rd_T75 l0_1 x4_2).f1.f0) ((rd_T75 l0_1 x4_2).f1.f1.f0.f0) ((rd_T75 l0_1 x4_2).f1.f1.f0.f1) ((rd_T75 l0_1 x4_2).f1.f1.f0.f2) ((rd_T75 l0_1 x4_2).f1.f1.f0.f3) ((rd_T75 l0_1 x4_2).f1.f1.f0.f4) ((rd_T75 l0_1 x4_2).f1.f1.f1.f0) ((rd_T75 l0_1 x4_2).f1.f1.f1.f1) ((rd_T75 l0_1 x4_2).f1.f1.f1.f2) ((rd_T75 l0_1 x4_2).f1.f1.f1.f3) ((rd_T75 l0_1 x4_2).f1.f1.f1.f4) ((rd_T75 l0_1 x4_2).f1.f1.f2) ((rd_T75 l0_1 x4_2).f1.f1.f3) ((rd_T75 l0_1 x4_2).f1.f1.f4)).bind fun t309 => (spec_TableOk.j2 k2 (l0_1.length : Int) x4_2 (t309 != x4_2) a0_0 l0_1 bq28 ((rd_T75 l0_1 x4_2).f1.f0) ((rd_T75 l0_1 x4_2).f1.f1.f0.f0) ((rd_T75 l0_1 x4_2).f1.f1.f0.f1) ((rd_T75 l0_1 x4_2).f1.f1.f0.f2) ((rd_T75 l0_1 x4_2).f1.f1.f0.f3) ((rd_T75 l0_1 x4_2).f1.f1.f0.f4) ((rd_T75 l0_1 x4_2).f1.f1.f1.f0) ((rd_T75 l0_1 x4_2).f1.f1.f1.f1) ((rd_T75 l0_1 x4_2).f1.f1.f1.f2) ((rd_T75 l0_1 x4_2).f1.f1.f1.f3) ((rd_T75 l0_1 x4_2).f1.f1.f1.f4) ((rd_T75 l0_1 x4_2).f1.f1.f2) ((rd_T75 l0_1 x4_2).f1.f1.f3) ((rd_T75 l0_1 x4_2).f1.f1.f4) ((rd_T75 l0_1 x4_2).f2))))) else (spec_TableOk.j2 k2 (l0_1.length : Int) x4_2 true a0_0 l0_1 bq28 ((rd_T75 l0_1 x4_2).f1.f0) ((rd_T75 l0_1 x4_2).f1.f1.f0.f0) ((rd_T75 l0_1 x4_2).f1.f1.f0.f1) ((rd_T75 l0_1 x4_2).f1.f1.f0.f2) ((rd_T75 l0_1 x4_2).f1.f1.f0.f3) ((rd_T75 l0_1 x4_2).f1.f1.f0.f4) ((rd_T75 l0_1 x4_2).f1.f1.f1.f0) ((rd_T75 l0_1 x4_2).f1.f1.f1.f1) ((rd_T75 l0_1 x4_2).f1.f1.f1.f2) ((rd_T75 l0_1 x4_2).f1.f1.f1.f3) ((rd_T75 l0_1 x4_2).f1.f1.f1.f4) ((rd_T75 l0_1 x4_2).f1.f1.f2) ((rd_T75 l0_1 x4_2).f1.f1.f3) ((rd_T75 l0_1 x4_2).f1.f1.f4) ((rd_T75 l0_1 x4_2).f2)))) else (if ((bq28) || ((!(((rd_T75 l0_1 x4_2).f1.f0) == 0) || (((!(((rd_T75 l0_1 x4_2).f1.f1.f0.f0) == 0) || (!(((rd_T75 l0_1 x4_2).f1.f1.f0.f1) == 0) || (!(((rd_T75 l0_1 x4_2).f1.f1.f0.f2) == 0) || (!(((rd_T75 l0_1 x4_2).f1.f1.f0.f3) == 0) || (!(((rd_T75 l0_1 x4_2).f1.f1.f0.f4) == 0)))))) || ((!(((rd_T75 l0_1 x4_2).f1.f1.f1.f0) == 0) || (!(((rd_T75 l0_1 x4_2).f1.f1.f1.f1) == 0) || (!(((rd_T75 l0_1 x4_2).f1.f1.f1.f2) == 0) || (!(((rd_T75 l0_1 x4_2).f1.f1.f1.f3) == 0) || (!(((rd_T75 l0_1 x4_2).f1.f1.f1.f4) == 0)))))) || (!(((rd_T75 l0_1 x4_2).f1.f1.f2) == 0) || (!(((rd_T75 l0_1 x4_2).f1.f1.f3) == 0) || (!(((rd_T75 l0_1 x4_2).f1.f1.f4) == 0)))))))) || (!(((rd_T75 l0_1 x4_2).f2) == 0)))) = true then (some false) else (spec_TableOk.l0 k2 (l0_1.length : Int) (wrap64 (x4_2 + 1)) a0_0 l0_1))) = some r := by rw [← hbq28] at H; exact H
          have Nbq28 := Gv.a0 hbq28
          clear hbq28
          by_cases c29 : (bq28 = true)
          ·subst c29
           have H1 : ((spec_FlowKeyOk.f ((rd_T75 l0_1 x4_2).f1.f0) ((rd_T75 l0_1 x4_2).f1.f1.f0.f0) ((rd_T75 l0_1 x4_2).f1.f1.f0.f1) ((rd_T75 l0_1 x4_2).f1.f1.f0.f2) ((rd_T75 l0_1 x4_2).f1.f1.f0.f3) ((rd_T75 l0_1 x4_2).f1.f1.f0.f4) ((rd_T75 l0_1 x4_2).f1.f1.f1.f0) ((rd_T75 l0_1 x4_2).f1.f1.f1.f1) ((rd_T75 l0_1 x4_2).f1.f1.f1.f2) ((rd_T75 l0_1 x4_2).f1.f1.f1.f3) ((rd_T75 l0_1 x4_2).f1.f1.f1.f4) ((rd_T75 l0_1 x4_2).f1.f1.f2) ((rd_T75 l0_1 x4_2).f1.f1.f3) ((rd_T75 l0_1 x4_2).f1.f1.f4)).bind fun t308 => (if t308 = true then (if ((rd_T75 l0_1 x4_2).f2) < 0 then (spec_TableOk.j2 k2 (l0_1.length : Int) x4_2 true a0_0 l0_1 true ((rd_T75 l0_1 x4_2).f1.f0) ((rd_T75 l0_1 x4_2).f1.f1.f0.f0) ((rd_T75 l0_1 x4_2).f1.f1.f0.f1) ((rd_T75 l0_1 x4_2).f1.f1.f0.f2) ((rd_T75 l0_1 x4_2).f1.f1.f0.f3) ((rd_T75 l0_1 x4_2).f1.f1.f0.f4) ((rd_T75 l0_1 x4_2).f1.f1.f1.f0) ((rd_T75 l0_1 x4_2).f1.f1.f1.f1) ((rd_T75 l0_1 x4_2).f1.f1.f1.f2) ((rd_T75 l0_1 x4_2).f1.f1.f1.f3) ((rd_T75 l0_1 x4_2).f1.f1.f1.f4) ((rd_T75 l0_1 x4_2).f1.f1.f2) ((rd_T75 l0_1 x4_2).f1.f1.f3) ((rd_T75 l0_1 x4_2).f1.f1.f4) ((rd_T75 l0_1 x4_2).f2)) else (if ((rd_T75 l0_1 x4_2).f2) > 1000000000000 then (spec_TableOk.j2 k2 (l0_1.length : Int) x4_2 true a0_0 l0_1 true ((rd_T75 l0_1 x4_2).f1.f0) ((rd_T75 l0_1 x4_2).f1.f1.f0.f0) ((rd_T75 l0_1 x4_2).f1.f1.f0.f1) ((rd_T75 l0_1 x4_2).f1.f1.f0.f2) ((rd_T75 l0_1 x4_2).f1.f1.f0.f3) ((rd_T75 l0_1 x4_2).f1.f1.f0.f4) ((rd_T75 l0_1 x4_2).f1.f1.f1.f0) ((rd_T75 l0_1 x4_2).f1.f1.f1.f1) ((rd_T75 l0_1 x4_2).f1.f1.f1.f2) ((rd_T75 l0_1 x4_2).f1.f1.f1.f3) ((rd_T75 l0_1 x4_2).f1.f1.f1.f4) ((rd_T75 l0_1 x4_2).f1.f1.f2) ((rd_T75 l0_1 x4_2).f1.f1.f3) ((rd_T75 l0_1 x4_2).f1.f1.f4) ((rd_T75 l0_1 x4_2).f2)) else ((spec_l11Place.f k2 a0_0 l0_1 ((rd_T75 l0_1 x4_2).f1.f0) ((rd_T75 l0_1 x4_2).f1.f1.f0.f0) ((rd_T75 l0_1 x4_2).f1.f1.f0.f1) ((rd_T75 l0_1 x4_2).f1.f1.f0.f2) ((rd_T75 l0_1 x4_2).f1.f1.f0.f3) ((rd_T75 l0_1 x4_2).f1.f1.f0.f4) ((rd_T75 l0_1 x4_2).f1.f1.f1.f0) ((rd_T75 l0_1 x4_2).f1.f1.f1.f1) ((rd_T75 l0_1 x4_2).f1.f1.f1.f2) ((rd_T75 l0_1 x4_2).f1.f1.f1.f3) ((rd_T75 l0_1 x4_2).f1.f1.f1.f4) ((rd_T75 l0_1 x4_2).f1.f1.f2) ((rd_T75 l0_1 x4_2).f1.f1.f3) ((rd_T75 l0_1 x4_2).f1.f1.f4)).bind fun t309 => (spec_TableOk.j2 k2 (l0_1.length : Int) x4_2 (t309 != x4_2) a0_0 l0_1 true ((rd_T75 l0_1 x4_2).f1.f0) ((rd_T75 l0_1 x4_2).f1.f1.f0.f0) ((rd_T75 l0_1 x4_2).f1.f1.f0.f1) ((rd_T75 l0_1 x4_2).f1.f1.f0.f2) ((rd_T75 l0_1 x4_2).f1.f1.f0.f3) ((rd_T75 l0_1 x4_2).f1.f1.f0.f4) ((rd_T75 l0_1 x4_2).f1.f1.f1.f0) ((rd_T75 l0_1 x4_2).f1.f1.f1.f1) ((rd_T75 l0_1 x4_2).f1.f1.f1.f2) ((rd_T75 l0_1 x4_2).f1.f1.f1.f3) ((rd_T75 l0_1 x4_2).f1.f1.f1.f4) ((rd_T75 l0_1 x4_2).f1.f1.f2) ((rd_T75 l0_1 x4_2).f1.f1.f3) ((rd_T75 l0_1 x4_2).f1.f1.f4) ((rd_T75 l0_1 x4_2).f2))))) else (spec_TableOk.j2 k2 (l0_1.length : Int) x4_2 true a0_0 l0_1 true ((rd_T75 l0_1 x4_2).f1.f0) ((rd_T75 l0_1 x4_2).f1.f1.f0.f0) ((rd_T75 l0_1 x4_2).f1.f1.f0.f1) ((rd_T75 l0_1 x4_2).f1.f1.f0.f2) ((rd_T75 l0_1 x4_2).f1.f1.f0.f3) ((rd_T75 l0_1 x4_2).f1.f1.f0.f4) ((rd_T75 l0_1 x4_2).f1.f1.f1.f0) ((rd_T75 l0_1 x4_2).f1.f1.f1.f1) ((rd_T75 l0_1 x4_2).f1.f1.f1.f2) ((rd_T75 l0_1 x4_2).f1.f1.f1.f3) ((rd_T75 l0_1 x4_2).f1.f1.f1.f4) ((rd_T75 l0_1 x4_2).f1.f1.f2) ((rd_T75 l0_1 x4_2).f1.f1.f3) ((rd_T75 l0_1 x4_2).f1.f1.f4) ((rd_T75 l0_1 x4_2).f2)))) = some r := by rw [if_pos rfl] at H; exact H
           clear H
           have H := H1
           clear H1
           have HC30 := Gv.a0 H
           clear H
           have hcz31_0 : wr.cell? ⟨gb304, 0, none⟩ = some (.int .i64 a0_0) := (blk_cell BK304.out 0).trans rfl
           have hcz31_1 : wr.cell? ⟨gb304, 1, none⟩ = some (.slice A0_1 l0_1.length c0_1) := (blk_cell BK304.out 1).trans rfl
           have hfz31_0 := blk_frozen BK304.out 0
           have hfz31_1 := blk_frozen BK304.out 1
           have p306 : 0 ≤ (x4_2 : Int) := of_decide_eq_true (by first | (with_reducible assumption) | assumption)
           have q306 : x4_2 < (l0_1.length : Int) := of_decide_eq_true (by first | (with_reducible assumption) | assumption)
           obtain ⟨ad306, e306, hx306_0, hx306_1, hx306_2, hx306_3, hx306_4, hx306_5, hx306_6, hx306_7, hx306_8, hx306_9, hx306_10, hx306_11, hx306_12, hx306_13, hx306_14, hx306_15⟩ := at_T75 HR0_1.out x4_2 p306 q306
           (try rw [← Nbq28.out] at hx306_0)
           cases e306
           replace hx306_0 := Gv.bx HB.out hx306_0
           replace hx306_1 := Gv.bx HB.out hx306_1
           replace hx306_2 := Gv.bx HB.out hx306_2
           replace hx306_3 := Gv.bx HB.out hx306_3
           replace hx306_4 := Gv.bx HB.out hx306_4
           replace hx306_5 := Gv.bx HB.out hx306_5
           replace hx306_6 := Gv.bx HB.out hx306_6
           replace hx306_7 := Gv.bx HB.out hx306_7
           replace hx306_8 := Gv.bx HB.out hx306_8
           replace hx306_9 := Gv.bx HB.out hx306_9
           replace hx306_10 := Gv.bx HB.out hx306_10
           replace hx306_11 := Gv.bx HB.out hx306_11
           replace hx306_12 := Gv.bx HB.out hx306_12
           replace hx306_13 := Gv.bx HB.out hx306_13
           replace hx306_14 := Gv.bx HB.out hx306_14
           replace hx306_15 := Gv.bx HB.out hx306_15
           replace p306 := eq_true p306
           replace q306 := eq_true q306
           go_upto_region 13 with (first | ((with_reducible refine gate_dst (N := 5) rfl ?_); refine box_event ?hg (N := 5) ?hd (cs := #[.bool false, .int .i64 0, .int .i64 0, .int .i64 0, .int .i64 0, .int .i64 0, .int .i64 0, .int .i64 0, .int .i64 0, .int .i64 0, .int .i64 0, .int .i64 0, .int .i64 0, .int .i64 0, .int .i64 0, .int .i64 0]) (t := 75) ?hr ?_; (case hd => rfl); (case hg => rfl); (case hr => first | (go_simp; done) | (go_simp; rfl)); intro gb307 hg w32 hbox hb; have n0_ := Gv.a0 (Gv.bb BK304.out hb); have n1_ := Gv.a0 (below_step Gv.bw hb); have n2_ := Gv.a0 (hbox); have n3_ := Gv.a0 ((Gv.ble hg Gv.bw : w.heap.size ≤ gb307)); have n4_ := Gv.a0 ((Gv.ble hg Gv.bw : w.heap.size ≤ gb307)); have n5_ := Gv.a0 ((Gv.nlt hg (Gv.kb BK304.out) : gb304 ≠ gb307)); have n6_ := Gv.a0 ((Gv.ngt hg (Gv.kb BK304.out) : gb307 ≠ gb304)); clear BK304; clear HB; have BK304 := n0_; have HB := n1_; have BK307 := n2_; have GW307 := n3_; have GE307 := n4_; have NB304_307 := n5_; have NB307_304 := n6_; clear n0_ n1_ n2_ n3_ n4_ n5_ n6_; clear hb hbox hg; have hnb33 := NB307_304.out; have hnc33 := NB304_307.out; obtain ⟨hcz34_0, hcz34_1, hcz34_2, hcz34_3, hcz34_4, hcz34_5, hcz34_6, hcz34_7, hcz34_8, hcz34_9, hcz34_10, hcz34_11, hcz34_12, hcz34_13, hcz34_14, hcz34_15⟩ := Gv.c16 BK307.out) | ((with_reducible refine gate_store (t := 75) (p := 5) rfl ?_); refine Gv.store_event rfl rfl rfl rfl rfl (Gv.kb BK307.out) (by kernel_rfl) rfl (by simp; and_intros <;> rfl) ?_; intro w32s hbox hoth hbel; have n0_ := Gv.a0 (hbox); have n1_ := Gv.a0 (hbel w Gv.bw GE307.out); have n2_ := Gv.a0 ((hoth gb304 NB304_307.out).trans (Gv.kb BK304.out)); clear BK307 HB BK304; have BK307 := n0_; have HB := n1_; have BK304 := n2_; clear n0_ n1_ n2_ hbox hoth hbel; (try clear hcz34_0 hcz34_1 hcz34_2 hcz34_3 hcz34_4 hcz34_5 hcz34_6 hcz34_7 hcz34_8 hcz34_9 hcz34_10 hcz34_11 hcz34_12 hcz34_13 hcz34_14 hcz34_15 hfz34_0 hfz34_1 hfz34_2 hfz34_3 hfz34_4 hfz34_5 hfz34_6 hfz34_7 hfz34_8 hfz34_9 hfz34_10 hfz34_11 hfz34_12 hfz34_13 hfz34_14 hfz34_15); obtain ⟨hcz34_0, hcz34_1, hcz34_2, hcz34_3, hcz34_4, hcz34_5, hcz34_6, hcz34_7, hcz34_8, hcz34_9, hcz34_10, hcz34_11, hcz34_12, hcz34_13, hcz34_14, hcz34_15⟩ := Gv.c16 BK307.out) | ((with_reducible refine Gv.gate_load (t := 75) rfl ?_); (try (refine gate_guard (by rfl) ?_; dsimp only)); refine wpList_load_row rfl 75 _ rfl gb307 rfl 75 _ _ _ (by first | exact Gv.kb0 BK307.out | exact Gv.kb1 (Gv.kb0 BK307.out)) Try.underlying75 rfl (by kernel_rfl) ?_) | ((with_reducible refine Gv.gate_load (t := 75) rfl ?_); refine Gv.load_event (cs := [_, _, _, _, _, _, _, _, _, _, _, _, _, _, _, _]) rfl rfl rfl ⟨hx306_0, hx306_1, hx306_2, hx306_3, hx306_4, hx306_5, hx306_6, hx306_7, hx306_8, hx306_9, hx306_10, hx306_11, hx306_12, hx306_13, hx306_14, hx306_15, trivial⟩ Try.underlying75 rfl (by kernel_rfl) ?_))
           (try simp only [Act.put, List.setIfInBounds_toArray, List.set_cons_zero, List.set_cons_succ])
           go_cut [81] (fun v81 wc => ∃ (kq : Nat) (x81_29 : Bool), v81 = .bool x81_29 ∧ Aside0 (spec_TableOk.j2 kq (l0_1.length : Int) x4_2 x81_29 a0_0 l0_1 true ((rd_T75 l0_1 x4_2).f1.f0) ((rd_T75 l0_1 x4_2).f1.f1.f0.f0) ((rd_T75 l0_1 x4_2).f1.f1.f0.f1) ((rd_T75 l0_1 x4_2).f1.f1.f0.f2) ((rd_T75 l0_1 x4_2).f1.f1.f0.f3) ((rd_T75 l0_1 x4_2).f1.f1.f0.f4) ((rd_T75 l0_1 x4_2).f1.f1.f1.f0) ((rd_T75 l0_1 x4_2).f1.f1.f1.f1) ((rd_T75 l0_1 x4_2).f1.f1.f1.f2) ((rd_T75 l0_1 x4_2).f1.f1.f1.f3) ((rd_T75 l0_1 x4_2).f1.f1.f1.f4) ((rd_T75 l0_1 x4_2).f1.f1.f2) ((rd_T75 l0_1 x4_2).f1.f1.f3) ((rd_T75 l0_1 x4_2).f1.f1.f4) ((rd_T75 l0_1 x4_2).f2) = some r) ∧ Aside0 (kq ≤ k2) ∧ Aside0 (wc.heap[gb304]? = some (.cells #[.int .i64 a0_0, (.slice (some ad306) l0_1.length c0_1)] 40 (0, 0))) ∧ Aside0 (wc.heap[gb307]? = some (.cells #[.bool true, .int .i64 ((rd_T75 l0_1 x4_2).f1.f0), .int .i64 ((rd_T75 l0_1 x4_2).f1.f1.f0.f0), .int .i64 ((rd_T75 l0_1 x4_2).f1.f1.f0.f1), .int .i64 ((rd_T75 l0_1 x4_2).f1.f1.f0.f2), .int .i64 ((rd_T75 l0_1 x4_2).f1.f1.f0.f3), .int .i64 ((rd_T75 l0_1 x4_2).f1.f1.f0.f4), .int .i64 ((rd_T75 l0_1 x4_2).f1.f1.f1.f0), .int .i64 ((rd_T75 l0_1 x4_2).f1.f1.f1.f1), .int .i64 ((rd_T75 l0_1 x4_2).f1.f1.f1.f2), .int .i64 ((rd_T75 l0_1 x4_2).f1.f1.f1.f3), .int .i64 ((rd_T75 l0_1 x4_2).f1.f1.f1.f4), .int .i64 ((rd_T75 l0_1 x4_2).f1.f1.f2), .int .i64 ((rd_T75 l0_1 x4_2).f1.f1.f3), .int .i64 ((rd_T75 l0_1 x4_2).f1.f1.f4), .int .i64 ((rd_T75 l0_1 x4_2).f2)] 75 (0, 0))) ∧ Aside0 (Below w.heap.size w wc))
           case first =>
            have H := HC30.out
            clear HC30
            replace H := Option.bind_eq_some_iff.mp H
            obtain ⟨t308, A350, H⟩ := H
            replace H : (if t308 = true then (if ((rd_T75 l0_1 x4_2).f2) < 0 then (spec_TableOk.j2 k2 (l0_1.length : Int) x4_2 true a0_0 l0_1 true ((rd_T75 l0_1 x4_2).f1.f0) ((rd_T75 l0_1 x4_2).f1.f1.f0.f0) ((rd_T75 l0_1 x4_2).f1.f1.f0.f1) ((rd_T75 l0_1 x4_2).f1.f1.f0.f2) ((rd_T75 l0_1 x4_2).f1.f1.f0.f3) ((rd_T75 l0_1 x4_2).f1.f1.f0.f4) ((rd_T75 l0_1 x4_2).f1.f1.f1.f0) ((rd_T75 l0_1 x4_2).f1.f1.f1.f1) ((rd_T75 l0_1 x4_2).f1.f1.f1.f2) ((rd_T75 l0_1 x4_2).f1.f1.f1.f3) ((rd_T75 l0_1 x4_2).f1.f1.f1.f4) ((rd_T75 l0_1 x4_2).f1.f1.f2) ((rd_T75 l0_1 x4_2).f1.f1.f3) ((rd_T75 l0_1 x4_2).f1.f1.f4) ((rd_T75 l0_1 x4_2).f2)) else (if ((rd_T75 l0_1 x4_2).f2) > 1000000000000 then (spec_TableOk.j2 k2 (l0_1.length : Int) x4_2 true a0_0 l0_1 true ((rd_T75 l0_1 x4_2).f1.f0) ((rd_T75 l0_1 x4_2).f1.f1.f0.f0) ((rd_T75 l0_1 x4_2).f1.f1.f0.f1) ((rd_T75 l0_1 x4_2).f1.f1.f0.f2) ((rd_T75 l0_1 x4_2).f1.f1.f0.f3) ((rd_T75 l0_1 x4_2).f1.f1.f0.f4) ((rd_T75 l0_1 x4_2).f1.f1.f1.f0) ((rd_T75 l0_1 x4_2).f1.f1.f1.f1) ((rd_T75 l0_1 x4_2).f1.f1.f1.f2) ((rd_T75 l0_1 x4_2).f1.f1.f1.f3) ((rd_T75 l0_1 x4_2).f1.f1.f1.f4) ((rd_T75 l0_1 x4_2).f1.f1.f2) ((rd_T75 l0_1 x4_2).f1.f1.f3) ((rd_T75 l0_1 x4_2).f1.f1.f4) ((rd_T75 l0_1 x4_2).f2)) else ((spec_l11Place.f k2 a0_0 l0_1 ((rd_T75 l0_1 x4_2).f1.f0) ((rd_T75 l0_1 x4_2).f1.f1.f0.f0) ((rd_T75 l0_1 x4_2).f1.f1.f0.f1) ((rd_T75 l0_1 x4_2).f1.f1.f0.f2) ((rd_T75 l0_1 x4_2).f1.f1.f0.f3) ((rd_T75 l0_1 x4_2).f1.f1.f0.f4) ((rd_T75 l0_1 x4_2).f1.f1.f1.f0) ((rd_T75 l0_1 x4_2).f1.f1.f1.f1) ((rd_T75 l0_1 x4_2).f1.f1.f1.f2) ((rd_T75 l0_1 x4_2).f1.f1.f1.f3) ((rd_T75 l0_1 x4_2).f1.f1.f1.f4) ((rd_T75 l0_1 x4_2).f1.f1.f2) ((rd_T75 l0_1 x4_2).f1.f1.f3) ((rd_T75 l0_1 x4_2).f1.f1.f4)).bind fun t309 => (spec_TableOk.j2 k2 (l0_1.length : Int) x4_2 (t309 != x4_2) a0_0 l0_1 true ((rd_T75 l0_1 x4_2).f1.f0) ((rd_T75 l0_1 x4_2).f1.f1.f0.f0) ((rd_T75 l0_1 x4_2).f1.f1.f0.f1) ((rd_T75 l0_1 x4_2).f1.f1.f0.f2) ((rd_T75 l0_1 x4_2).f1.f1.f0.f3) ((rd_T75 l0_1 x4_2).f1.f1.f0.f4) ((rd_T75 l0_1 x4_2).f1.f1.f1.f0) ((rd_T75 l0_1 x4_2).f1.f1.f1.f1) ((rd_T75 l0_1 x4_2).f1.f1.f1.f2) ((rd_T75 l0_1 x4_2).f1.f1.f1.f3) ((rd_T75 l0_1 x4_2).f1.f1.f1.f4) ((rd_T75 l0_1 x4_2).f1.f1.f2) ((rd_T75 l0_1 x4_2).f1.f1.f3) ((rd_T75 l0_1 x4_2).f1.f1.f4) ((rd_T75 l0_1 x4_2).f2))))) else (spec_TableOk.j2 k2 (l0_1.length : Int) x4_2 true a0_0 l0_1 true ((rd_T75 l0_1 x4_2).f1.f0) ((rd_T75 l0_1 x4_2).f1.f1.f0.f0) ((rd_T75 l0_1 x4_2).f1.f1.f0.f1) ((rd_T75 l0_1 x4_2).f1.f1.f0.f2) ((rd_T75 l0_1 x4_2).f1.f1.f0.f3) ((rd_T75 l0_1 x4_2).f1.f1.f0.f4) ((rd_T75 l0_1 x4_2).f1.f1.f1.f0) ((rd_T75 l0_1 x4_2).f1.f1.f1.f1) ((rd_T75 l0_1 x4_2).f1.f1.f1.f2) ((rd_T75 l0_1 x4_2).f1.f1.f1.f3) ((rd_T75 l0_1 x4_2).f1.f1.f1.f4) ((rd_T75 l0_1 x4_2).f1.f1.f2) ((rd_T75 l0_1 x4_2).f1.f1.f3) ((rd_T75 l0_1 x4_2).f1.f1.f4) ((rd_T75 l0_1 x4_2).f2))) = some r := H
            have A35 := Gv.a0 A350
            clear A350
            by_cases c36 : t308 = true
            ·subst c36
             have H1 : (if ((rd_T75 l0_1 x4_2).f2) < 0 then (spec_TableOk.j2 k2 (l0_1.length : Int) x4_2 true a0_0 l0_1 true ((rd_T75 l0_1 x4_2).f1.f0) ((rd_T75 l0_1 x4_2).f1.f1.f0.f0) ((rd_T75 l0_1 x4_2).f1.f1.f0.f1) ((rd_T75 l0_1 x4_2).f1.f1.f0.f2) ((rd_T75 l0_1 x4_2).f1.f1.f0.f3) ((rd_T75 l0_1 x4_2).f1.f1.f0.f4) ((rd_T75 l0_1 x4_2).f1.f1.f1.f0) ((rd_T75 l0_1 x4_2).f1.f1.f1.f1) ((rd_T75 l0_1 x4_2).f1.f1.f1.f2) ((rd_T75 l0_1 x4_2).f1.f1.f1.f3) ((rd_T75 l0_1 x4_2).f1.f1.f1.f4) ((rd_T75 l0_1 x4_2).f1.f1.f2) ((rd_T75 l0_1 x4_2).f1.f1.f3) ((rd_T75 l0_1 x4_2).f1.f1.f4) ((rd_T75 l0_1 x4_2).f2)) else (if ((rd_T75 l0_1 x4_2).f2) > 1000000000000 then (spec_TableOk.j2 k2 (l0_1.length : Int) x4_2 true a0_0 l0_1 true ((rd_T75 l0_1 x4_2).f1.f0) ((rd_T75 l0_1 x4_2).f1.f1.f0.f0) ((rd_T75 l0_1 x4_2).f1.f1.f0.f1) ((rd_T75 l0_1 x4_2).f1.f1.f0.f2) ((rd_T75 l0_1 x4_2).f1.f1.f0.f3) ((rd_T75 l0_1 x4_2).f1.f1.f0.f4) ((rd_T75 l0_1 x4_2).f1.f1.f1.f0) ((rd_T75 l0_1 x4_2).f1.f1.f1.f1) ((rd_T75 l0_1 x4_2).f1.f1.f1.f2) ((rd_T75 l0_1 x4_2).f1.f1.f1.f3) ((rd_T75 l0_1 x4_2).f1.f1.f1.f4) ((rd_T75 l0_1 x4_2).f1.f1.f2) ((rd_T75 l0_1 x4_2).f1.f1.f3) ((rd_T75 l0_1 x4_2).f1.f1.f4) ((rd_T75 l0_1 x4_2).f2)) else ((spec_l11Place.f k2 a0_0 l0_1 ((rd_T75 l0_1 x4_2).f1.f0) ((rd_T75 l0_1 x4_2).f1.f1.f0.f0) ((rd_T75 l0_1 x4_2).f1.f1.f0.f1) ((rd_T75 l0_1 x4_2).f1.f1.f0.f2) ((rd_T75 l0_1 x4_2).f1.f1.f0.f3) ((rd_T75 l0_1 x4_2).f1.f1.f0.f4) ((rd_T75 l0_1 x4_2).f1.f1.f1.f0) ((rd_T75 l0_1 x4_2).f1.f1.f1.f1) ((rd_T75 l0_1 x4_2).f1.f1.f1.f2) ((rd_T75 l0_1 x4_2).f1.f1.f1.f3) ((rd_T75 l0_1 x4_2).f1.f1.f1.f4) ((rd_T75 l0_1 x4_2).f1.f1.f2) ((rd_T75 l0_1 x4_2).f1.f1.f3) ((rd_T75 l0_1 x4_2).f1.f1.f4)).bind fun t309 => (spec_TableOk.j2 k2 (l0_1.length : Int) x4_2 (t309 != x4_2) a0_0 l0_1 true ((rd_T75 l0_1 x4_2).f1.f0) ((rd_T75 l0_1 x4_2).f1.f1.f0.f0) ((rd_T75 l0_1 x4_2).f1.f1.f0.f1) ((rd_T75 l0_1 x4_2).f1.f1.f0.f2) ((rd_T75 l0_1 x4_2).f1.f1.f0.f3) ((rd_T75 l0_1 x4_2).f1.f1.f0.f4) ((rd_T75 l0_1 x4_2).f1.f1.f1.f0) ((rd_T75 l0_1 x4_2).f1.f1.f1.f1) ((rd_T75 l0_1 x4_2).f1.f1.f1.f2) ((rd_T75 l0_1 x4_2).f1.f1.f1.f3) ((rd_T75 l0_1 x4_2).f1.f1.f1.f4) ((rd_T75 l0_1 x4_2).f1.f1.f2) ((rd_T75 l0_1 x4_2).f1.f1.f3) ((rd_T75 l0_1 x4_2).f1.f1.f4) ((rd_T75 l0_1 x4_2).f2))))) = some r := by rw [if_pos rfl] at H; exact H
             clear H
             have H := H1
             clear H1
             by_cases c37 : ((rd_T75 l0_1 x4_2).f2) < 0
             ·rw [if_pos c37] at H
              have c37b0 : decide (((rd_T75 l0_1 x4_2).f2) < 0) = true := decide_eq_true c37
              clear c37
              (first | rw [c37b0] | (simp only [i64_w, i32_w]; rw [c37b0]) | skip)
              have H' := Gv.a0 H
              clear H
              have hnb38 := NB307_304.out
              have hnc38 := NB304_307.out
              obtain ⟨hcz39_0, hcz39_1, hcz39_2, hcz39_3, hcz39_4, hcz39_5, hcz39_6, hcz39_7, hcz39_8, hcz39_9, hcz39_10, hcz39_11, hcz39_12, hcz39_13, hcz39_14, hcz39_15⟩ := Gv.c16 BK307.out
              go_wp2_with (first | ((with_reducible refine gate_callee (f := 13) rfl ?_); refine goesL_ (some 62) rfl rfl Try.func13 (by kernel_rfl) rfl #[.agg #[.int .i64 ((rd_T75 l0_1 x4_2).f1.f0), .int .i64 ((rd_T75 l0_1 x4_2).f1.f1.f0.f0), .int .i64 ((rd_T75 l0_1 x4_2).f1.f1.f0.f1), .int .i64 ((rd_T75 l0_1 x4_2).f1.f1.f0.f2), .int .i64 ((rd_T75 l0_1 x4_2).f1.f1.f0.f3), .int .i64 ((rd_T75 l0_1 x4_2).f1.f1.f0.f4), .int .i64 ((rd_T75 l0_1 x4_2).f1.f1.f1.f0), .int .i64 ((rd_T75 l0_1 x4_2).f1.f1.f1.f1), .int .i64 ((rd_T75 l0_1 x4_2).f1.f1.f1.f2), .int .i64 ((rd_T75 l0_1 x4_2).f1.f1.f1.f3), .int .i64 ((rd_T75 l0_1 x4_2).f1.f1.f1.f4), .int .i64 ((rd_T75 l0_1 x4_2).f1.f1.f2), .int .i64 ((rd_T75 l0_1 x4_2).f1.f1.f3), .int .i64 ((rd_T75 l0_1 x4_2).f1.f1.f4)]] rfl Gv.lm ?_; (with_reducible refine (spec_FlowKeyOk.calls _ _ _ _ _ _ _ _ _ _ _ _ _ _ true _ A35.out).mono ?_); rintro e w40 ⟨rfl, hb⟩; refine ⟨_, rfl, ?_⟩; have n0_ := Gv.a0 (blk_below (g := gb304) (o := .cells #[.int .i64 a0_0, .slice (some ad306) l0_1.length c0_1] 40 (0, 0)) Gv.bkf hb); have n1_ := Gv.a0 (blk_below (g := gb307) (o := .cells #[.bool true, .int .i64 ((rd_T75 l0_1 x4_2).f1.f0), .int .i64 ((rd_T75 l0_1 x4_2).f1.f1.f0.f0), .int .i64 ((rd_T75 l0_1 x4_2).f1.f1.f0.f1), .int .i64 ((rd_T75 l0_1 x4_2).f1.f1.f0.f2), .int .i64 ((rd_T75 l0_1 x4_2).f1.f1.f0.f3), .int .i64 ((rd_T75 l0_1 x4_2).f1.f1.f0.f4), .int .i64 ((rd_T75 l0_1 x4_2).f1.f1.f1.f0), .int .i64 ((rd_T75 l0_1 x4_2).f1.f1.f1.f1), .int .i64 ((rd_T75 l0_1 x4_2).f1.f1.f1.f2), .int .i64 ((rd_T75 l0_1 x4_2).f1.f1.f1.f3), .int .i64 ((rd_T75 l0_1 x4_2).f1.f1.f1.f4), .int .i64 ((rd_T75 l0_1 x4_2).f1.f1.f2), .int .i64 ((rd_T75 l0_1 x4_2).f1.f1.f3), .int .i64 ((rd_T75 l0_1 x4_2).f1.f1.f4), .int .i64 ((rd_T75 l0_1 x4_2).f2)] 75 (0, 0)) (by (with_reducible repeat (first | refine blk_drewN ?_ _ | refine blk_drew ?_ | refine blk_alloc ?_ _)); exact BK307.out) hb); have n2_ := Gv.a0 (below_step Gv.bw hb); clear BK304; clear BK307; clear HB; have BK304 := n0_; have BK307 := n1_; have HB := n2_; clear n0_ n1_ n2_; (try clear hb); (try clear hb2); (try clear hk); (try clear hi); obtain ⟨hcz41_0, hcz41_1, hcz41_2, hcz41_3, hcz41_4, hcz41_5, hcz41_6, hcz41_7, hcz41_8, hcz41_9, hcz41_10, hcz41_11, hcz41_12, hcz41_13, hcz41_14, hcz41_15⟩ := Gv.c16 BK307.out) | ((with_reducible refine Gv.gate_load (t := 75) rfl ?_); (try (refine gate_guard (by rfl) ?_; dsimp only)); refine wpList_load_row rfl 75 _ rfl gb307 rfl 75 _ _ _ (by first | exact Gv.kb0 BK307.out | exact Gv.kb1 (Gv.kb0 BK307.out)) Try.underlying75 rfl (by kernel_rfl) ?_))
              go_meet
              case rel => exact ⟨_, (true), Gv.rq, H', ⟨by have := HJ1.out; have := HK2.out; first | omega | exact Nat.le_refl _⟩, ⟨by (with_reducible repeat (first | refine blk_drewN ?_ _ | refine blk_drew ?_ | refine blk_alloc ?_ _)); exact BK304.out⟩, ⟨by (with_reducible repeat (first | refine blk_drewN ?_ _ | refine blk_drew ?_ | refine blk_alloc ?_ _)); exact BK307.out⟩, ⟨Gv.bw⟩⟩
             ·rw [if_neg c37] at H
              have c37b0 : decide (((rd_T75 l0_1 x4_2).f2) < 0) = false := decide_eq_false c37
              clear c37
              (first | rw [c37b0] | (simp only [i64_w, i32_w]; rw [c37b0]) | skip)
              by_cases c42 : ((rd_T75 l0_1 x4_2).f2) > 1000000000000
              ·rw [if_pos c42] at H
               have c42b0 : decide (1000000000000 < ((rd_T75 l0_1 x4_2).f2)) = true := decide_eq_true c42
               clear c42
               have H' := Gv.a0 H
               clear H
               have hnb43 := NB307_304.out
               have hnc43 := NB304_307.out
               obtain ⟨hcz44_0, hcz44_1, hcz44_2, hcz44_3, hcz44_4, hcz44_5, hcz44_6, hcz44_7, hcz44_8, hcz44_9, hcz44_10, hcz44_11, hcz44_12, hcz44_13, hcz44_14, hcz44_15⟩ := Gv.c16 BK307.out
               go_wp2_with (first | ((with_reducible refine gate_callee (f := 13) rfl ?_); refine goesL_ (some 62) rfl rfl Try.func13 (by kernel_rfl) rfl #[.agg #[.int .i64 ((rd_T75 l0_1 x4_2).f1.f0), .int .i64 ((rd_T75 l0_1 x4_2).f1.f1.f0.f0), .int .i64 ((rd_T75 l0_1 x4_2).f1.f1.f0.f1), .int .i64 ((rd_T75 l0_1 x4_2).f1.f1.f0.f2), .int .i64 ((rd_T75 l0_1 x4_2).f1.f1.f0.f3), .int .i64 ((rd_T75 l0_1 x4_2).f1.f1.f0.f4), .int .i64 ((rd_T75 l0_1 x4_2).f1.f1.f1.f0), .int .i64 ((rd_T75 l0_1 x4_2).f1.f1.f1.f1), .int .i64 ((rd_T75 l0_1 x4_2).f1.f1.f1.f2), .int .i64 ((rd_T75 l0_1 x4_2).f1.f1.f1.f3), .int .i64 ((rd_T75 l0_1 x4_2).f1.f1.f1.f4), .int .i64 ((rd_T75 l0_1 x4_2).f1.f1.f2), .int .i64 ((rd_T75 l0_1 x4_2).f1.f1.f3), .int .i64 ((rd_T75 l0_1 x4_2).f1.f1.f4)]] rfl Gv.lm ?_; (with_reducible refine (spec_FlowKeyOk.calls _ _ _ _ _ _ _ _ _ _ _ _ _ _ true _ A35.out).mono ?_); rintro e w45 ⟨rfl, hb⟩; refine ⟨_, rfl, ?_⟩; have n0_ := Gv.a0 (blk_below (g := gb304) (o := .cells #[.int .i64 a0_0, .slice (some ad306) l0_1.length c0_1] 40 (0, 0)) Gv.bkf hb); have n1_ := Gv.a0 (blk_below (g := gb307) (o := .cells #[.bool true, .int .i64 ((rd_T75 l0_1 x4_2).f1.f0), .int .i64 ((rd_T75 l0_1 x4_2).f1.f1.f0.f0), .int .i64 ((rd_T75 l0_1 x4_2).f1.f1.f0.f1), .int .i64 ((rd_T75 l0_1 x4_2).f1.f1.f0.f2), .int .i64 ((rd_T75 l0_1 x4_2).f1.f1.f0.f3), .int .i64 ((rd_T75 l0_1 x4_2).f1.f1.f0.f4), .int .i64 ((rd_T75 l0_1 x4_2).f1.f1.f1.f0), .int .i64 ((rd_T75 l0_1 x4_2).f1.f1.f1.f1), .int .i64 ((rd_T75 l0_1 x4_2).f1.f1.f1.f2), .int .i64 ((rd_T75 l0_1 x4_2).f1.f1.f1.f3), .int .i64 ((rd_T75 l0_1 x4_2).f1.f1.f1.f4), .int .i64 ((rd_T75 l0_1 x4_2).f1.f1.f2), .int .i64 ((rd_T75 l0_1 x4_2).f1.f1.f3), .int .i64 ((rd_T75 l0_1 x4_2).f1.f1.f4), .int .i64 ((rd_T75 l0_1 x4_2).f2)] 75 (0, 0)) (by (with_reducible repeat (first | refine blk_drewN ?_ _ | refine blk_drew ?_ | refine blk_alloc ?_ _)); exact BK307.out) hb); have n2_ := Gv.a0 (below_step Gv.bw hb); clear BK304; clear BK307; clear HB; have BK304 := n0_; have BK307 := n1_; have HB := n2_; clear n0_ n1_ n2_; (try clear hb); (try clear hb2); (try clear hk); (try clear hi); obtain ⟨hcz46_0, hcz46_1, hcz46_2, hcz46_3, hcz46_4, hcz46_5, hcz46_6, hcz46_7, hcz46_8, hcz46_9, hcz46_10, hcz46_11, hcz46_12, hcz46_13, hcz46_14, hcz46_15⟩ := Gv.c16 BK307.out) | ((with_reducible refine Gv.gate_load (t := 75) rfl ?_); (try (refine gate_guard (by rfl) ?_; dsimp only)); refine wpList_load_row rfl 75 _ rfl gb307 rfl 75 _ _ _ (by first | exact Gv.kb0 BK307.out | exact Gv.kb1 (Gv.kb0 BK307.out)) Try.underlying75 rfl (by kernel_rfl) ?_))
               go_meet
               case rel => exact ⟨_, (true), Gv.rq, H', ⟨by have := HJ1.out; have := HK2.out; first | omega | exact Nat.le_refl _⟩, ⟨by (with_reducible repeat (first | refine blk_drewN ?_ _ | refine blk_drew ?_ | refine blk_alloc ?_ _)); exact BK304.out⟩, ⟨by (with_reducible repeat (first | refine blk_drewN ?_ _ | refine blk_drew ?_ | refine blk_alloc ?_ _)); exact BK307.out⟩, ⟨Gv.bw⟩⟩
              ·rw [if_neg c42] at H
               have c42b0 : decide (1000000000000 < ((rd_T75 l0_1 x4_2).f2)) = false := decide_eq_false c42
               clear c42
               replace H := Option.bind_eq_some_iff.mp H
               obtain ⟨t309, A470, H⟩ := H
               replace H : (spec_TableOk.j2 k2 (l0_1.length : Int) x4_2 (t309 != x4_2) a0_0 l0_1 true ((rd_T75 l0_1 x4_2).f1.f0) ((rd_T75 l0_1 x4_2).f1.f1.f0.f0) ((rd_T75 l0_1 x4_2).f1.f1.f0.f1) ((rd_T75 l0_1 x4_2).f1.f1.f0.f2) ((rd_T75 l0_1 x4_2).f1.f1.f0.f3) ((rd_T75 l0_1 x4_2).f1.f1.f0.f4) ((rd_T75 l0_1 x4_2).f1.f1.f1.f0) ((rd_T75 l0_1 x4_2).f1.f1.f1.f1) ((rd_T75 l0_1 x4_2).f1.f1.f1.f2) ((rd_T75 l0_1 x4_2).f1.f1.f1.f3) ((rd_T75 l0_1 x4_2).f1.f1.f1.f4) ((rd_T75 l0_1 x4_2).f1.f1.f2) ((rd_T75 l0_1 x4_2).f1.f1.f3) ((rd_T75 l0_1 x4_2).f1.f1.f4) ((rd_T75 l0_1 x4_2).f2)) = some r := H
               have A47 := Gv.a0 A470
               clear A470
               have H' := Gv.a0 H
               clear H
               have hnb48 := NB307_304.out
               have hnc48 := NB304_307.out
               obtain ⟨hcz49_0, hcz49_1, hcz49_2, hcz49_3, hcz49_4, hcz49_5, hcz49_6, hcz49_7, hcz49_8, hcz49_9, hcz49_10, hcz49_11, hcz49_12, hcz49_13, hcz49_14, hcz49_15⟩ := Gv.c16 BK307.out
               go_wp2_with (first | ((with_reducible refine gate_callee (f := 13) rfl ?_); refine goesL_ (some 62) rfl rfl Try.func13 (by kernel_rfl) rfl #[.agg #[.int .i64 ((rd_T75 l0_1 x4_2).f1.f0), .int .i64 ((rd_T75 l0_1 x4_2).f1.f1.f0.f0), .int .i64 ((rd_T75 l0_1 x4_2).f1.f1.f0.f1), .int .i64 ((rd_T75 l0_1 x4_2).f1.f1.f0.f2), .int .i64 ((rd_T75 l0_1 x4_2).f1.f1.f0.f3), .int .i64 ((rd_T75 l0_1 x4_2).f1.f1.f0.f4), .int .i64 ((rd_T75 l0_1 x4_2).f1.f1.f1.f0), .int .i64 ((rd_T75 l0_1 x4_2).f1.f1.f1.f1), .int .i64 ((rd_T75 l0_1 x4_2).f1.f1.f1.f2), .int .i64 ((rd_T75 l0_1 x4_2).f1.f1.f1.f3), .int .i64 ((rd_T75 l0_1 x4_2).f1.f1.f1.f4), .int .i64 ((rd_T75 l0_1 x4_2).f1.f1.f2), .int .i64 ((rd_T75 l0_1 x4_2).f1.f1.f3), .int .i64 ((rd_T75 l0_1 x4_2).f1.f1.f4)]] rfl Gv.lm ?_; (with_reducible refine (spec_FlowKeyOk.calls _ _ _ _ _ _ _ _ _ _ _ _ _ _ true _ A35.out).mono ?_); rintro e w50 ⟨rfl, hb⟩; refine ⟨_, rfl, ?_⟩; have n0_ := Gv.a0 (blk_below (g := gb304) (o := .cells #[.int .i64 a0_0, .slice (some ad306) l0_1.length c0_1] 40 (0, 0)) Gv.bkf hb); have n1_ := Gv.a0 (blk_below (g := gb307) (o := .cells #[.bool true, .int .i64 ((rd_T75 l0_1 x4_2).f1.f0), .int .i64 ((rd_T75 l0_1 x4_2).f1.f1.f0.f0), .int .i64 ((rd_T75 l0_1 x4_2).f1.f1.f0.f1), .int .i64 ((rd_T75 l0_1 x4_2).f1.f1.f0.f2), .int .i64 ((rd_T75 l0_1 x4_2).f1.f1.f0.f3), .int .i64 ((rd_T75 l0_1 x4_2).f1.f1.f0.f4), .int .i64 ((rd_T75 l0_1 x4_2).f1.f1.f1.f0), .int .i64 ((rd_T75 l0_1 x4_2).f1.f1.f1.f1), .int .i64 ((rd_T75 l0_1 x4_2).f1.f1.f1.f2), .int .i64 ((rd_T75 l0_1 x4_2).f1.f1.f1.f3), .int .i64 ((rd_T75 l0_1 x4_2).f1.f1.f1.f4), .int .i64 ((rd_T75 l0_1 x4_2).f1.f1.f2), .int .i64 ((rd_T75 l0_1 x4_2).f1.f1.f3), .int .i64 ((rd_T75 l0_1 x4_2).f1.f1.f4), .int .i64 ((rd_T75 l0_1 x4_2).f2)] 75 (0, 0)) (by (with_reducible repeat (first | refine blk_drewN ?_ _ | refine blk_drew ?_ | refine blk_alloc ?_ _)); exact BK307.out) hb); have n2_ := Gv.a0 (below_step Gv.bw hb); clear BK304; clear BK307; clear HB; have BK304 := n0_; have BK307 := n1_; have HB := n2_; clear n0_ n1_ n2_; (try clear hb); (try clear hb2); (try clear hk); (try clear hi); obtain ⟨hcz51_0, hcz51_1, hcz51_2, hcz51_3, hcz51_4, hcz51_5, hcz51_6, hcz51_7, hcz51_8, hcz51_9, hcz51_10, hcz51_11, hcz51_12, hcz51_13, hcz51_14, hcz51_15⟩ := Gv.c16 BK307.out; have hcz52_0 : w50.cell? ⟨gb304, 0, none⟩ = some (.int .i64 a0_0) := (blk_cell BK304.out 0).trans rfl; have hcz52_1 : w50.cell? ⟨gb304, 1, none⟩ = some (.slice (some ad306) l0_1.length c0_1) := (blk_cell BK304.out 1).trans rfl; have hfz52_0 := blk_frozen BK304.out 0; have hfz52_1 := blk_frozen BK304.out 1) | (go_at_call 54; (with_reducible refine (spec_l11Place.calls k2 a0_0 _ _ l0_1 _ _ _ _ _ _ _ _ _ _ _ _ _ _ t309 _ ?side1 ?side2 A47.out).mono ?_); (case side1 => repeat (first | exact (Kd.C_below HR0_1.out HB.out) | (with_reducible refine Kd.C_alloc ?_ _) | (with_reducible refine Kd.C_drewN ?_ _) | (with_reducible refine Kd.C_drew ?_))); (case side2 => exact HC0_1.out); rintro e w53 ⟨rfl, hb⟩; have n0_ := Gv.a0 (Gv.bb BK304.out hb); have n1_ := Gv.a0 (Gv.bb BK307.out hb); have n2_ := Gv.a0 (below_step Gv.bw hb); clear BK304; clear BK307; clear HB; have BK304 := n0_; have BK307 := n1_; have HB := n2_; clear n0_ n1_ n2_; (try clear hb); (try clear hb2); (try clear hk); (try clear hi)) | ((with_reducible refine Gv.gate_load (t := 75) rfl ?_); (try (refine gate_guard (by rfl) ?_; dsimp only)); refine wpList_load_row rfl 75 _ rfl gb307 rfl 75 _ _ _ (by first | exact Gv.kb0 BK307.out | exact Gv.kb1 (Gv.kb0 BK307.out)) Try.underlying75 rfl (by kernel_rfl) ?_))
               go_meet
               case rel => exact ⟨_, ((t309 != x4_2)), Gv.rq, H', ⟨by have := HJ1.out; have := HK2.out; first | omega | exact Nat.le_refl _⟩, ⟨by (with_reducible repeat (first | refine blk_drewN ?_ _ | refine blk_drew ?_ | refine blk_alloc ?_ _)); exact BK304.out⟩, ⟨by (with_reducible repeat (first | refine blk_drewN ?_ _ | refine blk_drew ?_ | refine blk_alloc ?_ _)); exact BK307.out⟩, ⟨Gv.bw⟩⟩
            ·replace c36 := Bool.eq_false_iff.mpr c36
             subst c36
             have H1 : (spec_TableOk.j2 k2 (l0_1.length : Int) x4_2 true a0_0 l0_1 true ((rd_T75 l0_1 x4_2).f1.f0) ((rd_T75 l0_1 x4_2).f1.f1.f0.f0) ((rd_T75 l0_1 x4_2).f1.f1.f0.f1) ((rd_T75 l0_1 x4_2).f1.f1.f0.f2) ((rd_T75 l0_1 x4_2).f1.f1.f0.f3) ((rd_T75 l0_1 x4_2).f1.f1.f0.f4) ((rd_T75 l0_1 x4_2).f1.f1.f1.f0) ((rd_T75 l0_1 x4_2).f1.f1.f1.f1) ((rd_T75 l0_1 x4_2).f1.f1.f1.f2) ((rd_T75 l0_1 x4_2).f1.f1.f1.f3) ((rd_T75 l0_1 x4_2).f1.f1.f1.f4) ((rd_T75 l0_1 x4_2).f1.f1.f2) ((rd_T75 l0_1 x4_2).f1.f1.f3) ((rd_T75 l0_1 x4_2).f1.f1.f4) ((rd_T75 l0_1 x4_2).f2)) = some r := by rw [if_neg (show ¬ (false = true) by decide)] at H; exact H
             clear H
             have H := H1
             clear H1
             have H' := Gv.a0 H
             clear H
             have hnb54 := NB307_304.out
             have hnc54 := NB304_307.out
             obtain ⟨hcz55_0, hcz55_1, hcz55_2, hcz55_3, hcz55_4, hcz55_5, hcz55_6, hcz55_7, hcz55_8, hcz55_9, hcz55_10, hcz55_11, hcz55_12, hcz55_13, hcz55_14, hcz55_15⟩ := Gv.c16 BK307.out
             go_wp2_with (first | ((with_reducible refine gate_callee (f := 13) rfl ?_); refine goesL_ (some 62) rfl rfl Try.func13 (by kernel_rfl) rfl #[.agg #[.int .i64 ((rd_T75 l0_1 x4_2).f1.f0), .int .i64 ((rd_T75 l0_1 x4_2).f1.f1.f0.f0), .int .i64 ((rd_T75 l0_1 x4_2).f1.f1.f0.f1), .int .i64 ((rd_T75 l0_1 x4_2).f1.f1.f0.f2), .int .i64 ((rd_T75 l0_1 x4_2).f1.f1.f0.f3), .int .i64 ((rd_T75 l0_1 x4_2).f1.f1.f0.f4), .int .i64 ((rd_T75 l0_1 x4_2).f1.f1.f1.f0), .int .i64 ((rd_T75 l0_1 x4_2).f1.f1.f1.f1), .int .i64 ((rd_T75 l0_1 x4_2).f1.f1.f1.f2), .int .i64 ((rd_T75 l0_1 x4_2).f1.f1.f1.f3), .int .i64 ((rd_T75 l0_1 x4_2).f1.f1.f1.f4), .int .i64 ((rd_T75 l0_1 x4_2).f1.f1.f2), .int .i64 ((rd_T75 l0_1 x4_2).f1.f1.f3), .int .i64 ((rd_T75 l0_1 x4_2).f1.f1.f4)]] rfl Gv.lm ?_; (with_reducible refine (spec_FlowKeyOk.calls _ _ _ _ _ _ _ _ _ _ _ _ _ _ false _ A35.out).mono ?_); rintro e w56 ⟨rfl, hb⟩; refine ⟨_, rfl, ?_⟩; have n0_ := Gv.a0 (blk_below (g := gb304) (o := .cells #[.int .i64 a0_0, .slice (some ad306) l0_1.length c0_1] 40 (0, 0)) Gv.bkf hb); have n1_ := Gv.a0 (blk_below (g := gb307) (o := .cells #[.bool true, .int .i64 ((rd_T75 l0_1 x4_2).f1.f0), .int .i64 ((rd_T75 l0_1 x4_2).f1.f1.f0.f0), .int .i64 ((rd_T75 l0_1 x4_2).f1.f1.f0.f1), .int .i64 ((rd_T75 l0_1 x4_2).f1.f1.f0.f2), .int .i64 ((rd_T75 l0_1 x4_2).f1.f1.f0.f3), .int .i64 ((rd_T75 l0_1 x4_2).f1.f1.f0.f4), .int .i64 ((rd_T75 l0_1 x4_2).f1.f1.f1.f0), .int .i64 ((rd_T75 l0_1 x4_2).f1.f1.f1.f1), .int .i64 ((rd_T75 l0_1 x4_2).f1.f1.f1.f2), .int .i64 ((rd_T75 l0_1 x4_2).f1.f1.f1.f3), .int .i64 ((rd_T75 l0_1 x4_2).f1.f1.f1.f4), .int .i64 ((rd_T75 l0_1 x4_2).f1.f1.f2), .int .i64 ((rd_T75 l0_1 x4_2).f1.f1.f3), .int .i64 ((rd_T75 l0_1 x4_2).f1.f1.f4), .int .i64 ((rd_T75 l0_1 x4_2).f2)] 75 (0, 0)) (by (with_reducible repeat (first | refine blk_drewN ?_ _ | refine blk_drew ?_ | refine blk_alloc ?_ _)); exact BK307.out) hb); have n2_ := Gv.a0 (below_step Gv.bw hb); clear BK304; clear BK307; clear HB; have BK304 := n0_; have BK307 := n1_; have HB := n2_; clear n0_ n1_ n2_; (try clear hb); (try clear hb2); (try clear hk); (try clear hi)) | ((with_reducible refine Gv.gate_load (t := 75) rfl ?_); (try (refine gate_guard (by rfl) ?_; dsimp only)); refine wpList_load_row rfl 75 _ rfl gb307 rfl 75 _ _ _ (by first | exact Gv.kb0 BK307.out | exact Gv.kb1 (Gv.kb0 BK307.out)) Try.underlying75 rfl (by kernel_rfl) ?_))
             go_meet
             case rel => exact ⟨_, (true), Gv.rq, H', ⟨by have := HJ1.out; have := HK2.out; first | omega | exact Nat.le_refl _⟩, ⟨by (with_reducible repeat (first | refine blk_drewN ?_ _ | refine blk_drew ?_ | refine blk_alloc ?_ _)); exact BK304.out⟩, ⟨by (with_reducible repeat (first | refine blk_drewN ?_ _ | refine blk_drew ?_ | refine blk_alloc ?_ _)); exact BK307.out⟩, ⟨Gv.bw⟩⟩
           case rest =>
            clear HC30
            try clear c1
            try clear c2
            try clear p2
            try clear q2
            try clear c3
            try clear p3
            try clear q3
            try clear hx3
            try clear c4
            try clear c5
            try clear c5b0
            try clear p6
            try clear c7
            try clear c7b0
            try clear c9
            try clear c9b0
            try clear c9b1
            try clear c11
            try clear c11b0
            try clear c11b1
            try clear c13
            try clear c13b0
            try clear c13b1
            try clear c15
            try clear c15b0
            try clear c15b1
            try clear c18
            try clear c20
            try clear c20b0
            try clear c24
            try clear c25
            try clear c25b0
            try clear c26
            try clear c26b0
            try clear c27
            try clear c27b0
            try clear q28
            try clear c29
            try clear p30
            try clear q30
            try clear hx30
            try clear c33
            try clear c36
            try clear c37
            try clear c37b0
            try clear c38
            try clear c42
            try clear c42b0
            try clear c43
            try clear c48
            try clear c53
            try clear c54
            try clear hcz10_0 hcz10_1
            try clear hcz12_0 hcz12_1
            try clear hcz14_0 hcz14_1
            try clear hcz16_0 hcz16_1
            try clear hcz17_0 hcz17_1
            try clear hcz21_0 hcz21_1
            try clear hcz23_0 hcz23_1
            try clear hcz31_0 hcz31_1
            try clear hcz34_0 hcz34_1
            try clear hcz34_10 hcz34_11 hcz34_12 hcz34_13 hcz34_14 hcz34_15
            try clear hcz34_2 hcz34_3 hcz34_4 hcz34_5 hcz34_6 hcz34_7 hcz34_8 hcz34_9
            try clear hcz39_0 hcz39_1
            try clear hcz39_10 hcz39_11 hcz39_12 hcz39_13 hcz39_14 hcz39_15
            try clear hcz39_2 hcz39_3 hcz39_4 hcz39_5 hcz39_6 hcz39_7 hcz39_8 hcz39_9
            try clear hcz41_0 hcz41_1
            try clear hcz41_10 hcz41_11 hcz41_12 hcz41_13 hcz41_14 hcz41_15
            try clear hcz41_2 hcz41_3 hcz41_4 hcz41_5 hcz41_6 hcz41_7 hcz41_8 hcz41_9
            try clear hcz44_0 hcz44_1
            try clear hcz44_10 hcz44_11 hcz44_12 hcz44_13 hcz44_14 hcz44_15
            try clear hcz44_2 hcz44_3 hcz44_4 hcz44_5 hcz44_6 hcz44_7 hcz44_8 hcz44_9
            try clear hcz46_0 hcz46_1
            try clear hcz46_10 hcz46_11 hcz46_12 hcz46_13 hcz46_14 hcz46_15
            try clear hcz46_2 hcz46_3 hcz46_4 hcz46_5 hcz46_6 hcz46_7 hcz46_8 hcz46_9
            try clear hcz49_0 hcz49_1
            try clear hcz49_10 hcz49_11 hcz49_12 hcz49_13 hcz49_14 hcz49_15
            try clear hcz49_2 hcz49_3 hcz49_4 hcz49_5 hcz49_6 hcz49_7 hcz49_8 hcz49_9
            try clear hcz4_0 hcz4_1
            try clear hcz51_0 hcz51_1
            try clear hcz51_10 hcz51_11 hcz51_12 hcz51_13 hcz51_14 hcz51_15
            try clear hcz51_2 hcz51_3 hcz51_4 hcz51_5 hcz51_6 hcz51_7 hcz51_8 hcz51_9
            try clear hcz52_0 hcz52_1
            try clear hcz55_0 hcz55_1
            try clear hcz55_10 hcz55_11 hcz55_12 hcz55_13 hcz55_14 hcz55_15
            try clear hcz55_2 hcz55_3 hcz55_4 hcz55_5 hcz55_6 hcz55_7 hcz55_8 hcz55_9
            try clear hcz6_0 hcz6_1
            try clear hcz8_0 hcz8_1
            try clear hfz10_0 hfz10_1
            try clear hfz12_0 hfz12_1
            try clear hfz14_0 hfz14_1
            try clear hfz16_0 hfz16_1
            try clear hfz17_0 hfz17_1
            try clear hfz21_0 hfz21_1
            try clear hfz23_0 hfz23_1
            try clear hfz31_0 hfz31_1
            try clear hfz34_0 hfz34_1
            try clear hfz34_10 hfz34_11 hfz34_12 hfz34_13 hfz34_14 hfz34_15
            try clear hfz34_2 hfz34_3 hfz34_4 hfz34_5 hfz34_6 hfz34_7 hfz34_8 hfz34_9
            try clear hfz39_0 hfz39_1
            try clear hfz39_10 hfz39_11 hfz39_12 hfz39_13 hfz39_14 hfz39_15
            try clear hfz39_2 hfz39_3 hfz39_4 hfz39_5 hfz39_6 hfz39_7 hfz39_8 hfz39_9
            try clear hfz41_0 hfz41_1
            try clear hfz41_10 hfz41_11 hfz41_12 hfz41_13 hfz41_14 hfz41_15
            try clear hfz41_2 hfz41_3 hfz41_4 hfz41_5 hfz41_6 hfz41_7 hfz41_8 hfz41_9
            try clear hfz44_0 hfz44_1
            try clear hfz44_10 hfz44_11 hfz44_12 hfz44_13 hfz44_14 hfz44_15
            try clear hfz44_2 hfz44_3 hfz44_4 hfz44_5 hfz44_6 hfz44_7 hfz44_8 hfz44_9
            try clear hfz46_0 hfz46_1
            try clear hfz46_10 hfz46_11 hfz46_12 hfz46_13 hfz46_14 hfz46_15
            try clear hfz46_2 hfz46_3 hfz46_4 hfz46_5 hfz46_6 hfz46_7 hfz46_8 hfz46_9
            try clear hfz49_0 hfz49_1
            try clear hfz49_10 hfz49_11 hfz49_12 hfz49_13 hfz49_14 hfz49_15
            try clear hfz49_2 hfz49_3 hfz49_4 hfz49_5 hfz49_6 hfz49_7 hfz49_8 hfz49_9
            try clear hfz4_0 hfz4_1
            try clear hfz51_0 hfz51_1
            try clear hfz51_10 hfz51_11 hfz51_12 hfz51_13 hfz51_14 hfz51_15
            try clear hfz51_2 hfz51_3 hfz51_4 hfz51_5 hfz51_6 hfz51_7 hfz51_8 hfz51_9
            try clear hfz52_0 hfz52_1
            try clear hfz55_0 hfz55_1
            try clear hfz55_10 hfz55_11 hfz55_12 hfz55_13 hfz55_14 hfz55_15
            try clear hfz55_2 hfz55_3 hfz55_4 hfz55_5 hfz55_6 hfz55_7 hfz55_8 hfz55_9
            try clear hfz6_0 hfz6_1
            try clear hfz8_0 hfz8_1
            try clear hx306_0
            try clear hx306_1
            try clear hx306_10
            try clear hx306_11
            try clear hx306_12
            try clear hx306_13
            try clear hx306_14
            try clear hx306_15
            try clear hx306_2
            try clear hx306_3
            try clear hx306_4
            try clear hx306_5
            try clear hx306_6
            try clear hx306_7
            try clear hx306_8
            try clear hx306_9
            try clear p2
            try clear p306
            try clear p6
            try clear q306
            obtain ⟨kq, x81_29, rfl, HA, HJ29, BK304, BK307, HB⟩ := hcut
            cases kq with
            | zero => exact absurd HA.out (by simp [spec_TableOk.j2])
            | succ kj29 =>
             have H := HA.out
             clear HA
             simp only [spec_TableOk.j2] at H
             by_cases c57 : x81_29 = true
             ·subst c57
              have H1 : (some false) = some r := by rw [if_pos rfl] at H; exact H
              clear H
              have H := H1
              clear H1
              obtain rfl := Option.some.inj H
              go_wp2_with (first | ((with_reducible refine Gv.gate_load (t := 75) rfl ?_); (try (refine gate_guard (by rfl) ?_; dsimp only)); refine wpList_load_row rfl 75 _ rfl gb307 rfl 75 _ _ _ (by first | exact Gv.kb0 BK307.out | exact Gv.kb1 (Gv.kb0 BK307.out)) Try.underlying75 rfl (by kernel_rfl) ?_))
              go_ret
              exact ⟨Gv.rt, Gv.bw⟩
             ·replace c57 := Bool.eq_false_iff.mpr c57
              subst c57
              have H1 : ((spec_l11Home.f kj29 a0_0 l0_1 ((rd_T75 l0_1 x4_2).f1.f0) ((rd_T75 l0_1 x4_2).f1.f1.f0.f0) ((rd_T75 l0_1 x4_2).f1.f1.f0.f1) ((rd_T75 l0_1 x4_2).f1.f1.f0.f2) ((rd_T75 l0_1 x4_2).f1.f1.f0.f3) ((rd_T75 l0_1 x4_2).f1.f1.f0.f4) ((rd_T75 l0_1 x4_2).f1.f1.f1.f0) ((rd_T75 l0_1 x4_2).f1.f1.f1.f1) ((rd_T75 l0_1 x4_2).f1.f1.f1.f2) ((rd_T75 l0_1 x4_2).f1.f1.f1.f3) ((rd_T75 l0_1 x4_2).f1.f1.f1.f4) ((rd_T75 l0_1 x4_2).f1.f1.f2) ((rd_T75 l0_1 x4_2).f1.f1.f3) ((rd_T75 l0_1 x4_2).f1.f1.f4)).bind fun t310 => (spec_TableOk.l1 kj29 (l0_1.length : Int) x4_2 t310 a0_0 l0_1)) = some r := by rw [if_neg (show ¬ (false = true) by decide)] at H; exact H
              clear H
              have H := H1
              clear H1
              replace H := Option.bind_eq_some_iff.mp H
              obtain ⟨t310, A580, H⟩ := H
              replace H : (spec_TableOk.l1 kj29 (l0_1.length : Int) x4_2 t310 a0_0 l0_1) = some r := H
              have A58 := Gv.a0 A580
              clear A580
              have H' := Gv.a0 H
              clear H
              have hnb59 := NB304_307.out
              have hnc59 := NB307_304.out
              have hcz60_0 : wc.cell? ⟨gb304, 0, none⟩ = some (.int .i64 a0_0) := (blk_cell BK304.out 0).trans rfl
              have hcz60_1 : wc.cell? ⟨gb304, 1, none⟩ = some (.slice (some ad306) l0_1.length c0_1) := (blk_cell BK304.out 1).trans rfl
              have hfz60_0 := blk_frozen BK304.out 0
              have hfz60_1 := blk_frozen BK304.out 1
              obtain ⟨hcz61_0, hcz61_1, hcz61_2, hcz61_3, hcz61_4, hcz61_5, hcz61_6, hcz61_7, hcz61_8, hcz61_9, hcz61_10, hcz61_11, hcz61_12, hcz61_13, hcz61_14, hcz61_15⟩ := Gv.c16 BK307.out
              go_wp2_with (first | ((with_reducible refine gate_callee (f := 55) rfl ?_); refine goesL_ (some 85) rfl rfl Try.func55 (by kernel_rfl) rfl #[.agg #[.int .i64 a0_0, .slice (some ad306) l0_1.length c0_1], .agg #[.int .i64 ((rd_T75 l0_1 x4_2).f1.f0), .int .i64 ((rd_T75 l0_1 x4_2).f1.f1.f0.f0), .int .i64 ((rd_T75 l0_1 x4_2).f1.f1.f0.f1), .int .i64 ((rd_T75 l0_1 x4_2).f1.f1.f0.f2), .int .i64 ((rd_T75 l0_1 x4_2).f1.f1.f0.f3), .int .i64 ((rd_T75 l0_1 x4_2).f1.f1.f0.f4), .int .i64 ((rd_T75 l0_1 x4_2).f1.f1.f1.f0), .int .i64 ((rd_T75 l0_1 x4_2).f1.f1.f1.f1), .int .i64 ((rd_T75 l0_1 x4_2).f1.f1.f1.f2), .int .i64 ((rd_T75 l0_1 x4_2).f1.f1.f1.f3), .int .i64 ((rd_T75 l0_1 x4_2).f1.f1.f1.f4), .int .i64 ((rd_T75 l0_1 x4_2).f1.f1.f2), .int .i64 ((rd_T75 l0_1 x4_2).f1.f1.f3), .int .i64 ((rd_T75 l0_1 x4_2).f1.f1.f4)]] rfl Gv.lm ?_; (with_reducible refine (spec_l11Home.calls kj29 a0_0 _ _ l0_1 _ _ _ _ _ _ _ _ _ _ _ _ _ _ t310 _ ?side1 ?side2 A58.out).mono ?_); (case side1 => repeat (first | exact (Kd.C_below HR0_1.out HB.out) | (with_reducible refine Kd.C_alloc ?_ _) | (with_reducible refine Kd.C_drewN ?_ _) | (with_reducible refine Kd.C_drew ?_))); (case side2 => exact HC0_1.out); rintro e w62 ⟨rfl, hb⟩; refine ⟨_, rfl, ?_⟩; have n0_ := Gv.a0 (Gv.bb BK304.out hb); have n1_ := Gv.a0 (Gv.bb BK307.out hb); have n2_ := Gv.a0 (below_step Gv.bw hb); clear BK304; clear BK307; clear HB; have BK304 := n0_; have BK307 := n1_; have HB := n2_; clear n0_ n1_ n2_; (try clear hb); (try clear hb2); (try clear hk); (try clear hi)) | ((with_reducible refine Gv.gate_load (t := 75) rfl ?_); (try (refine gate_guard (by rfl) ?_; dsimp only)); refine wpList_load_row rfl 75 _ rfl gb307 rfl 75 _ _ _ (by first | exact Gv.kb0 BK307.out | exact Gv.kb1 (Gv.kb0 BK307.out)) Try.underlying75 rfl (by kernel_rfl) ?_))
              go_loopg [6] kj29 (fun kq v6 w' => ∃ (x6_4 : Int), v6 = .int .i64 x6_4 ∧ Aside0 (spec_TableOk.l1 kq (l0_1.length : Int) x4_2 x6_4 a0_0 l0_1 = some r) ∧ Aside0 (kq ≤ kj29) ∧ Aside0 (w'.heap[gb304]? = some (.cells #[.int .i64 a0_0, (.slice (some ad306) l0_1.length c0_1)] 40 (0, 0))) ∧ Aside0 (w'.heap[gb307]? = some (.cells #[.bool true, .int .i64 ((rd_T75 l0_1 x4_2).f1.f0), .int .i64 ((rd_T75 l0_1 x4_2).f1.f1.f0.f0), .int .i64 ((rd_T75 l0_1 x4_2).f1.f1.f0.f1), .int .i64 ((rd_T75 l0_1 x4_2).f1.f1.f0.f2), .int .i64 ((rd_T75 l0_1 x4_2).f1.f1.f0.f3), .int .i64 ((rd_T75 l0_1 x4_2).f1.f1.f0.f4), .int .i64 ((rd_T75 l0_1 x4_2).f1.f1.f1.f0), .int .i64 ((rd_T75 l0_1 x4_2).f1.f1.f1.f1), .int .i64 ((rd_T75 l0_1 x4_2).f1.f1.f1.f2), .int .i64 ((rd_T75 l0_1 x4_2).f1.f1.f1.f3), .int .i64 ((rd_T75 l0_1 x4_2).f1.f1.f1.f4), .int .i64 ((rd_T75 l0_1 x4_2).f1.f1.f2), .int .i64 ((rd_T75 l0_1 x4_2).f1.f1.f3), .int .i64 ((rd_T75 l0_1 x4_2).f1.f1.f4), .int .i64 ((rd_T75 l0_1 x4_2).f2)] 75 (0, 0))) ∧ Aside0 (Below w.heap.size w w'))
              case atStart => exact ⟨(t310), Gv.rq, H', ⟨Nat.le_refl _⟩, ⟨by (with_reducible repeat (first | refine blk_drewN ?_ _ | refine blk_drew ?_ | refine blk_alloc ?_ _)); exact BK304.out⟩, ⟨by (with_reducible repeat (first | refine blk_drewN ?_ _ | refine blk_drew ?_ | refine blk_alloc ?_ _)); exact BK307.out⟩, ⟨Gv.bw⟩⟩
              case round =>
               clear H'
               try clear c1
               try clear c2
               try clear p2
               try clear q2
               try clear c3
               try clear p3
               try clear q3
               try clear hx3
               try clear c4
               try clear c5
               try clear c5b0
               try clear p6
               try clear c7
               try clear c7b0
               try clear c9
               try clear c9b0
               try clear c9b1
               try clear c11
               try clear c11b0
               try clear c11b1
               try clear c13
               try clear c13b0
               try clear c13b1
               try clear c15
               try clear c15b0
               try clear c15b1
               try clear c18
               try clear c20
               try clear c20b0
               try clear c24
               try clear c25
               try clear c25b0
               try clear c26
               try clear c26b0
               try clear c27
               try clear c27b0
               try clear q28
               try clear c29
               try clear p30
               try clear q30
               try clear hx30
               try clear c33
               try clear c36
               try clear c37
               try clear c37b0
               try clear c38
               try clear c42
               try clear c42b0
               try clear c43
               try clear c48
               try clear c53
               try clear c54
               try clear c55
               try clear c57
               try clear c59
               try clear hcz10_0 hcz10_1
               try clear hcz12_0 hcz12_1
               try clear hcz14_0 hcz14_1
               try clear hcz16_0 hcz16_1
               try clear hcz17_0 hcz17_1
               try clear hcz21_0 hcz21_1
               try clear hcz23_0 hcz23_1
               try clear hcz31_0 hcz31_1
               try clear hcz34_0 hcz34_1
               try clear hcz34_10 hcz34_11 hcz34_12 hcz34_13 hcz34_14 hcz34_15
               try clear hcz34_2 hcz34_3 hcz34_4 hcz34_5 hcz34_6 hcz34_7 hcz34_8 hcz34_9
               try clear hcz39_0 hcz39_1
               try clear hcz39_10 hcz39_11 hcz39_12 hcz39_13 hcz39_14 hcz39_15
               try clear hcz39_2 hcz39_3 hcz39_4 hcz39_5 hcz39_6 hcz39_7 hcz39_8 hcz39_9
               try clear hcz41_0 hcz41_1
               try clear hcz41_10 hcz41_11 hcz41_12 hcz41_13 hcz41_14 hcz41_15
               try clear hcz41_2 hcz41_3 hcz41_4 hcz41_5 hcz41_6 hcz41_7 hcz41_8 hcz41_9
               try clear hcz44_0 hcz44_1
               try clear hcz44_10 hcz44_11 hcz44_12 hcz44_13 hcz44_14 hcz44_15
               try clear hcz44_2 hcz44_3 hcz44_4 hcz44_5 hcz44_6 hcz44_7 hcz44_8 hcz44_9
               try clear hcz46_0 hcz46_1
               try clear hcz46_10 hcz46_11 hcz46_12 hcz46_13 hcz46_14 hcz46_15
               try clear hcz46_2 hcz46_3 hcz46_4 hcz46_5 hcz46_6 hcz46_7 hcz46_8 hcz46_9
               try clear hcz49_0 hcz49_1
               try clear hcz49_10 hcz49_11 hcz49_12 hcz49_13 hcz49_14 hcz49_15
               try clear hcz49_2 hcz49_3 hcz49_4 hcz49_5 hcz49_6 hcz49_7 hcz49_8 hcz49_9
               try clear hcz4_0 hcz4_1
               try clear hcz51_0 hcz51_1
               try clear hcz51_10 hcz51_11 hcz51_12 hcz51_13 hcz51_14 hcz51_15
               try clear hcz51_2 hcz51_3 hcz51_4 hcz51_5 hcz51_6 hcz51_7 hcz51_8 hcz51_9
               try clear hcz52_0 hcz52_1
               try clear hcz55_0 hcz55_1
               try clear hcz55_10 hcz55_11 hcz55_12 hcz55_13 hcz55_14 hcz55_15
               try clear hcz55_2 hcz55_3 hcz55_4 hcz55_5 hcz55_6 hcz55_7 hcz55_8 hcz55_9
               try clear hcz60_0 hcz60_1
               try clear hcz61_0 hcz61_1
               try clear hcz61_10 hcz61_11 hcz61_12 hcz61_13 hcz61_14 hcz61_15
               try clear hcz61_2 hcz61_3 hcz61_4 hcz61_5 hcz61_6 hcz61_7 hcz61_8 hcz61_9
               try clear hcz6_0 hcz6_1
               try clear hcz8_0 hcz8_1
               try clear hfz10_0 hfz10_1
               try clear hfz12_0 hfz12_1
               try clear hfz14_0 hfz14_1
               try clear hfz16_0 hfz16_1
               try clear hfz17_0 hfz17_1
               try clear hfz21_0 hfz21_1
               try clear hfz23_0 hfz23_1
               try clear hfz31_0 hfz31_1
               try clear hfz34_0 hfz34_1
               try clear hfz34_10 hfz34_11 hfz34_12 hfz34_13 hfz34_14 hfz34_15
               try clear hfz34_2 hfz34_3 hfz34_4 hfz34_5 hfz34_6 hfz34_7 hfz34_8 hfz34_9
               try clear hfz39_0 hfz39_1
               try clear hfz39_10 hfz39_11 hfz39_12 hfz39_13 hfz39_14 hfz39_15
               try clear hfz39_2 hfz39_3 hfz39_4 hfz39_5 hfz39_6 hfz39_7 hfz39_8 hfz39_9
               try clear hfz41_0 hfz41_1
               try clear hfz41_10 hfz41_11 hfz41_12 hfz41_13 hfz41_14 hfz41_15
               try clear hfz41_2 hfz41_3 hfz41_4 hfz41_5 hfz41_6 hfz41_7 hfz41_8 hfz41_9
               try clear hfz44_0 hfz44_1
               try clear hfz44_10 hfz44_11 hfz44_12 hfz44_13 hfz44_14 hfz44_15
               try clear hfz44_2 hfz44_3 hfz44_4 hfz44_5 hfz44_6 hfz44_7 hfz44_8 hfz44_9
               try clear hfz46_0 hfz46_1
               try clear hfz46_10 hfz46_11 hfz46_12 hfz46_13 hfz46_14 hfz46_15
               try clear hfz46_2 hfz46_3 hfz46_4 hfz46_5 hfz46_6 hfz46_7 hfz46_8 hfz46_9
               try clear hfz49_0 hfz49_1
               try clear hfz49_10 hfz49_11 hfz49_12 hfz49_13 hfz49_14 hfz49_15
               try clear hfz49_2 hfz49_3 hfz49_4 hfz49_5 hfz49_6 hfz49_7 hfz49_8 hfz49_9
               try clear hfz4_0 hfz4_1
               try clear hfz51_0 hfz51_1
               try clear hfz51_10 hfz51_11 hfz51_12 hfz51_13 hfz51_14 hfz51_15
               try clear hfz51_2 hfz51_3 hfz51_4 hfz51_5 hfz51_6 hfz51_7 hfz51_8 hfz51_9
               try clear hfz52_0 hfz52_1
               try clear hfz55_0 hfz55_1
               try clear hfz55_10 hfz55_11 hfz55_12 hfz55_13 hfz55_14 hfz55_15
               try clear hfz55_2 hfz55_3 hfz55_4 hfz55_5 hfz55_6 hfz55_7 hfz55_8 hfz55_9
               try clear hfz60_0 hfz60_1
               try clear hfz61_0 hfz61_1
               try clear hfz61_10 hfz61_11 hfz61_12 hfz61_13 hfz61_14 hfz61_15
               try clear hfz61_2 hfz61_3 hfz61_4 hfz61_5 hfz61_6 hfz61_7 hfz61_8 hfz61_9
               try clear hfz6_0 hfz6_1
               try clear hfz8_0 hfz8_1
               try clear hx306_0
               try clear hx306_1
               try clear hx306_10
               try clear hx306_11
               try clear hx306_12
               try clear hx306_13
               try clear hx306_14
               try clear hx306_15
               try clear hx306_2
               try clear hx306_3
               try clear hx306_4
               try clear hx306_5
               try clear hx306_6
               try clear hx306_7
               try clear hx306_8
               try clear hx306_9
               try clear p2
               try clear p3
               try clear p30
               try clear p306
               try clear p6
               try clear q2
               try clear q28
               try clear q3
               try clear q30
               try clear q306
               obtain ⟨x6_4, rfl, HA, HK4, BK304, BK307, HB⟩ := hrel
               cases gk with
               | zero => exact absurd HA.out (by simp [spec_TableOk.l1])
               | succ k4 =>
                have H := HA.out
                clear HA
                simp only [spec_TableOk.l1] at H
                by_cases c63 : x6_4 = x4_2
                ·rw [if_pos c63] at H
                 have c63b0 : (x6_4 == x4_2) = true := beq_iff_eq.mpr c63
                 have c63b1 : (x6_4 != x4_2) = false := bne_eq_false_iff_eq.mpr c63
                 clear c63
                 have H' := Gv.a0 H
                 clear H
                 go_wp2_with (first | ((with_reducible refine Gv.gate_load (t := 75) rfl ?_); (try (refine gate_guard (by rfl) ?_; dsimp only)); refine wpList_load_row rfl 75 _ rfl gb307 rfl 75 _ _ _ (by first | exact Gv.kb0 BK307.out | exact Gv.kb1 (Gv.kb0 BK307.out)) Try.underlying75 rfl (by kernel_rfl) ?_))
                 go_roundg k4
                 case measure => have := HJ1.out; have := HK2.out; have := HJ29.out; have := HK4.out; omega
                 case rel => exact ⟨(wrap64 (x4_2 + 1)), Gv.rq, H', ⟨by have := HJ1.out; have := HK2.out; have := HJ29.out; have := HK4.out; omega⟩, ⟨by (with_reducible repeat (first | refine blk_drewN ?_ _ | refine blk_drew ?_ | refine blk_alloc ?_ _)); exact BK304.out⟩, ⟨Gv.bw⟩⟩
                ·rw [if_neg c63] at H
                 have c63b0 : (x6_4 == x4_2) = false := beq_eq_false_iff_ne.mpr c63
                 have c63b1 : (x6_4 != x4_2) = true := bne_iff_ne.mpr c63
                 by_cases c64 : 0 ≤ x6_4
                 ·rw [if_pos c64] at H
                  have c64b0 : decide (0 ≤ x6_4) = true := decide_eq_true c64
                  clear c64
                  by_cases c65 : x6_4 < (l0_1.length : Int)
                  ·rw [if_pos c65] at H
                   have c65b0 : decide (x6_4 < (l0_1.length : Int)) = true := decide_eq_true c65
                   clear c65
                   obtain ⟨bq66, hbq66⟩ : ∃ b_ : Bool, b_ = ((rd_T75 l0_1 x6_4).f0) := ⟨_, rfl⟩
                   replace H : (if (bq66 = true) then (if (l0_1.length : Int) = 0 then (none) else (spec_TableOk.l1 k4 (l0_1.length : Int) x4_2 (Int.tmod (wrap64 (x6_4 + 1)) (l0_1.length : Int)) a0_0 l0_1)) else (some false)) = some r := by rw [← hbq66] at H; exact H
                   have Nbq66 := Gv.a0 hbq66
                   clear hbq66
                   by_cases c67 : (bq66 = true)
                   ·subst c67
                    have H1 : (if (l0_1.length : Int) = 0 then (none) else (spec_TableOk.l1 k4 (l0_1.length : Int) x4_2 (Int.tmod (wrap64 (x6_4 + 1)) (l0_1.length : Int)) a0_0 l0_1)) = some r := by rw [if_pos rfl] at H; exact H
                    clear H
                    have H := H1
                    clear H1
                    by_cases c68 : (l0_1.length : Int) = 0
                    ·rw [if_pos c68] at H
                     exact absurd H (by simp)
                    ·rw [if_neg c68] at H
                     have c68b0 : ((l0_1.length : Int) == 0) = false := beq_eq_false_iff_ne.mpr c68
                     have c68b1 : ((l0_1.length : Int) != 0) = true := bne_iff_ne.mpr c68
                     have c68b2 : ¬ (l0_1 = []) := fun h_ => c68 (by rw [h_]; rfl)
                     have H' := Gv.a0 H
                     clear H
                     have hnb69 := NB304_307.out
                     have hnc69 := NB307_304.out
                     have hcz70_0 : wr.cell? ⟨gb304, 0, none⟩ = some (.int .i64 a0_0) := (blk_cell BK304.out 0).trans rfl
                     have hcz70_1 : wr.cell? ⟨gb304, 1, none⟩ = some (.slice (some ad306) l0_1.length c0_1) := (blk_cell BK304.out 1).trans rfl
                     have hfz70_0 := blk_frozen BK304.out 0
                     have hfz70_1 := blk_frozen BK304.out 1
                     have p311 : 0 ≤ (x6_4 : Int) := of_decide_eq_true (by first | (with_reducible assumption) | assumption)
                     have q311 : x6_4 < (l0_1.length : Int) := of_decide_eq_true (by first | (with_reducible assumption) | assumption)
                     obtain ⟨ad311, e311, hx311_0, _, _, _, _, _, _, _, _, _, _, _, _, _, _, _⟩ := at_T75 HR0_1.out x6_4 p311 q311
                     (try rw [← Nbq28.out] at hx311_0)
                     (try rw [← Nbq66.out] at hx311_0)
                     obtain rfl : ad306 = ad311 := (by injection e311)
                     replace hx311_0 := Gv.bx HB.out hx311_0
                     replace p311 := eq_true p311
                     replace q311 := eq_true q311
                     go_wp2_with (first | ((with_reducible refine Gv.gate_load (t := 75) rfl ?_); (try (refine gate_guard (by rfl) ?_; dsimp only)); refine wpList_load_row rfl 75 _ rfl gb307 rfl 75 _ _ _ (by first | exact Gv.kb0 BK307.out | exact Gv.kb1 (Gv.kb0 BK307.out)) Try.underlying75 rfl (by kernel_rfl) ?_))
                     go_roundg k4
                     case measure => have := HJ1.out; have := HK2.out; have := HJ29.out; have := HK4.out; omega
                     case rel => exact ⟨(Int.tmod (wrap64 (x6_4 + 1)) (l0_1.length : Int)), Gv.rq, H', ⟨by have := HJ1.out; have := HK2.out; have := HJ29.out; have := HK4.out; omega⟩, ⟨by (with_reducible repeat (first | refine blk_drewN ?_ _ | refine blk_drew ?_ | refine blk_alloc ?_ _)); exact BK304.out⟩, ⟨by (with_reducible repeat (first | refine blk_drewN ?_ _ | refine blk_drew ?_ | refine blk_alloc ?_ _)); exact BK307.out⟩, ⟨Gv.bw⟩⟩
                   ·replace c67 := Bool.eq_false_iff.mpr c67
                    subst c67
                    have H1 : (some false) = some r := by rw [if_neg (show ¬ (false = true) by decide)] at H; exact H
                    clear H
                    have H := H1
                    clear H1
                    obtain rfl := Option.some.inj H
                    have hnb71 := NB304_307.out
                    have hnc71 := NB307_304.out
                    have hcz72_0 : wr.cell? ⟨gb304, 0, none⟩ = some (.int .i64 a0_0) := (blk_cell BK304.out 0).trans rfl
                    have hcz72_1 : wr.cell? ⟨gb304, 1, none⟩ = some (.slice (some ad306) l0_1.length c0_1) := (blk_cell BK304.out 1).trans rfl
                    have hfz72_0 := blk_frozen BK304.out 0
                    have hfz72_1 := blk_frozen BK304.out 1
                    have p311 : 0 ≤ (x6_4 : Int) := of_decide_eq_true (by first | (with_reducible assumption) | assumption)
                    have q311 : x6_4 < (l0_1.length : Int) := of_decide_eq_true (by first | (with_reducible assumption) | assumption)
                    obtain ⟨ad311, e311, hx311_0, _, _, _, _, _, _, _, _, _, _, _, _, _, _, _⟩ := at_T75 HR0_1.out x6_4 p311 q311
                    (try rw [← Nbq28.out] at hx311_0)
                    (try rw [← Nbq66.out] at hx311_0)
                    obtain rfl : ad306 = ad311 := (by injection e311)
                    replace hx311_0 := Gv.bx HB.out hx311_0
                    replace p311 := eq_true p311
                    replace q311 := eq_true q311
                    go_wp2_with (first | ((with_reducible refine Gv.gate_load (t := 75) rfl ?_); (try (refine gate_guard (by rfl) ?_; dsimp only)); refine wpList_load_row rfl 75 _ rfl gb307 rfl 75 _ _ _ (by first | exact Gv.kb0 BK307.out | exact Gv.kb1 (Gv.kb0 BK307.out)) Try.underlying75 rfl (by kernel_rfl) ?_))
                    go_ret
                    exact ⟨Gv.rt, Gv.bw⟩
                  ·rw [if_neg c65] at H
                   exact absurd H (by simp)
                 ·rw [if_neg c64] at H
                  exact absurd H (by simp)
          ·replace c29 := Bool.eq_false_iff.mpr c29
           subst c29
           have H1 : (if (((!(((rd_T75 l0_1 x4_2).f1.f0) == 0) || (((!(((rd_T75 l0_1 x4_2).f1.f1.f0.f0) == 0) || (!(((rd_T75 l0_1 x4_2).f1.f1.f0.f1) == 0) || (!(((rd_T75 l0_1 x4_2).f1.f1.f0.f2) == 0) || (!(((rd_T75 l0_1 x4_2).f1.f1.f0.f3) == 0) || (!(((rd_T75 l0_1 x4_2).f1.f1.f0.f4) == 0)))))) || ((!(((rd_T75 l0_1 x4_2).f1.f1.f1.f0) == 0) || (!(((rd_T75 l0_1 x4_2).f1.f1.f1.f1) == 0) || (!(((rd_T75 l0_1 x4_2).f1.f1.f1.f2) == 0) || (!(((rd_T75 l0_1 x4_2).f1.f1.f1.f3) == 0) || (!(((rd_T75 l0_1 x4_2).f1.f1.f1.f4) == 0)))))) || (!(((rd_T75 l0_1 x4_2).f1.f1.f2) == 0) || (!(((rd_T75 l0_1 x4_2).f1.f1.f3) == 0) || (!(((rd_T75 l0_1 x4_2).f1.f1.f4) == 0)))))))) || (!(((rd_T75 l0_1 x4_2).f2) == 0)))) = true then (some false) else (spec_TableOk.l0 k2 (l0_1.length : Int) (wrap64 (x4_2 + 1)) a0_0 l0_1)) = some r := by rw [if_neg (show ¬ (false = true) by decide)] at H; exact H
           clear H
           have H := H1
           clear H1
           by_cases c73 : (((!(((rd_T75 l0_1 x4_2).f1.f0) == 0) || (((!(((rd_T75 l0_1 x4_2).f1.f1.f0.f0) == 0) || (!(((rd_T75 l0_1 x4_2).f1.f1.f0.f1) == 0) || (!(((rd_T75 l0_1 x4_2).f1.f1.f0.f2) == 0) || (!(((rd_T75 l0_1 x4_2).f1.f1.f0.f3) == 0) || (!(((rd_T75 l0_1 x4_2).f1.f1.f0.f4) == 0)))))) || ((!(((rd_T75 l0_1 x4_2).f1.f1.f1.f0) == 0) || (!(((rd_T75 l0_1 x4_2).f1.f1.f1.f1) == 0) || (!(((rd_T75 l0_1 x4_2).f1.f1.f1.f2) == 0) || (!(((rd_T75 l0_1 x4_2).f1.f1.f1.f3) == 0) || (!(((rd_T75 l0_1 x4_2).f1.f1.f1.f4) == 0)))))) || (!(((rd_T75 l0_1 x4_2).f1.f1.f2) == 0) || (!(((rd_T75 l0_1 x4_2).f1.f1.f3) == 0) || (!(((rd_T75 l0_1 x4_2).f1.f1.f4) == 0)))))))) || (!(((rd_T75 l0_1 x4_2).f2) == 0)))) = true
           ·rw [if_pos c73] at H
            have c73b0 : (((!(((rd_T75 l0_1 x4_2).f1.f0) == 0) || (((!(((rd_T75 l0_1 x4_2).f1.f1.f0.f0) == 0) || (!(((rd_T75 l0_1 x4_2).f1.f1.f0.f1) == 0) || (!(((rd_T75 l0_1 x4_2).f1.f1.f0.f2) == 0) || (!(((rd_T75 l0_1 x4_2).f1.f1.f0.f3) == 0) || (!(((rd_T75 l0_1 x4_2).f1.f1.f0.f4) == 0)))))) || ((!(((rd_T75 l0_1 x4_2).f1.f1.f1.f0) == 0) || (!(((rd_T75 l0_1 x4_2).f1.f1.f1.f1) == 0) || (!(((rd_T75 l0_1 x4_2).f1.f1.f1.f2) == 0) || (!(((rd_T75 l0_1 x4_2).f1.f1.f1.f3) == 0) || (!(((rd_T75 l0_1 x4_2).f1.f1.f1.f4) == 0)))))) || (!(((rd_T75 l0_1 x4_2).f1.f1.f2) == 0) || (!(((rd_T75 l0_1 x4_2).f1.f1.f3) == 0) || (!(((rd_T75 l0_1 x4_2).f1.f1.f4) == 0)))))))) || (!(((rd_T75 l0_1 x4_2).f2) == 0)))) = true := c73
            clear c73
            obtain rfl := Option.some.inj H
            have hcz74_0 : wr.cell? ⟨gb304, 0, none⟩ = some (.int .i64 a0_0) := (blk_cell BK304.out 0).trans rfl
            have hcz74_1 : wr.cell? ⟨gb304, 1, none⟩ = some (.slice A0_1 l0_1.length c0_1) := (blk_cell BK304.out 1).trans rfl
            have hfz74_0 := blk_frozen BK304.out 0
            have hfz74_1 := blk_frozen BK304.out 1
            have p306 : 0 ≤ (x4_2 : Int) := of_decide_eq_true (by first | (with_reducible assumption) | assumption)
            have q306 : x4_2 < (l0_1.length : Int) := of_decide_eq_true (by first | (with_reducible assumption) | assumption)
            obtain ⟨ad306, e306, hx306_0, hx306_1, hx306_2, hx306_3, hx306_4, hx306_5, hx306_6, hx306_7, hx306_8, hx306_9, hx306_10, hx306_11, hx306_12, hx306_13, hx306_14, hx306_15⟩ := at_T75 HR0_1.out x4_2 p306 q306
            (try rw [← Nbq28.out] at hx306_0)
            cases e306
            replace hx306_0 := Gv.bx HB.out hx306_0
            replace hx306_1 := Gv.bx HB.out hx306_1
            replace hx306_2 := Gv.bx HB.out hx306_2
            replace hx306_3 := Gv.bx HB.out hx306_3
            replace hx306_4 := Gv.bx HB.out hx306_4
            replace hx306_5 := Gv.bx HB.out hx306_5
            replace hx306_6 := Gv.bx HB.out hx306_6
            replace hx306_7 := Gv.bx HB.out hx306_7
            replace hx306_8 := Gv.bx HB.out hx306_8
            replace hx306_9 := Gv.bx HB.out hx306_9
            replace hx306_10 := Gv.bx HB.out hx306_10
            replace hx306_11 := Gv.bx HB.out hx306_11
            replace hx306_12 := Gv.bx HB.out hx306_12
            replace hx306_13 := Gv.bx HB.out hx306_13
            replace hx306_14 := Gv.bx HB.out hx306_14
            replace hx306_15 := Gv.bx HB.out hx306_15
            replace p306 := eq_true p306
            replace q306 := eq_true q306
            go_wp2_with (first | ((with_reducible refine gate_dst (N := 5) rfl ?_); refine box_event ?hg (N := 5) ?hd (cs := #[.bool false, .int .i64 0, .int .i64 0, .int .i64 0, .int .i64 0, .int .i64 0, .int .i64 0, .int .i64 0, .int .i64 0, .int .i64 0, .int .i64 0, .int .i64 0, .int .i64 0, .int .i64 0, .int .i64 0, .int .i64 0]) (t := 75) ?hr ?_; (case hd => rfl); (case hg => rfl); (case hr => first | (go_simp; done) | (go_simp; rfl)); intro gb307 hg w75 hbox hb; have n0_ := Gv.a0 (Gv.bb BK304.out hb); have n1_ := Gv.a0 (below_step Gv.bw hb); have n2_ := Gv.a0 (hbox); have n3_ := Gv.a0 ((Gv.ble hg Gv.bw : w.heap.size ≤ gb307)); have n4_ := Gv.a0 ((Gv.ble hg Gv.bw : w.heap.size ≤ gb307)); have n5_ := Gv.a0 ((Gv.nlt hg (Gv.kb BK304.out) : gb304 ≠ gb307)); have n6_ := Gv.a0 ((Gv.ngt hg (Gv.kb BK304.out) : gb307 ≠ gb304)); clear BK304; clear HB; have BK304 := n0_; have HB := n1_; have BK307 := n2_; have GW307 := n3_; have GE307 := n4_; have NB304_307 := n5_; have NB307_304 := n6_; clear n0_ n1_ n2_ n3_ n4_ n5_ n6_; clear hb hbox hg; have hnb76 := NB307_304.out; have hnc76 := NB304_307.out; obtain ⟨hcz77_0, hcz77_1, hcz77_2, hcz77_3, hcz77_4, hcz77_5, hcz77_6, hcz77_7, hcz77_8, hcz77_9, hcz77_10, hcz77_11, hcz77_12, hcz77_13, hcz77_14, hcz77_15⟩ := Gv.c16 BK307.out) | ((with_reducible refine gate_store (t := 75) (p := 5) rfl ?_); refine Gv.store_event rfl rfl rfl rfl rfl (Gv.kb BK307.out) (by kernel_rfl) rfl (by simp; and_intros <;> rfl) ?_; intro w75s hbox hoth hbel; have n0_ := Gv.a0 (hbox); have n1_ := Gv.a0 (hbel w Gv.bw GE307.out); have n2_ := Gv.a0 ((hoth gb304 NB304_307.out).trans (Gv.kb BK304.out)); clear BK307 HB BK304; have BK307 := n0_; have HB := n1_; have BK304 := n2_; clear n0_ n1_ n2_ hbox hoth hbel; (try clear hcz77_0 hcz77_1 hcz77_2 hcz77_3 hcz77_4 hcz77_5 hcz77_6 hcz77_7 hcz77_8 hcz77_9 hcz77_10 hcz77_11 hcz77_12 hcz77_13 hcz77_14 hcz77_15 hfz77_0 hfz77_1 hfz77_2 hfz77_3 hfz77_4 hfz77_5 hfz77_6 hfz77_7 hfz77_8 hfz77_9 hfz77_10 hfz77_11 hfz77_12 hfz77_13 hfz77_14 hfz77_15); obtain ⟨hcz77_0, hcz77_1, hcz77_2, hcz77_3, hcz77_4, hcz77_5, hcz77_6, hcz77_7, hcz77_8, hcz77_9, hcz77_10, hcz77_11, hcz77_12, hcz77_13, hcz77_14, hcz77_15⟩ := Gv.c16 BK307.out) | ((with_reducible refine Gv.gate_load (t := 75) rfl ?_); (try (refine gate_guard (by rfl) ?_; dsimp only)); refine wpList_load_row rfl 75 _ rfl gb307 rfl 75 _ _ _ (by first | exact Gv.kb0 BK307.out | exact Gv.kb1 (Gv.kb0 BK307.out)) Try.underlying75 rfl (by kernel_rfl) ?_) | ((with_reducible refine Gv.gate_load (t := 75) rfl ?_); refine Gv.load_event (cs := [_, _, _, _, _, _, _, _, _, _, _, _, _, _, _, _]) rfl rfl rfl ⟨hx306_0, hx306_1, hx306_2, hx306_3, hx306_4, hx306_5, hx306_6, hx306_7, hx306_8, hx306_9, hx306_10, hx306_11, hx306_12, hx306_13, hx306_14, hx306_15, trivial⟩ Try.underlying75 rfl (by kernel_rfl) ?_))
            go_ret
            exact ⟨Gv.rt, Gv.bw⟩
           ·rw [if_neg c73] at H
            have c73b0 : (((!(((rd_T75 l0_1 x4_2).f1.f0) == 0) || (((!(((rd_T75 l0_1 x4_2).f1.f1.f0.f0) == 0) || (!(((rd_T75 l0_1 x4_2).f1.f1.f0.f1) == 0) || (!(((rd_T75 l0_1 x4_2).f1.f1.f0.f2) == 0) || (!(((rd_T75 l0_1 x4_2).f1.f1.f0.f3) == 0) || (!(((rd_T75 l0_1 x4_2).f1.f1.f0.f4) == 0)))))) || ((!(((rd_T75 l0_1 x4_2).f1.f1.f1.f0) == 0) || (!(((rd_T75 l0_1 x4_2).f1.f1.f1.f1) == 0) || (!(((rd_T75 l0_1 x4_2).f1.f1.f1.f2) == 0) || (!(((rd_T75 l0_1 x4_2).f1.f1.f1.f3) == 0) || (!(((rd_T75 l0_1 x4_2).f1.f1.f1.f4) == 0)))))) || (!(((rd_T75 l0_1 x4_2).f1.f1.f2) == 0) || (!(((rd_T75 l0_1 x4_2).f1.f1.f3) == 0) || (!(((rd_T75 l0_1 x4_2).f1.f1.f4) == 0)))))))) || (!(((rd_T75 l0_1 x4_2).f2) == 0)))) = false := by simpa using c73
            clear c73
            have H' := Gv.a0 H
            clear H
            have hcz78_0 : wr.cell? ⟨gb304, 0, none⟩ = some (.int .i64 a0_0) := (blk_cell BK304.out 0).trans rfl
            have hcz78_1 : wr.cell? ⟨gb304, 1, none⟩ = some (.slice A0_1 l0_1.length c0_1) := (blk_cell BK304.out 1).trans rfl
            have hfz78_0 := blk_frozen BK304.out 0
            have hfz78_1 := blk_frozen BK304.out 1
            have p306 : 0 ≤ (x4_2 : Int) := of_decide_eq_true (by first | (with_reducible assumption) | assumption)
            have q306 : x4_2 < (l0_1.length : Int) := of_decide_eq_true (by first | (with_reducible assumption) | assumption)
            obtain ⟨ad306, e306, hx306_0, hx306_1, hx306_2, hx306_3, hx306_4, hx306_5, hx306_6, hx306_7, hx306_8, hx306_9, hx306_10, hx306_11, hx306_12, hx306_13, hx306_14, hx306_15⟩ := at_T75 HR0_1.out x4_2 p306 q306
            (try rw [← Nbq28.out] at hx306_0)
            cases e306
            replace hx306_0 := Gv.bx HB.out hx306_0
            replace hx306_1 := Gv.bx HB.out hx306_1
            replace hx306_2 := Gv.bx HB.out hx306_2
            replace hx306_3 := Gv.bx HB.out hx306_3
            replace hx306_4 := Gv.bx HB.out hx306_4
            replace hx306_5 := Gv.bx HB.out hx306_5
            replace hx306_6 := Gv.bx HB.out hx306_6
            replace hx306_7 := Gv.bx HB.out hx306_7
            replace hx306_8 := Gv.bx HB.out hx306_8
            replace hx306_9 := Gv.bx HB.out hx306_9
            replace hx306_10 := Gv.bx HB.out hx306_10
            replace hx306_11 := Gv.bx HB.out hx306_11
            replace hx306_12 := Gv.bx HB.out hx306_12
            replace hx306_13 := Gv.bx HB.out hx306_13
            replace hx306_14 := Gv.bx HB.out hx306_14
            replace hx306_15 := Gv.bx HB.out hx306_15
            replace p306 := eq_true p306
            replace q306 := eq_true q306
            go_wp2_with (first | ((with_reducible refine gate_dst (N := 5) rfl ?_); refine box_event ?hg (N := 5) ?hd (cs := #[.bool false, .int .i64 0, .int .i64 0, .int .i64 0, .int .i64 0, .int .i64 0, .int .i64 0, .int .i64 0, .int .i64 0, .int .i64 0, .int .i64 0, .int .i64 0, .int .i64 0, .int .i64 0, .int .i64 0, .int .i64 0]) (t := 75) ?hr ?_; (case hd => rfl); (case hg => rfl); (case hr => first | (go_simp; done) | (go_simp; rfl)); intro gb307 hg w79 hbox hb; have n0_ := Gv.a0 (Gv.bb BK304.out hb); have n1_ := Gv.a0 (below_step Gv.bw hb); have n2_ := Gv.a0 (hbox); have n3_ := Gv.a0 ((Gv.ble hg Gv.bw : w.heap.size ≤ gb307)); have n4_ := Gv.a0 ((Gv.ble hg Gv.bw : w.heap.size ≤ gb307)); have n5_ := Gv.a0 ((Gv.nlt hg (Gv.kb BK304.out) : gb304 ≠ gb307)); have n6_ := Gv.a0 ((Gv.ngt hg (Gv.kb BK304.out) : gb307 ≠ gb304)); clear BK304; clear HB; have BK304 := n0_; have HB := n1_; have BK307 := n2_; have GW307 := n3_; have GE307 := n4_; have NB304_307 := n5_; have NB307_304 := n6_; clear n0_ n1_ n2_ n3_ n4_ n5_ n6_; clear hb hbox hg; have hnb80 := NB307_304.out; have hnc80 := NB304_307.out; obtain ⟨hcz81_0, hcz81_1, hcz81_2, hcz81_3, hcz81_4, hcz81_5, hcz81_6, hcz81_7, hcz81_8, hcz81_9, hcz81_10, hcz81_11, hcz81_12, hcz81_13, hcz81_14, hcz81_15⟩ := Gv.c16 BK307.out) | ((with_reducible refine gate_store (t := 75) (p := 5) rfl ?_); refine Gv.store_event rfl rfl rfl rfl rfl (Gv.kb BK307.out) (by kernel_rfl) rfl (by simp; and_intros <;> rfl) ?_; intro w79s hbox hoth hbel; have n0_ := Gv.a0 (hbox); have n1_ := Gv.a0 (hbel w Gv.bw GE307.out); have n2_ := Gv.a0 ((hoth gb304 NB304_307.out).trans (Gv.kb BK304.out)); clear BK307 HB BK304; have BK307 := n0_; have HB := n1_; have BK304 := n2_; clear n0_ n1_ n2_ hbox hoth hbel; (try clear hcz81_0 hcz81_1 hcz81_2 hcz81_3 hcz81_4 hcz81_5 hcz81_6 hcz81_7 hcz81_8 hcz81_9 hcz81_10 hcz81_11 hcz81_12 hcz81_13 hcz81_14 hcz81_15 hfz81_0 hfz81_1 hfz81_2 hfz81_3 hfz81_4 hfz81_5 hfz81_6 hfz81_7 hfz81_8 hfz81_9 hfz81_10 hfz81_11 hfz81_12 hfz81_13 hfz81_14 hfz81_15); obtain ⟨hcz81_0, hcz81_1, hcz81_2, hcz81_3, hcz81_4, hcz81_5, hcz81_6, hcz81_7, hcz81_8, hcz81_9, hcz81_10, hcz81_11, hcz81_12, hcz81_13, hcz81_14, hcz81_15⟩ := Gv.c16 BK307.out) | ((with_reducible refine Gv.gate_load (t := 75) rfl ?_); (try (refine gate_guard (by rfl) ?_; dsimp only)); refine wpList_load_row rfl 75 _ rfl gb307 rfl 75 _ _ _ (by first | exact Gv.kb0 BK307.out | exact Gv.kb1 (Gv.kb0 BK307.out)) Try.underlying75 rfl (by kernel_rfl) ?_) | ((with_reducible refine Gv.gate_load (t := 75) rfl ?_); refine Gv.load_event (cs := [_, _, _, _, _, _, _, _, _, _, _, _, _, _, _, _]) rfl rfl rfl ⟨hx306_0, hx306_1, hx306_2, hx306_3, hx306_4, hx306_5, hx306_6, hx306_7, hx306_8, hx306_9, hx306_10, hx306_11, hx306_12, hx306_13, hx306_14, hx306_15, trivial⟩ Try.underlying75 rfl (by kernel_rfl) ?_))
            go_roundg k2
            case measure => have := HJ1.out; have := HK2.out; omega
            case rel => exact ⟨(wrap64 (x4_2 + 1)), Gv.rq, H', ⟨by have := HJ1.out; have := HK2.out; omega⟩, ⟨by (with_reducible repeat (first | refine blk_drewN ?_ _ | refine blk_drew ?_ | refine blk_alloc ?_ _)); (repeat (refine blk_far ?_ NB304_307.out _; (with_reducible repeat (first | refine blk_drewN ?_ _ | refine blk_drew ?_ | refine blk_alloc ?_ _)))); (with_reducible repeat (first | refine blk_drewN ?_ _ | refine blk_drew ?_ | refine blk_alloc ?_ _)); exact BK304.out⟩, ⟨Gv.bw⟩⟩
         ·rw [if_neg c27] at H
          exact absurd H (by simp)
        ·rw [if_neg c26] at H
         exact absurd H (by simp)
       ·rw [if_neg c25] at H
        have c25b0 : decide (x4_2 < (l0_1.length : Int)) = false := decide_eq_false c25
        clear c25
        obtain rfl := Option.some.inj H
        go_wp2_with (first | ((with_reducible refine Gv.gate_load (t := 75) rfl ?_); (try (refine gate_guard (by rfl) ?_; dsimp only)); refine wpList_load_row rfl 75 _ rfl gb307 rfl 75 _ _ _ (by first | exact Gv.kb0 BK307.out | exact Gv.kb1 (Gv.kb0 BK307.out)) Try.underlying75 rfl (by kernel_rfl) ?_))
        go_ret
        exact ⟨Gv.rt, Gv.bw⟩

/-! ### spec_TableKeys: function 33 -/
def spec_TableKeys.l0 : Nat → List (S33) → Int → Int → List (S75) → Option ((List (S33)))
 | 0, _, _, _, _ => none
 | k + 1, x3, x4, x313000, x313001 => if x4 < (x313001.length : Int) then (if 0 ≤ x4 then (if (rd_T75 x313001 x4).f0 = true then (if x3.length < 1256584717458 then (spec_TableKeys.l0 k (x3 ++ [(⟨(rd_T75 x313001 x4).f1.f0, (⟨(⟨(rd_T75 x313001 x4).f1.f1.f0.f0, (rd_T75 x313001 x4).f1.f1.f0.f1, (rd_T75 x313001 x4).f1.f1.f0.f2, (rd_T75 x313001 x4).f1.f1.f0.f3, (rd_T75 x313001 x4).f1.f1.f0.f4⟩ : S29), (⟨(rd_T75 x313001 x4).f1.f1.f1.f0, (rd_T75 x313001 x4).f1.f1.f1.f1, (rd_T75 x313001 x4).f1.f1.f1.f2, (rd_T75 x313001 x4).f1.f1.f1.f3, (rd_T75 x313001 x4).f1.f1.f1.f4⟩ : S29), (rd_T75 x313001 x4).f1.f1.f2, (rd_T75 x313001 x4).f1.f1.f3, (rd_T75 x313001 x4).f1.f1.f4⟩ : S31)⟩ : S33)]) (wrap64 (x4 + 1)) x313000 x313001) else (none)) else (spec_TableKeys.l0 k x3 (wrap64 (x4 + 1)) x313000 x313001)) else (none)) else (some x3)
def spec_TableKeys.f (k : Nat) (a0_0 : Int) (l0_1 : List (S75)) : Option ((List (S33))) := (some (([] : List (S33)) : List (S33))).bind fun y313 => ((spec_TableOk.f k a0_0 l0_1).bind fun t316 => (if t316 = true then (spec_TableKeys.l0 k y313 0 a0_0 l0_1) else (some y313)))
theorem spec_TableKeys.mono_l : ∀ k, (∀ y0 y1 y2 y3, LeO (spec_TableKeys.l0 k y0 y1 y2 y3) (spec_TableKeys.l0 (k + 1) y0 y1 y2 y3))
 | 0 => fun _ _ _ _ r h => by simp [spec_TableKeys.l0] at h
 | k + 1 => by
  have ih0 := spec_TableKeys.mono_l k
  ·intro y0 y1 y2 y3
   unfold spec_TableKeys.l0
   repeat' first
   | (with_reducible exact ih0 _ _ _ _)
   | (with_reducible exact spec_TableOk.mono _ _ _)
   | (with_reducible exact LeO.refl _)
   | (with_reducible exact LeO.none _)
   | (with_reducible refine LeO.ite ?_ ?_)
   | (with_reducible refine LeO.bind ?_ (fun _ => ?_))
   | exact ih0 _ _ _ _
   | exact spec_TableOk.mono _ _ _
   | exact LeO.none _
   | refine LeO.ite ?_ ?_
   | refine LeO.bind ?_ (fun _ => ?_)
theorem spec_TableKeys.mono : ∀ a0 a1 k, LeO (spec_TableKeys.f k a0 a1) (spec_TableKeys.f (k + 1) a0 a1) := by
 intro a0 a1 k
 have ih0 := spec_TableKeys.mono_l k
 unfold spec_TableKeys.f
 repeat' first
   | (with_reducible exact ih0 _ _ _ _)
   | (with_reducible exact spec_TableOk.mono _ _ _)
   | (with_reducible exact LeO.refl _)
   | (with_reducible exact LeO.none _)
   | (with_reducible refine LeO.ite ?_ ?_)
   | (with_reducible refine LeO.bind ?_ (fun _ => ?_))
   | exact ih0 _ _ _ _
   | exact spec_TableOk.mono _ _ _
   | exact LeO.none _
   | refine LeO.ite ?_ ?_
   | refine LeO.bind ?_ (fun _ => ?_)
set_option maxHeartbeats 8000000 in
set_option maxRecDepth 100000 in
theorem spec_TableKeys.calls (k : Nat) (a0_0 : Int) (A0_1 : Option Addr) (c0_1 : Nat) (l0_1 : List (S75)) (r : List (S33)) (w : World) (hr0_1 : Kd.C k75 w A0_1 l0_1.length l0_1) (hc0_1 : l0_1.length ≤ c0_1) (h : spec_TableKeys.f k a0_0 l0_1 = some r) :
  Calls Try.prog 33 #[.agg #[.int .i64 a0_0, .slice A0_1 l0_1.length c0_1]] w fun e w' => ∃ v0_ : Value, e = .returned (v0_) ∧ Kd.R k33 33 w' w.heap.size (fun _ => True) v0_ r ∧ Below w.heap.size w w' := by
 have hu40 := Try.underlying40
 have hu33 := Try.underlying33
 have HR0_1 := Gv.a0 hr0_1
 have HC0_1 := Gv.a0 hc0_1
 clear hr0_1 hc0_1
 have HB := Gv.a0 (Below.refl w.heap.size w)
 have H : ((some (([] : List (S33)) : List (S33))).bind fun y313 => ((spec_TableOk.f k a0_0 l0_1).bind fun t316 => (if t316 = true then (spec_TableKeys.l0 k y313 0 a0_0 l0_1) else (some y313)))) = some r := h
 clear h
 obtain ⟨y313, hy313⟩ : ∃ y_ : List (S33), y_ = (([] : List (S33))) := ⟨_, rfl⟩
 replace H : ((spec_TableOk.f k a0_0 l0_1).bind fun t316 => (if t316 = true then (spec_TableKeys.l0 k y313 0 a0_0 l0_1) else (some y313))) = some r := by first | (rw [hy313]; with_reducible exact H) | (have H2_ := (Option.bind_some _ _).symm.trans H; rw [hy313]; with_reducible exact H2_) | (have H2_ := (Option.bind_some _ _).symm.trans H; with_reducible exact H2_) | with_reducible exact H | (rw [hy313]; exact H) | exact H
 have Ny313 := Gv.a0 hy313
 clear hy313
 replace H := Option.bind_eq_some_iff.mp H
 obtain ⟨t316, A20, H⟩ := H
 replace H : (if t316 = true then (spec_TableKeys.l0 k y313 0 a0_0 l0_1) else (some y313)) = some r := H
 have A2 := Gv.a0 A20
 clear A20
 by_cases c3 : t316 = true
 ·subst c3
  have H1 : (spec_TableKeys.l0 k y313 0 a0_0 l0_1) = some r := by rw [if_pos rfl] at H; exact H
  clear H
  have H := H1
  clear H1
  have H' := Gv.a0 H
  clear H
  go_enter Try.func33, Try.ntmps33
  go_wp2_with (first | ((with_reducible refine gate_dst (N := 1) rfl ?_); refine box_event ?hg (N := 1) ?hd (cs := #[.int .i64 a0_0, .slice A0_1 l0_1.length c0_1]) (t := 40) ?hr ?_; (case hd => rfl); (case hg => rfl); (case hr => first | (go_simp; done) | (go_simp; rfl)); intro gb312 hg w4 hbox hb; have n0_ := Gv.a0 (below_step Gv.bw hb); have n1_ := Gv.a0 (hbox); have n2_ := Gv.a0 ((Gv.ble hg Gv.bw : w.heap.size ≤ gb312)); have n3_ := Gv.a0 ((Gv.ble hg Gv.bw : w.heap.size ≤ gb312)); clear HB; have HB := n0_; have BK312 := n1_; have GW312 := n2_; have GE312 := n3_; clear n0_ n1_ n2_ n3_; clear hb hbox hg) | ((with_reducible refine gate_dst (N := 5) rfl ?_); refine Kd.R_lit k33 _ 33 ?hg (N := 5) ?hd (xs := ([] : List (S33))) (inner := []) (ok := fun _ => True) (okp := fun _ => True) ?hr ?hp (fun _ hk => hk) trivial (Below.refl _ _) (Nat.le_refl _) (by simp) ?_; (case hd => rfl); (case hg => rfl); (case hr => first | (go_simp; done) | (go_simp; rfl)); (case hp => exact (Reps.none _ _)); intro v314 w5 ho6 hb hg_ hnew_; clear hg_ hnew_; (first | rw [← Ny313.out] at ho6 | (simp only [Int.reduceToNat] at ho6; rw [← Ny313.out] at ho6)); have n0_ := Gv.a0 (Kd.R_lower ho6 (below_size Gv.bw)); have n1_ := Gv.a0 (Gv.bb BK312.out hb); have n2_ := Gv.a0 (below_step Gv.bw hb); clear BK312; clear HB; have HO315 := n0_; have BK312 := n1_; have HB := n2_; clear n0_ n1_ n2_; clear hb ho6; have hcz7_0 : w5.cell? ⟨gb312, 0, none⟩ = some (.int .i64 a0_0) := (blk_cell BK312.out 0).trans rfl; have hcz7_1 : w5.cell? ⟨gb312, 1, none⟩ = some (.slice A0_1 l0_1.length c0_1) := (blk_cell BK312.out 1).trans rfl; have hfz7_0 := blk_frozen BK312.out 0; have hfz7_1 := blk_frozen BK312.out 1) | ((with_reducible refine gate_callee (f := 24) rfl ?_); refine goesL_ (some 7) rfl rfl Try.func24 (by kernel_rfl) rfl #[.agg #[.int .i64 a0_0, .slice A0_1 l0_1.length c0_1]] rfl Gv.lm ?_; (with_reducible refine (spec_TableOk.calls k a0_0 _ _ l0_1 true _ ?side1 ?side2 A2.out).mono ?_); (case side1 => repeat (first | exact (Kd.C_below HR0_1.out HB.out) | (with_reducible refine Kd.C_alloc ?_ _) | (with_reducible refine Kd.C_drewN ?_ _) | (with_reducible refine Kd.C_drew ?_))); (case side2 => exact HC0_1.out); rintro e w8 ⟨rfl, hb⟩; refine ⟨_, rfl, ?_⟩; have n0_ := Gv.a0 (Kd.R_below (Gv.kr HO315.out) hb); have n1_ := Gv.a0 (Gv.bb BK312.out hb); have n2_ := Gv.a0 (below_step Gv.bw hb); clear HO315; clear BK312; clear HB; have HO315 := n0_; have BK312 := n1_; have HB := n2_; clear n0_ n1_ n2_; (try clear hb); (try clear hb2); (try clear hk); (try clear hi)))
  go_loopg [3, 4] k (fun kq v3 v4 w' => ∃ (x3_1 : List (S33)) (x4_1 : Int), v4 = .int .i64 x4_1 ∧ Aside0 (spec_TableKeys.l0 kq x3_1 x4_1 a0_0 l0_1 = some r) ∧ Aside0 (kq ≤ k) ∧ Aside0 (Kd.R k33 33 w' w.heap.size (fun _ => True) v3 x3_1) ∧ Aside0 (w'.heap[gb312]? = some (.cells #[.int .i64 a0_0, (.slice A0_1 l0_1.length c0_1)] 40 (0, 0))) ∧ Aside0 (Below w.heap.size w w'))
  case atStart => exact ⟨(y313), (0), Gv.rq, H', ⟨Nat.le_refl _⟩, ⟨Gv.kr HO315.out⟩, ⟨by (with_reducible repeat (first | refine blk_drewN ?_ _ | refine blk_drew ?_ | refine blk_alloc ?_ _)); exact BK312.out⟩, ⟨Gv.bw⟩⟩
  case round =>
   clear H'
   try clear c2
   try clear p2
   try clear c3
   try clear hcz7_0 hcz7_1
   try clear hfz7_0 hfz7_1
   obtain ⟨x3_1, x4_1, rfl, HA, HK1, HO_3, BK312, HB⟩ := hrel
   cases gk with
   | zero => exact absurd HA.out (by simp [spec_TableKeys.l0])
   | succ k1 =>
    have H := HA.out
    clear HA
    simp only [spec_TableKeys.l0] at H
    by_cases c9 : x4_1 < (l0_1.length : Int)
    ·rw [if_pos c9] at H
     have c9b0 : decide (x4_1 < (l0_1.length : Int)) = true := decide_eq_true c9
     clear c9
     by_cases c10 : 0 ≤ x4_1
     ·rw [if_pos c10] at H
      have c10b0 : decide (0 ≤ x4_1) = true := decide_eq_true c10
      clear c10
      obtain ⟨bq11, hbq11⟩ : ∃ b_ : Bool, b_ = ((rd_T75 l0_1 x4_1).f0) := ⟨_, rfl⟩
      replace H : (if bq11 = true then (if x3_1.length < 1256584717458 then (spec_TableKeys.l0 k1 (x3_1 ++ [(⟨(rd_T75 l0_1 x4_1).f1.f0, (⟨(⟨(rd_T75 l0_1 x4_1).f1.f1.f0.f0, (rd_T75 l0_1 x4_1).f1.f1.f0.f1, (rd_T75 l0_1 x4_1).f1.f1.f0.f2, (rd_T75 l0_1 x4_1).f1.f1.f0.f3, (rd_T75 l0_1 x4_1).f1.f1.f0.f4⟩ : S29), (⟨(rd_T75 l0_1 x4_1).f1.f1.f1.f0, (rd_T75 l0_1 x4_1).f1.f1.f1.f1, (rd_T75 l0_1 x4_1).f1.f1.f1.f2, (rd_T75 l0_1 x4_1).f1.f1.f1.f3, (rd_T75 l0_1 x4_1).f1.f1.f1.f4⟩ : S29), (rd_T75 l0_1 x4_1).f1.f1.f2, (rd_T75 l0_1 x4_1).f1.f1.f3, (rd_T75 l0_1 x4_1).f1.f1.f4⟩ : S31)⟩ : S33)]) (wrap64 (x4_1 + 1)) a0_0 l0_1) else (none)) else (spec_TableKeys.l0 k1 x3_1 (wrap64 (x4_1 + 1)) a0_0 l0_1)) = some r := by rw [← hbq11] at H; exact H
      have Nbq11 := Gv.a0 hbq11
      clear hbq11
      by_cases c12 : bq11 = true
      ·subst c12
       have H1 : (if x3_1.length < 1256584717458 then (spec_TableKeys.l0 k1 (x3_1 ++ [(⟨(rd_T75 l0_1 x4_1).f1.f0, (⟨(⟨(rd_T75 l0_1 x4_1).f1.f1.f0.f0, (rd_T75 l0_1 x4_1).f1.f1.f0.f1, (rd_T75 l0_1 x4_1).f1.f1.f0.f2, (rd_T75 l0_1 x4_1).f1.f1.f0.f3, (rd_T75 l0_1 x4_1).f1.f1.f0.f4⟩ : S29), (⟨(rd_T75 l0_1 x4_1).f1.f1.f1.f0, (rd_T75 l0_1 x4_1).f1.f1.f1.f1, (rd_T75 l0_1 x4_1).f1.f1.f1.f2, (rd_T75 l0_1 x4_1).f1.f1.f1.f3, (rd_T75 l0_1 x4_1).f1.f1.f1.f4⟩ : S29), (rd_T75 l0_1 x4_1).f1.f1.f2, (rd_T75 l0_1 x4_1).f1.f1.f3, (rd_T75 l0_1 x4_1).f1.f1.f4⟩ : S31)⟩ : S33)]) (wrap64 (x4_1 + 1)) a0_0 l0_1) else (none)) = some r := by rw [if_pos rfl] at H; exact H
       clear H
       have H := H1
       clear H1
       by_cases c13 : x3_1.length < 1256584717458
       ·rw [if_pos c13] at H
        have LMc13 := Gv.a0 c13
        clear c13
        obtain ⟨y319, hy319⟩ : ∃ y_ : List (S33), y_ = (x3_1 ++ [(⟨(rd_T75 l0_1 x4_1).f1.f0, (⟨(⟨(rd_T75 l0_1 x4_1).f1.f1.f0.f0, (rd_T75 l0_1 x4_1).f1.f1.f0.f1, (rd_T75 l0_1 x4_1).f1.f1.f0.f2, (rd_T75 l0_1 x4_1).f1.f1.f0.f3, (rd_T75 l0_1 x4_1).f1.f1.f0.f4⟩ : S29), (⟨(rd_T75 l0_1 x4_1).f1.f1.f1.f0, (rd_T75 l0_1 x4_1).f1.f1.f1.f1, (rd_T75 l0_1 x4_1).f1.f1.f1.f2, (rd_T75 l0_1 x4_1).f1.f1.f1.f3, (rd_T75 l0_1 x4_1).f1.f1.f1.f4⟩ : S29), (rd_T75 l0_1 x4_1).f1.f1.f2, (rd_T75 l0_1 x4_1).f1.f1.f3, (rd_T75 l0_1 x4_1).f1.f1.f4⟩ : S31)⟩ : S33)]) := ⟨_, rfl⟩
        replace H : (spec_TableKeys.l0 k1 y319 (wrap64 (x4_1 + 1)) a0_0 l0_1) = some r := by first | (rw [hy319]; with_reducible exact H) | (have H2_ := (Option.bind_some _ _).symm.trans H; rw [hy319]; with_reducible exact H2_) | (have H2_ := (Option.bind_some _ _).symm.trans H; with_reducible exact H2_) | with_reducible exact H | (rw [hy319]; exact H) | exact H
        have Ny319 := Gv.a0 hy319
        clear hy319
        have H' := Gv.a0 H
        clear H
        have hcz14_0 : wr.cell? ⟨gb312, 0, none⟩ = some (.int .i64 a0_0) := (blk_cell BK312.out 0).trans rfl
        have hcz14_1 : wr.cell? ⟨gb312, 1, none⟩ = some (.slice A0_1 l0_1.length c0_1) := (blk_cell BK312.out 1).trans rfl
        have hfz14_0 := blk_frozen BK312.out 0
        have hfz14_1 := blk_frozen BK312.out 1
        have p317 : 0 ≤ (x4_1 : Int) := of_decide_eq_true (by first | (with_reducible assumption) | assumption)
        have q317 : x4_1 < (l0_1.length : Int) := of_decide_eq_true (by first | (with_reducible assumption) | assumption)
        obtain ⟨ad317, e317, hx317_0, _, _, _, _, _, _, _, _, _, _, _, _, _, _, _⟩ := at_T75 HR0_1.out x4_1 p317 q317
        (try rw [← Nbq11.out] at hx317_0)
        cases e317
        replace hx317_0 := Gv.bx HB.out hx317_0
        replace p317 := eq_true p317
        replace q317 := eq_true q317
        have p318 : 0 ≤ (x4_1 : Int) := of_decide_eq_true (by first | (with_reducible assumption) | assumption)
        have q318 : x4_1 < (l0_1.length : Int) := of_decide_eq_true (by first | (with_reducible assumption) | assumption)
        obtain ⟨ad318, e318, hx318_0, hx318_1, hx318_2, hx318_3, hx318_4, hx318_5, hx318_6, hx318_7, hx318_8, hx318_9, hx318_10, hx318_11, hx318_12, hx318_13, hx318_14, _⟩ := at_T75 HR0_1.out x4_1 p318 q318
        (try rw [← Nbq11.out] at hx318_0)
        obtain rfl : ad317 = ad318 := (by injection e318)
        replace hx318_0 := Gv.bx HB.out hx318_0
        replace hx318_1 := Gv.bx HB.out hx318_1
        replace hx318_2 := Gv.bx HB.out hx318_2
        replace hx318_3 := Gv.bx HB.out hx318_3
        replace hx318_4 := Gv.bx HB.out hx318_4
        replace hx318_5 := Gv.bx HB.out hx318_5
        replace hx318_6 := Gv.bx HB.out hx318_6
        replace hx318_7 := Gv.bx HB.out hx318_7
        replace hx318_8 := Gv.bx HB.out hx318_8
        replace hx318_9 := Gv.bx HB.out hx318_9
        replace hx318_10 := Gv.bx HB.out hx318_10
        replace hx318_11 := Gv.bx HB.out hx318_11
        replace hx318_12 := Gv.bx HB.out hx318_12
        replace hx318_13 := Gv.bx HB.out hx318_13
        replace hx318_14 := Gv.bx HB.out hx318_14
        replace p318 := eq_true p318
        replace q318 := eq_true q318
        go_wp2_with (first | ((with_reducible refine gate_builtin (b := .append) (xs := #[.tmp 23, .tmp 30]) rfl ?_); at_builtin; refine Kd.R_append k33 (w0 := w) w.heap.size rfl (.tmp 23) (.tmp 30) 58 33 (.agg #[(.int .i64 0), (.int .i64 0), (.int .i64 0), (.int .i64 0), (.int .i64 0), (.int .i64 0), (.int .i64 0), (.int .i64 0), (.int .i64 0), (.int .i64 0), (.int .i64 0), (.int .i64 0), (.int .i64 0), (.int .i64 0)]) 112 rfl Try.underlying58 info33 rfl (by decide) (by omega) u3 x3_1 (⟨(rd_T75 l0_1 x4_1).f1.f0, (⟨(⟨(rd_T75 l0_1 x4_1).f1.f1.f0.f0, (rd_T75 l0_1 x4_1).f1.f1.f0.f1, (rd_T75 l0_1 x4_1).f1.f1.f0.f2, (rd_T75 l0_1 x4_1).f1.f1.f0.f3, (rd_T75 l0_1 x4_1).f1.f1.f0.f4⟩ : S29), (⟨(rd_T75 l0_1 x4_1).f1.f1.f1.f0, (rd_T75 l0_1 x4_1).f1.f1.f1.f1, (rd_T75 l0_1 x4_1).f1.f1.f1.f2, (rd_T75 l0_1 x4_1).f1.f1.f1.f3, (rd_T75 l0_1 x4_1).f1.f1.f1.f4⟩ : S29), (rd_T75 l0_1 x4_1).f1.f1.f2, (rd_T75 l0_1 x4_1).f1.f1.f3, (rd_T75 l0_1 x4_1).f1.f1.f4⟩ : S31)⟩ : S33) [.int .i64 ((rd_T75 l0_1 x4_1).f1.f0), .int .i64 ((rd_T75 l0_1 x4_1).f1.f1.f0.f0), .int .i64 ((rd_T75 l0_1 x4_1).f1.f1.f0.f1), .int .i64 ((rd_T75 l0_1 x4_1).f1.f1.f0.f2), .int .i64 ((rd_T75 l0_1 x4_1).f1.f1.f0.f3), .int .i64 ((rd_T75 l0_1 x4_1).f1.f1.f0.f4), .int .i64 ((rd_T75 l0_1 x4_1).f1.f1.f1.f0), .int .i64 ((rd_T75 l0_1 x4_1).f1.f1.f1.f1), .int .i64 ((rd_T75 l0_1 x4_1).f1.f1.f1.f2), .int .i64 ((rd_T75 l0_1 x4_1).f1.f1.f1.f3), .int .i64 ((rd_T75 l0_1 x4_1).f1.f1.f1.f4), .int .i64 ((rd_T75 l0_1 x4_1).f1.f1.f2), .int .i64 ((rd_T75 l0_1 x4_1).f1.f1.f3), .int .i64 ((rd_T75 l0_1 x4_1).f1.f1.f4)] (fun _ => True) (fun _ => False) rfl rfl ?aP (fun _ hk => hk.elim) ?aF ?aO ?aB ?aS ?aL ?_; (case aP => exact k33_mkM _ _ _ (⟨(rd_T75 l0_1 x4_1).f1.f0, (⟨(⟨(rd_T75 l0_1 x4_1).f1.f1.f0.f0, (rd_T75 l0_1 x4_1).f1.f1.f0.f1, (rd_T75 l0_1 x4_1).f1.f1.f0.f2, (rd_T75 l0_1 x4_1).f1.f1.f0.f3, (rd_T75 l0_1 x4_1).f1.f1.f0.f4⟩ : S29), (⟨(rd_T75 l0_1 x4_1).f1.f1.f1.f0, (rd_T75 l0_1 x4_1).f1.f1.f1.f1, (rd_T75 l0_1 x4_1).f1.f1.f1.f2, (rd_T75 l0_1 x4_1).f1.f1.f1.f3, (rd_T75 l0_1 x4_1).f1.f1.f1.f4⟩ : S29), (rd_T75 l0_1 x4_1).f1.f1.f2, (rd_T75 l0_1 x4_1).f1.f1.f3, (rd_T75 l0_1 x4_1).f1.f1.f4⟩ : S31)⟩ : S33)); (case aB => exact Gv.bw); (case aF => exact (fun _ _ => trivial)); (case aO => exact (Gv.kr HO_3.out)); (case aS => exact (below_size Gv.bw)); (case aL => have := LMc13.out; omega); intro v320 w15 ho hb hg hat; rw [← Ny319.out] at ho; have n0_ := Gv.a0 (blk_grown (g := gb312) (o := .cells #[.int .i64 a0_0, .slice (some ad317) l0_1.length c0_1] 40 (0, 0)) Gv.bk hg (Kd.R_ne HO_3.out BK312.out (by decide))); have n1_ := Gv.a0 (hb); have n2_ := Gv.a0 (ho); clear BK312; clear HB; clear HO_3; have BK312 := n0_; have HB := n1_; have HO321 := n2_; clear n0_ n1_ n2_; clear ho hb hg hat))
        go_roundg k1
        case measure => have := HK1.out; omega
        case rel => exact ⟨(y319), (wrap64 (x4_1 + 1)), Gv.rq, H', ⟨by have := HK1.out; omega⟩, ⟨Gv.kr HO321.out⟩, ⟨by (with_reducible repeat (first | refine blk_drewN ?_ _ | refine blk_drew ?_ | refine blk_alloc ?_ _)); exact BK312.out⟩, ⟨Gv.bw⟩⟩
       ·rw [if_neg c13] at H
        exact absurd H (by simp)
      ·replace c12 := Bool.eq_false_iff.mpr c12
       subst c12
       have H1 : (spec_TableKeys.l0 k1 x3_1 (wrap64 (x4_1 + 1)) a0_0 l0_1) = some r := by rw [if_neg (show ¬ (false = true) by decide)] at H; exact H
       clear H
       have H := H1
       clear H1
       have H' := Gv.a0 H
       clear H
       have hcz16_0 : wr.cell? ⟨gb312, 0, none⟩ = some (.int .i64 a0_0) := (blk_cell BK312.out 0).trans rfl
       have hcz16_1 : wr.cell? ⟨gb312, 1, none⟩ = some (.slice A0_1 l0_1.length c0_1) := (blk_cell BK312.out 1).trans rfl
       have hfz16_0 := blk_frozen BK312.out 0
       have hfz16_1 := blk_frozen BK312.out 1
       have p317 : 0 ≤ (x4_1 : Int) := of_decide_eq_true (by first | (with_reducible assumption) | assumption)
       have q317 : x4_1 < (l0_1.length : Int) := of_decide_eq_true (by first | (with_reducible assumption) | assumption)
       obtain ⟨ad317, e317, hx317_0, _, _, _, _, _, _, _, _, _, _, _, _, _, _, _⟩ := at_T75 HR0_1.out x4_1 p317 q317
       (try rw [← Nbq11.out] at hx317_0)
       cases e317
       replace hx317_0 := Gv.bx HB.out hx317_0
       replace p317 := eq_true p317
       replace q317 := eq_true q317
       go_wp2
       go_roundg k1
       case measure => have := HK1.out; omega
       case rel => exact ⟨(x3_1), (wrap64 (x4_1 + 1)), Gv.rq, H', ⟨by have := HK1.out; omega⟩, ⟨Gv.kr HO_3.out⟩, ⟨by (with_reducible repeat (first | refine blk_drewN ?_ _ | refine blk_drew ?_ | refine blk_alloc ?_ _)); exact BK312.out⟩, ⟨Gv.bw⟩⟩
     ·rw [if_neg c10] at H
      exact absurd H (by simp)
    ·rw [if_neg c9] at H
     have c9b0 : decide (x4_1 < (l0_1.length : Int)) = false := decide_eq_false c9
     clear c9
     obtain rfl := Option.some.inj H
     have hcz17_0 : wr.cell? ⟨gb312, 0, none⟩ = some (.int .i64 a0_0) := (blk_cell BK312.out 0).trans rfl
     have hcz17_1 : wr.cell? ⟨gb312, 1, none⟩ = some (.slice A0_1 l0_1.length c0_1) := (blk_cell BK312.out 1).trans rfl
     have hfz17_0 := blk_frozen BK312.out 0
     have hfz17_1 := blk_frozen BK312.out 1
     go_wp2
     go_ret
     exact ⟨_, Gv.rt, Gv.kr HO_3.out, Gv.bw⟩
 ·replace c3 := Bool.eq_false_iff.mpr c3
  subst c3
  have H1 : (some y313) = some r := by rw [if_neg (show ¬ (false = true) by decide)] at H; exact H
  clear H
  have H := H1
  clear H1
  obtain rfl := Option.some.inj H
  go_enter Try.func33, Try.ntmps33
  go_wp2_with (first | ((with_reducible refine gate_dst (N := 1) rfl ?_); refine box_event ?hg (N := 1) ?hd (cs := #[.int .i64 a0_0, .slice A0_1 l0_1.length c0_1]) (t := 40) ?hr ?_; (case hd => rfl); (case hg => rfl); (case hr => first | (go_simp; done) | (go_simp; rfl)); intro gb312 hg w18 hbox hb; have n0_ := Gv.a0 (below_step Gv.bw hb); have n1_ := Gv.a0 (hbox); have n2_ := Gv.a0 ((Gv.ble hg Gv.bw : w.heap.size ≤ gb312)); have n3_ := Gv.a0 ((Gv.ble hg Gv.bw : w.heap.size ≤ gb312)); clear HB; have HB := n0_; have BK312 := n1_; have GW312 := n2_; have GE312 := n3_; clear n0_ n1_ n2_ n3_; clear hb hbox hg) | ((with_reducible refine gate_dst (N := 5) rfl ?_); refine Kd.R_lit k33 _ 33 ?hg (N := 5) ?hd (xs := ([] : List (S33))) (inner := []) (ok := fun _ => True) (okp := fun _ => True) ?hr ?hp (fun _ hk => hk) trivial (Below.refl _ _) (Nat.le_refl _) (by simp) ?_; (case hd => rfl); (case hg => rfl); (case hr => first | (go_simp; done) | (go_simp; rfl)); (case hp => exact (Reps.none _ _)); intro v314 w19 ho20 hb hg_ hnew_; clear hg_ hnew_; (first | rw [← Ny313.out] at ho20 | (simp only [Int.reduceToNat] at ho20; rw [← Ny313.out] at ho20)); have n0_ := Gv.a0 (Kd.R_lower ho20 (below_size Gv.bw)); have n1_ := Gv.a0 (Gv.bb BK312.out hb); have n2_ := Gv.a0 (below_step Gv.bw hb); clear BK312; clear HB; have HO315 := n0_; have BK312 := n1_; have HB := n2_; clear n0_ n1_ n2_; clear hb ho20; have hcz21_0 : w19.cell? ⟨gb312, 0, none⟩ = some (.int .i64 a0_0) := (blk_cell BK312.out 0).trans rfl; have hcz21_1 : w19.cell? ⟨gb312, 1, none⟩ = some (.slice A0_1 l0_1.length c0_1) := (blk_cell BK312.out 1).trans rfl; have hfz21_0 := blk_frozen BK312.out 0; have hfz21_1 := blk_frozen BK312.out 1) | ((with_reducible refine gate_callee (f := 24) rfl ?_); refine goesL_ (some 7) rfl rfl Try.func24 (by kernel_rfl) rfl #[.agg #[.int .i64 a0_0, .slice A0_1 l0_1.length c0_1]] rfl Gv.lm ?_; (with_reducible refine (spec_TableOk.calls k a0_0 _ _ l0_1 false _ ?side1 ?side2 A2.out).mono ?_); (case side1 => repeat (first | exact (Kd.C_below HR0_1.out HB.out) | (with_reducible refine Kd.C_alloc ?_ _) | (with_reducible refine Kd.C_drewN ?_ _) | (with_reducible refine Kd.C_drew ?_))); (case side2 => exact HC0_1.out); rintro e w22 ⟨rfl, hb⟩; refine ⟨_, rfl, ?_⟩; have n0_ := Gv.a0 (Kd.R_below (Gv.kr HO315.out) hb); have n1_ := Gv.a0 (Gv.bb BK312.out hb); have n2_ := Gv.a0 (below_step Gv.bw hb); clear HO315; clear BK312; clear HB; have HO315 := n0_; have BK312 := n1_; have HB := n2_; clear n0_ n1_ n2_; (try clear hb); (try clear hb2); (try clear hk); (try clear hi)))
  go_ret
  exact ⟨_, Gv.rt, Gv.kr HO315.out, Gv.bw⟩

/-! ### impl_within: function 44 -/
def impl_within.f (a0 : Int) (a1 : Int) (a2 : Int) : Option (Bool) := if a0 ≥ a1 then (some (decide (a0 ≤ a2))) else (some false)
set_option maxHeartbeats 8000000 in
set_option maxRecDepth 100000 in
theorem impl_within.calls (a0 : Int) (a1 : Int) (a2 : Int) (r : Bool) (w : World) (h : impl_within.f a0 a1 a2 = some r) :
  Calls Try.prog 44 #[.int .i64 a0, .int .i64 a1, .int .i64 a2] w fun e w' => e = .returned (.bool r) ∧ Drawn0 w w' := by
 have H : (if a0 ≥ a1 then (some (decide (a0 ≤ a2))) else (some false)) = some r := h
 clear h
 by_cases c4 : a0 ≥ a1
 ·rw [if_pos c4] at H
  have c4b0 : decide (a1 ≤ a0) = true := decide_eq_true c4
  clear c4
  obtain rfl := Option.some.inj H
  go_enter Try.func44, Try.ntmps44
  go_wp2
  go_ret
  exact ⟨by first | rfl | (simp; done) | (simp [Int.tdiv_eq_ediv_of_nonneg]; done) | (simp [*]; done), by repeat (first | exact Drawn0.refl _ | apply Drawn0.step)⟩
 ·rw [if_neg c4] at H
  have c4b0 : decide (a1 ≤ a0) = false := decide_eq_false c4
  clear c4
  obtain rfl := Option.some.inj H
  go_enter Try.func44, Try.ntmps44
  go_wp2
  go_ret
  exact ⟨by first | rfl | (simp; done) | (simp [Int.tdiv_eq_ediv_of_nonneg]; done) | (simp [*]; done), by repeat (first | exact Drawn0.refl _ | apply Drawn0.step)⟩

/-! ### impl_isLong: function 90 -/
def impl_isLong.f (a0 : Int) : Option (Bool) := (impl_within.f a0 0 4294967295).bind fun t322 => (some t322)
set_option maxHeartbeats 8000000 in
set_option maxRecDepth 100000 in
theorem impl_isLong.calls (a0 : Int) (r : Bool) (w : World) (h : impl_isLong.f a0 = some r) :
  Calls Try.prog 90 #[.int .i64 a0] w fun e w' => e = .returned (.bool r) ∧ Drawn0 w w' := by
 have H : ((impl_within.f a0 0 4294967295).bind fun t322 => (some t322)) = some r := h
 clear h
 replace H := Option.bind_eq_some_iff.mp H
 obtain ⟨t322, A20, H⟩ := H
 replace H : (some t322) = some r := H
 have A2 := Gv.a0 A20
 clear A20
 obtain rfl := Option.some.inj H
 go_enter Try.func90, Try.ntmps90
 go_wp2_with (first | ((with_reducible refine gate_callee (f := 44) rfl ?_); refine goesL_ (some 4) rfl rfl Try.func44 (by kernel_rfl) rfl #[.int .i64 a0, .int .i64 0, .int .i64 4294967295] rfl Gv.lm ?_; (with_reducible refine (impl_within.calls a0 0 4294967295 t322 _ A2.out).mono ?_); rintro e w' ⟨rfl, ⟨nd, rfl⟩⟩; refine ⟨_, rfl, ?_⟩))
 go_ret
 exact ⟨by first | rfl | (simp; done) | (simp [Int.tdiv_eq_ediv_of_nonneg]; done) | (simp [*]; done), by repeat (first | exact Drawn0.refl _ | apply Drawn0.step)⟩

/-! ### impl_AddrOk: function 81 -/
def impl_AddrOk.f (a0_0 : Int) (a0_1 : Int) (a0_2 : Int) (a0_3 : Int) (a0_4 : Int) : Option (Bool) := if a0_0 = 4 then (if a0_1 = 0 then (if a0_2 = 0 then (if a0_3 = 0 then ((impl_isLong.f a0_4).bind fun t324 => (some t324)) else (some false)) else (some false)) else (some false)) else (if a0_0 = 6 then ((impl_isLong.f a0_1).bind fun t325 => (if t325 = true then ((impl_isLong.f a0_2).bind fun t326 => (if t326 = true then ((impl_isLong.f a0_3).bind fun t327 => (if t327 = true then ((impl_isLong.f a0_4).bind fun t328 => (some t328)) else (some false))) else (some false))) else (some false))) else (some false))
set_option maxHeartbeats 8000000 in
set_option maxRecDepth 100000 in
theorem impl_AddrOk.calls (a0_0 : Int) (a0_1 : Int) (a0_2 : Int) (a0_3 : Int) (a0_4 : Int) (r : Bool) (w : World) (h : impl_AddrOk.f a0_0 a0_1 a0_2 a0_3 a0_4 = some r) :
  Calls Try.prog 81 #[.agg #[.int .i64 a0_0, .int .i64 a0_1, .int .i64 a0_2, .int .i64 a0_3, .int .i64 a0_4]] w fun e w' => e = .returned (.bool r) ∧ Below w.heap.size w w' := by
 have hu29 := Try.underlying29
 have HB := Gv.a0 (Below.refl w.heap.size w)
 have H : (if a0_0 = 4 then (if a0_1 = 0 then (if a0_2 = 0 then (if a0_3 = 0 then ((impl_isLong.f a0_4).bind fun t324 => (some t324)) else (some false)) else (some false)) else (some false)) else (if a0_0 = 6 then ((impl_isLong.f a0_1).bind fun t325 => (if t325 = true then ((impl_isLong.f a0_2).bind fun t326 => (if t326 = true then ((impl_isLong.f a0_3).bind fun t327 => (if t327 = true then ((impl_isLong.f a0_4).bind fun t328 => (some t328)) else (some false))) else (some false))) else (some false))) else (some false))) = some r := h
 clear h
 by_cases c2 : a0_0 = 4
 ·rw [if_pos c2] at H
  have c2b0 : (a0_0 == 4) = true := beq_iff_eq.mpr c2
  have c2b1 : (a0_0 != 4) = false := bne_eq_false_iff_eq.mpr c2
  clear c2
  by_cases c3 : a0_1 = 0
  ·rw [if_pos c3] at H
   have c3b0 : (a0_1 == 0) = true := beq_iff_eq.mpr c3
   have c3b1 : (a0_1 != 0) = false := bne_eq_false_iff_eq.mpr c3
   clear c3
   by_cases c4 : a0_2 = 0
   ·rw [if_pos c4] at H
    have c4b0 : (a0_2 == 0) = true := beq_iff_eq.mpr c4
    have c4b1 : (a0_2 != 0) = false := bne_eq_false_iff_eq.mpr c4
    clear c4
    by_cases c5 : a0_3 = 0
    ·rw [if_pos c5] at H
     have c5b0 : (a0_3 == 0) = true := beq_iff_eq.mpr c5
     have c5b1 : (a0_3 != 0) = false := bne_eq_false_iff_eq.mpr c5
     clear c5
     replace H := Option.bind_eq_some_iff.mp H
     obtain ⟨t324, A60, H⟩ := H
     replace H : (some t324) = some r := H
     have A6 := Gv.a0 A60
     clear A60
     obtain rfl := Option.some.inj H
     go_enter Try.func81, Try.ntmps81
     go_wp2_with (first | ((with_reducible refine gate_dst (N := 1) rfl ?_); refine box_event ?hg (N := 1) ?hd (cs := #[.int .i64 a0_0, .int .i64 a0_1, .int .i64 a0_2, .int .i64 a0_3, .int .i64 a0_4]) (t := 29) ?hr ?_; (case hd => rfl); (case hg => rfl); (case hr => first | (go_simp; done) | (go_simp; rfl)); intro gb323 hg w7 hbox hb; have n0_ := Gv.a0 (below_step Gv.bw hb); have n1_ := Gv.a0 (hbox); have n2_ := Gv.a0 ((Gv.ble hg Gv.bw : w.heap.size ≤ gb323)); have n3_ := Gv.a0 ((Gv.ble hg Gv.bw : w.heap.size ≤ gb323)); clear HB; have HB := n0_; have BK323 := n1_; have GW323 := n2_; have GE323 := n3_; clear n0_ n1_ n2_ n3_; clear hb hbox hg; obtain ⟨hcz8_0, hcz8_1, hcz8_2, hcz8_3, hcz8_4⟩ := Gv.c5 BK323.out; obtain ⟨hfz8_0, hfz8_1, hfz8_2, hfz8_3, hfz8_4⟩ := Gv.f5 BK323.out) | (go_at_call 90; (with_reducible refine (impl_isLong.calls a0_4 t324 _ A6.out).mono ?_); rintro e w' ⟨rfl, ⟨nd, rfl⟩⟩))
     go_ret
     exact ⟨Gv.rt, Gv.bw⟩
    ·rw [if_neg c5] at H
     have c5b0 : (a0_3 == 0) = false := beq_eq_false_iff_ne.mpr c5
     have c5b1 : (a0_3 != 0) = true := bne_iff_ne.mpr c5
     obtain rfl := Option.some.inj H
     go_enter Try.func81, Try.ntmps81
     go_wp2_with (first | ((with_reducible refine gate_dst (N := 1) rfl ?_); refine box_event ?hg (N := 1) ?hd (cs := #[.int .i64 a0_0, .int .i64 a0_1, .int .i64 a0_2, .int .i64 a0_3, .int .i64 a0_4]) (t := 29) ?hr ?_; (case hd => rfl); (case hg => rfl); (case hr => first | (go_simp; done) | (go_simp; rfl)); intro gb323 hg w9 hbox hb; have n0_ := Gv.a0 (below_step Gv.bw hb); have n1_ := Gv.a0 (hbox); have n2_ := Gv.a0 ((Gv.ble hg Gv.bw : w.heap.size ≤ gb323)); have n3_ := Gv.a0 ((Gv.ble hg Gv.bw : w.heap.size ≤ gb323)); clear HB; have HB := n0_; have BK323 := n1_; have GW323 := n2_; have GE323 := n3_; clear n0_ n1_ n2_ n3_; clear hb hbox hg; obtain ⟨hcz10_0, hcz10_1, hcz10_2, hcz10_3, hcz10_4⟩ := Gv.c5 BK323.out; obtain ⟨hfz10_0, hfz10_1, hfz10_2, hfz10_3, hfz10_4⟩ := Gv.f5 BK323.out))
     go_ret
     exact ⟨Gv.rt, Gv.bw⟩
   ·rw [if_neg c4] at H
    have c4b0 : (a0_2 == 0) = false := beq_eq_false_iff_ne.mpr c4
    have c4b1 : (a0_2 != 0) = true := bne_iff_ne.mpr c4
    obtain rfl := Option.some.inj H
    go_enter Try.func81, Try.ntmps81
    go_wp2_with (first | ((with_reducible refine gate_dst (N := 1) rfl ?_); refine box_event ?hg (N := 1) ?hd (cs := #[.int .i64 a0_0, .int .i64 a0_1, .int .i64 a0_2, .int .i64 a0_3, .int .i64 a0_4]) (t := 29) ?hr ?_; (case hd => rfl); (case hg => rfl); (case hr => first | (go_simp; done) | (go_simp; rfl)); intro gb323 hg w11 hbox hb; have n0_ := Gv.a0 (below_step Gv.bw hb); have n1_ := Gv.a0 (hbox); have n2_ := Gv.a0 ((Gv.ble hg Gv.bw : w.heap.size ≤ gb323)); have n3_ := Gv.a0 ((Gv.ble hg Gv.bw : w.heap.size ≤ gb323)); clear HB; have HB := n0_; have BK323 := n1_; have GW323 := n2_; have GE323 := n3_; clear n0_ n1_ n2_ n3_; clear hb hbox hg; obtain ⟨hcz12_0, hcz12_1, hcz12_2, hcz12_3, hcz12_4⟩ := Gv.c5 BK323.out; obtain ⟨hfz12_0, hfz12_1, hfz12_2, hfz12_3, hfz12_4⟩ := Gv.f5 BK323.out))
    go_ret
    exact ⟨Gv.rt, Gv.bw⟩
  ·rw [if_neg c3] at H
   have c3b0 : (a0_1 == 0) = false := beq_eq_false_iff_ne.mpr c3
   have c3b1 : (a0_1 != 0) = true := bne_iff_ne.mpr c3
   obtain rfl := Option.some.inj H
   go_enter Try.func81, Try.ntmps81
   go_wp2_with (first | ((with_reducible refine gate_dst (N := 1) rfl ?_); refine box_event ?hg (N := 1) ?hd (cs := #[.int .i64 a0_0, .int .i64 a0_1, .int .i64 a0_2, .int .i64 a0_3, .int .i64 a0_4]) (t := 29) ?hr ?_; (case hd => rfl); (case hg => rfl); (case hr => first | (go_simp; done) | (go_simp; rfl)); intro gb323 hg w13 hbox hb; have n0_ := Gv.a0 (below_step Gv.bw hb); have n1_ := Gv.a0 (hbox); have n2_ := Gv.a0 ((Gv.ble hg Gv.bw : w.heap.size ≤ gb323)); have n3_ := Gv.a0 ((Gv.ble hg Gv.bw : w.heap.size ≤ gb323)); clear HB; have HB := n0_; have BK323 := n1_; have GW323 := n2_; have GE323 := n3_; clear n0_ n1_ n2_ n3_; clear hb hbox hg; obtain ⟨hcz14_0, hcz14_1, hcz14_2, hcz14_3, hcz14_4⟩ := Gv.c5 BK323.out; obtain ⟨hfz14_0, hfz14_1, hfz14_2, hfz14_3, hfz14_4⟩ := Gv.f5 BK323.out))
   go_ret
   exact ⟨Gv.rt, Gv.bw⟩
 ·rw [if_neg c2] at H
  have c2b0 : (a0_0 == 4) = false := beq_eq_false_iff_ne.mpr c2
  have c2b1 : (a0_0 != 4) = true := bne_iff_ne.mpr c2
  by_cases c15 : a0_0 = 6
  ·rw [if_pos c15] at H
   have c15b0 : (a0_0 == 6) = true := beq_iff_eq.mpr c15
   have c15b1 : (a0_0 != 6) = false := bne_eq_false_iff_eq.mpr c15
   clear c15
   replace H := Option.bind_eq_some_iff.mp H
   obtain ⟨t325, A160, H⟩ := H
   replace H : (if t325 = true then ((impl_isLong.f a0_2).bind fun t326 => (if t326 = true then ((impl_isLong.f a0_3).bind fun t327 => (if t327 = true then ((impl_isLong.f a0_4).bind fun t328 => (some t328)) else (some false))) else (some false))) else (some false)) = some r := H
   have A16 := Gv.a0 A160
   clear A160
   by_cases c17 : t325 = true
   ·subst c17
    have H1 : ((impl_isLong.f a0_2).bind fun t326 => (if t326 = true then ((impl_isLong.f a0_3).bind fun t327 => (if t327 = true then ((impl_isLong.f a0_4).bind fun t328 => (some t328)) else (some false))) else (some false))) = some r := by rw [if_pos rfl] at H; exact H
    clear H
    have H := H1
    clear H1
    replace H := Option.bind_eq_some_iff.mp H
    obtain ⟨t326, A180, H⟩ := H
    replace H : (if t326 = true then ((impl_isLong.f a0_3).bind fun t327 => (if t327 = true then ((impl_isLong.f a0_4).bind fun t328 => (some t328)) else (some false))) else (some false)) = some r := H
    have A18 := Gv.a0 A180
    clear A180
    by_cases c19 : t326 = true
    ·subst c19
     have H1 : ((impl_isLong.f a0_3).bind fun t327 => (if t327 = true then ((impl_isLong.f a0_4).bind fun t328 => (some t328)) else (some false))) = some r := by rw [if_pos rfl] at H; exact H
     clear H
     have H := H1
     clear H1
     replace H := Option.bind_eq_some_iff.mp H
     obtain ⟨t327, A200, H⟩ := H
     replace H : (if t327 = true then ((impl_isLong.f a0_4).bind fun t328 => (some t328)) else (some false)) = some r := H
     have A20 := Gv.a0 A200
     clear A200
     by_cases c21 : t327 = true
     ·subst c21
      have H1 : ((impl_isLong.f a0_4).bind fun t328 => (some t328)) = some r := by rw [if_pos rfl] at H; exact H
      clear H
      have H := H1
      clear H1
      replace H := Option.bind_eq_some_iff.mp H
      obtain ⟨t328, A220, H⟩ := H
      replace H : (some t328) = some r := H
      have A22 := Gv.a0 A220
      clear A220
      obtain rfl := Option.some.inj H
      go_enter Try.func81, Try.ntmps81
      go_wp2_with (first | ((with_reducible refine gate_dst (N := 1) rfl ?_); refine box_event ?hg (N := 1) ?hd (cs := #[.int .i64 a0_0, .int .i64 a0_1, .int .i64 a0_2, .int .i64 a0_3, .int .i64 a0_4]) (t := 29) ?hr ?_; (case hd => rfl); (case hg => rfl); (case hr => first | (go_simp; done) | (go_simp; rfl)); intro gb323 hg w23 hbox hb; have n0_ := Gv.a0 (below_step Gv.bw hb); have n1_ := Gv.a0 (hbox); have n2_ := Gv.a0 ((Gv.ble hg Gv.bw : w.heap.size ≤ gb323)); have n3_ := Gv.a0 ((Gv.ble hg Gv.bw : w.heap.size ≤ gb323)); clear HB; have HB := n0_; have BK323 := n1_; have GW323 := n2_; have GE323 := n3_; clear n0_ n1_ n2_ n3_; clear hb hbox hg; obtain ⟨hcz24_0, hcz24_1, hcz24_2, hcz24_3, hcz24_4⟩ := Gv.c5 BK323.out; obtain ⟨hfz24_0, hfz24_1, hfz24_2, hfz24_3, hfz24_4⟩ := Gv.f5 BK323.out) | ((with_reducible refine gate_callee (f := 90) rfl ?_); refine goesL_ (some 29) rfl rfl Try.func90 (by kernel_rfl) rfl #[.int .i64 a0_1] rfl Gv.lm ?_; (with_reducible refine (impl_isLong.calls a0_1 true _ A16.out).mono ?_); rintro e w' ⟨rfl, ⟨nd, rfl⟩⟩; refine ⟨_, rfl, ?_⟩) | (go_at_call 90; (with_reducible refine (impl_isLong.calls a0_2 true _ A18.out).mono ?_); rintro e w' ⟨rfl, ⟨nd, rfl⟩⟩) | (go_at_call 90; (with_reducible refine (impl_isLong.calls a0_3 true _ A20.out).mono ?_); rintro e w' ⟨rfl, ⟨nd, rfl⟩⟩) | (go_at_call 90; (with_reducible refine (impl_isLong.calls a0_4 t328 _ A22.out).mono ?_); rintro e w' ⟨rfl, ⟨nd, rfl⟩⟩))
      go_ret
      exact ⟨Gv.rt, Gv.bw⟩
     ·replace c21 := Bool.eq_false_iff.mpr c21
      subst c21
      have H1 : (some false) = some r := by rw [if_neg (show ¬ (false = true) by decide)] at H; exact H
      clear H
      have H := H1
      clear H1
      obtain rfl := Option.some.inj H
      go_enter Try.func81, Try.ntmps81
      go_wp2_with (first | ((with_reducible refine gate_dst (N := 1) rfl ?_); refine box_event ?hg (N := 1) ?hd (cs := #[.int .i64 a0_0, .int .i64 a0_1, .int .i64 a0_2, .int .i64 a0_3, .int .i64 a0_4]) (t := 29) ?hr ?_; (case hd => rfl); (case hg => rfl); (case hr => first | (go_simp; done) | (go_simp; rfl)); intro gb323 hg w25 hbox hb; have n0_ := Gv.a0 (below_step Gv.bw hb); have n1_ := Gv.a0 (hbox); have n2_ := Gv.a0 ((Gv.ble hg Gv.bw : w.heap.size ≤ gb323)); have n3_ := Gv.a0 ((Gv.ble hg Gv.bw : w.heap.size ≤ gb323)); clear HB; have HB := n0_; have BK323 := n1_; have GW323 := n2_; have GE323 := n3_; clear n0_ n1_ n2_ n3_; clear hb hbox hg; obtain ⟨hcz26_0, hcz26_1, hcz26_2, hcz26_3, hcz26_4⟩ := Gv.c5 BK323.out; obtain ⟨hfz26_0, hfz26_1, hfz26_2, hfz26_3, hfz26_4⟩ := Gv.f5 BK323.out) | ((with_reducible refine gate_callee (f := 90) rfl ?_); refine goesL_ (some 29) rfl rfl Try.func90 (by kernel_rfl) rfl #[.int .i64 a0_1] rfl Gv.lm ?_; (with_reducible refine (impl_isLong.calls a0_1 true _ A16.out).mono ?_); rintro e w' ⟨rfl, ⟨nd, rfl⟩⟩; refine ⟨_, rfl, ?_⟩) | (go_at_call 90; (with_reducible refine (impl_isLong.calls a0_2 true _ A18.out).mono ?_); rintro e w' ⟨rfl, ⟨nd, rfl⟩⟩) | (go_at_call 90; (with_reducible refine (impl_isLong.calls a0_3 false _ A20.out).mono ?_); rintro e w' ⟨rfl, ⟨nd, rfl⟩⟩))
      go_ret
      exact ⟨Gv.rt, Gv.bw⟩
    ·replace c19 := Bool.eq_false_iff.mpr c19
     subst c19
     have H1 : (some false) = some r := by rw [if_neg (show ¬ (false = true) by decide)] at H; exact H
     clear H
     have H := H1
     clear H1
     obtain rfl := Option.some.inj H
     go_enter Try.func81, Try.ntmps81
     go_wp2_with (first | ((with_reducible refine gate_dst (N := 1) rfl ?_); refine box_event ?hg (N := 1) ?hd (cs := #[.int .i64 a0_0, .int .i64 a0_1, .int .i64 a0_2, .int .i64 a0_3, .int .i64 a0_4]) (t := 29) ?hr ?_; (case hd => rfl); (case hg => rfl); (case hr => first | (go_simp; done) | (go_simp; rfl)); intro gb323 hg w27 hbox hb; have n0_ := Gv.a0 (below_step Gv.bw hb); have n1_ := Gv.a0 (hbox); have n2_ := Gv.a0 ((Gv.ble hg Gv.bw : w.heap.size ≤ gb323)); have n3_ := Gv.a0 ((Gv.ble hg Gv.bw : w.heap.size ≤ gb323)); clear HB; have HB := n0_; have BK323 := n1_; have GW323 := n2_; have GE323 := n3_; clear n0_ n1_ n2_ n3_; clear hb hbox hg; obtain ⟨hcz28_0, hcz28_1, hcz28_2, hcz28_3, hcz28_4⟩ := Gv.c5 BK323.out; obtain ⟨hfz28_0, hfz28_1, hfz28_2, hfz28_3, hfz28_4⟩ := Gv.f5 BK323.out) | ((with_reducible refine gate_callee (f := 90) rfl ?_); refine goesL_ (some 29) rfl rfl Try.func90 (by kernel_rfl) rfl #[.int .i64 a0_1] rfl Gv.lm ?_; (with_reducible refine (impl_isLong.calls a0_1 true _ A16.out).mono ?_); rintro e w' ⟨rfl, ⟨nd, rfl⟩⟩; refine ⟨_, rfl, ?_⟩) | (go_at_call 90; (with_reducible refine (impl_isLong.calls a0_2 false _ A18.out).mono ?_); rintro e w' ⟨rfl, ⟨nd, rfl⟩⟩))
     go_ret
     exact ⟨Gv.rt, Gv.bw⟩
   ·replace c17 := Bool.eq_false_iff.mpr c17
    subst c17
    have H1 : (some false) = some r := by rw [if_neg (show ¬ (false = true) by decide)] at H; exact H
    clear H
    have H := H1
    clear H1
    obtain rfl := Option.some.inj H
    go_enter Try.func81, Try.ntmps81
    go_wp2_with (first | ((with_reducible refine gate_dst (N := 1) rfl ?_); refine box_event ?hg (N := 1) ?hd (cs := #[.int .i64 a0_0, .int .i64 a0_1, .int .i64 a0_2, .int .i64 a0_3, .int .i64 a0_4]) (t := 29) ?hr ?_; (case hd => rfl); (case hg => rfl); (case hr => first | (go_simp; done) | (go_simp; rfl)); intro gb323 hg w29 hbox hb; have n0_ := Gv.a0 (below_step Gv.bw hb); have n1_ := Gv.a0 (hbox); have n2_ := Gv.a0 ((Gv.ble hg Gv.bw : w.heap.size ≤ gb323)); have n3_ := Gv.a0 ((Gv.ble hg Gv.bw : w.heap.size ≤ gb323)); clear HB; have HB := n0_; have BK323 := n1_; have GW323 := n2_; have GE323 := n3_; clear n0_ n1_ n2_ n3_; clear hb hbox hg; obtain ⟨hcz30_0, hcz30_1, hcz30_2, hcz30_3, hcz30_4⟩ := Gv.c5 BK323.out; obtain ⟨hfz30_0, hfz30_1, hfz30_2, hfz30_3, hfz30_4⟩ := Gv.f5 BK323.out) | ((with_reducible refine gate_callee (f := 90) rfl ?_); refine goesL_ (some 29) rfl rfl Try.func90 (by kernel_rfl) rfl #[.int .i64 a0_1] rfl Gv.lm ?_; (with_reducible refine (impl_isLong.calls a0_1 false _ A16.out).mono ?_); rintro e w' ⟨rfl, ⟨nd, rfl⟩⟩; refine ⟨_, rfl, ?_⟩))
    go_ret
    exact ⟨Gv.rt, Gv.bw⟩
  ·rw [if_neg c15] at H
   have c15b0 : (a0_0 == 6) = false := beq_eq_false_iff_ne.mpr c15
   have c15b1 : (a0_0 != 6) = true := bne_iff_ne.mpr c15
   obtain rfl := Option.some.inj H
   go_enter Try.func81, Try.ntmps81
   go_wp2_with (first | ((with_reducible refine gate_dst (N := 1) rfl ?_); refine box_event ?hg (N := 1) ?hd (cs := #[.int .i64 a0_0, .int .i64 a0_1, .int .i64 a0_2, .int .i64 a0_3, .int .i64 a0_4]) (t := 29) ?hr ?_; (case hd => rfl); (case hg => rfl); (case hr => first | (go_simp; done) | (go_simp; rfl)); intro gb323 hg w31 hbox hb; have n0_ := Gv.a0 (below_step Gv.bw hb); have n1_ := Gv.a0 (hbox); have n2_ := Gv.a0 ((Gv.ble hg Gv.bw : w.heap.size ≤ gb323)); have n3_ := Gv.a0 ((Gv.ble hg Gv.bw : w.heap.size ≤ gb323)); clear HB; have HB := n0_; have BK323 := n1_; have GW323 := n2_; have GE323 := n3_; clear n0_ n1_ n2_ n3_; clear hb hbox hg; obtain ⟨hcz32_0, hcz32_1, hcz32_2, hcz32_3, hcz32_4⟩ := Gv.c5 BK323.out; obtain ⟨hfz32_0, hfz32_1, hfz32_2, hfz32_3, hfz32_4⟩ := Gv.f5 BK323.out))
   go_ret
   exact ⟨Gv.rt, Gv.bw⟩

/-! ### impl_areBoth: function 68 -/
def impl_areBoth.f (a0_0 : Int) (a0_1 : Int) (a0_2 : Int) (a0_3 : Int) (a0_4 : Int) (a1_0 : Int) (a1_1 : Int) (a1_2 : Int) (a1_3 : Int) (a1_4 : Int) : Option (Bool) := (impl_AddrOk.f a0_0 a0_1 a0_2 a0_3 a0_4).bind fun t331 => (if t331 = true then ((impl_AddrOk.f a1_0 a1_1 a1_2 a1_3 a1_4).bind fun t332 => (if t332 = true then (some (a0_0 == a1_0)) else (some false))) else (some false))
set_option maxHeartbeats 8000000 in
set_option maxRecDepth 100000 in
theorem impl_areBoth.calls (a0_0 : Int) (a0_1 : Int) (a0_2 : Int) (a0_3 : Int) (a0_4 : Int) (a1_0 : Int) (a1_1 : Int) (a1_2 : Int) (a1_3 : Int) (a1_4 : Int) (r : Bool) (w : World) (h : impl_areBoth.f a0_0 a0_1 a0_2 a0_3 a0_4 a1_0 a1_1 a1_2 a1_3 a1_4 = some r) :
  Calls Try.prog 68 #[.agg #[.int .i64 a0_0, .int .i64 a0_1, .int .i64 a0_2, .int .i64 a0_3, .int .i64 a0_4], .agg #[.int .i64 a1_0, .int .i64 a1_1, .int .i64 a1_2, .int .i64 a1_3, .int .i64 a1_4]] w fun e w' => e = .returned (.bool r) ∧ Below w.heap.size w w' := by
 have hu29 := Try.underlying29
 have HB := Gv.a0 (Below.refl w.heap.size w)
 have H : ((impl_AddrOk.f a0_0 a0_1 a0_2 a0_3 a0_4).bind fun t331 => (if t331 = true then ((impl_AddrOk.f a1_0 a1_1 a1_2 a1_3 a1_4).bind fun t332 => (if t332 = true then (some (a0_0 == a1_0)) else (some false))) else (some false))) = some r := h
 clear h
 replace H := Option.bind_eq_some_iff.mp H
 obtain ⟨t331, A30, H⟩ := H
 replace H : (if t331 = true then ((impl_AddrOk.f a1_0 a1_1 a1_2 a1_3 a1_4).bind fun t332 => (if t332 = true then (some (a0_0 == a1_0)) else (some false))) else (some false)) = some r := H
 have A3 := Gv.a0 A30
 clear A30
 by_cases c4 : t331 = true
 ·subst c4
  have H1 : ((impl_AddrOk.f a1_0 a1_1 a1_2 a1_3 a1_4).bind fun t332 => (if t332 = true then (some (a0_0 == a1_0)) else (some false))) = some r := by rw [if_pos rfl] at H; exact H
  clear H
  have H := H1
  clear H1
  replace H := Option.bind_eq_some_iff.mp H
  obtain ⟨t332, A50, H⟩ := H
  replace H : (if t332 = true then (some (a0_0 == a1_0)) else (some false)) = some r := H
  have A5 := Gv.a0 A50
  clear A50
  by_cases c6 : t332 = true
  ·subst c6
   have H1 : (some (a0_0 == a1_0)) = some r := by rw [if_pos rfl] at H; exact H
   clear H
   have H := H1
   clear H1
   obtain rfl := Option.some.inj H
   go_enter Try.func68, Try.ntmps68
   go_wp2_with (first | ((with_reducible refine gate_dst (N := 2) rfl ?_); refine box_event ?hg (N := 2) ?hd (cs := #[.int .i64 a0_0, .int .i64 a0_1, .int .i64 a0_2, .int .i64 a0_3, .int .i64 a0_4]) (t := 29) ?hr ?_; (case hd => rfl); (case hg => rfl); (case hr => first | (go_simp; done) | (go_simp; rfl)); intro gb329 hg w7 hbox hb; have n0_ := Gv.a0 (below_step Gv.bw hb); have n1_ := Gv.a0 (hbox); have n2_ := Gv.a0 ((Gv.ble hg Gv.bw : w.heap.size ≤ gb329)); have n3_ := Gv.a0 ((Gv.ble hg Gv.bw : w.heap.size ≤ gb329)); clear HB; have HB := n0_; have BK329 := n1_; have GW329 := n2_; have GE329 := n3_; clear n0_ n1_ n2_ n3_; clear hb hbox hg) | ((with_reducible refine gate_dst (N := 3) rfl ?_); refine box_event ?hg (N := 3) ?hd (cs := #[.int .i64 a1_0, .int .i64 a1_1, .int .i64 a1_2, .int .i64 a1_3, .int .i64 a1_4]) (t := 29) ?hr ?_; (case hd => rfl); (case hg => rfl); (case hr => first | (go_simp; done) | (go_simp; rfl)); intro gb330 hg w8 hbox hb; have n0_ := Gv.a0 (Gv.bb BK329.out hb); have n1_ := Gv.a0 (below_step Gv.bw hb); have n2_ := Gv.a0 (hbox); have n3_ := Gv.a0 ((Gv.ble hg Gv.bw : w.heap.size ≤ gb330)); have n4_ := Gv.a0 ((Gv.ble hg Gv.bw : w.heap.size ≤ gb330)); have n5_ := Gv.a0 ((Gv.nlt hg (Gv.kb BK329.out) : gb329 ≠ gb330)); have n6_ := Gv.a0 ((Gv.ngt hg (Gv.kb BK329.out) : gb330 ≠ gb329)); clear BK329; clear HB; have BK329 := n0_; have HB := n1_; have BK330 := n2_; have GW330 := n3_; have GE330 := n4_; have NB329_330 := n5_; have NB330_329 := n6_; clear n0_ n1_ n2_ n3_ n4_ n5_ n6_; clear hb hbox hg; have hnb9 := NB329_330.out; have hnc9 := NB330_329.out; obtain ⟨hcz10_0, hcz10_1, hcz10_2, hcz10_3, hcz10_4⟩ := Gv.c5 BK329.out; obtain ⟨hfz10_0, hfz10_1, hfz10_2, hfz10_3, hfz10_4⟩ := Gv.f5 BK329.out) | ((with_reducible refine gate_callee (f := 81) rfl ?_); refine goesL_ (some 6) rfl rfl Try.func81 (by kernel_rfl) rfl #[.agg #[.int .i64 a0_0, .int .i64 a0_1, .int .i64 a0_2, .int .i64 a0_3, .int .i64 a0_4]] rfl Gv.lm ?_; (with_reducible refine (impl_AddrOk.calls a0_0 a0_1 a0_2 a0_3 a0_4 true _ A3.out).mono ?_); rintro e w11 ⟨rfl, hb⟩; refine ⟨_, rfl, ?_⟩; have n0_ := Gv.a0 (Gv.bb BK329.out hb); have n1_ := Gv.a0 (Gv.bb BK330.out hb); have n2_ := Gv.a0 (below_step Gv.bw hb); clear BK329; clear BK330; clear HB; have BK329 := n0_; have BK330 := n1_; have HB := n2_; clear n0_ n1_ n2_; (try clear hb); (try clear hb2); (try clear hk); (try clear hi); obtain ⟨hcz12_0, hcz12_1, hcz12_2, hcz12_3, hcz12_4⟩ := Gv.c5 BK330.out; obtain ⟨hfz12_0, hfz12_1, hfz12_2, hfz12_3, hfz12_4⟩ := Gv.f5 BK330.out) | (go_at_call 81; (with_reducible refine (impl_AddrOk.calls a1_0 a1_1 a1_2 a1_3 a1_4 true _ A5.out).mono ?_); rintro e w13 ⟨rfl, hb⟩; have n0_ := Gv.a0 (Gv.bb BK329.out hb); have n1_ := Gv.a0 (Gv.bb BK330.out hb); have n2_ := Gv.a0 (below_step Gv.bw hb); clear BK329; clear BK330; clear HB; have BK329 := n0_; have BK330 := n1_; have HB := n2_; clear n0_ n1_ n2_; (try clear hb); (try clear hb2); (try clear hk); (try clear hi); obtain ⟨hcz14_0, hcz14_1, hcz14_2, hcz14_3, hcz14_4⟩ := Gv.c5 BK329.out; obtain ⟨hfz14_0, hfz14_1, hfz14_2, hfz14_3, hfz14_4⟩ := Gv.f5 BK329.out; obtain ⟨hcz15_0, hcz15_1, hcz15_2, hcz15_3, hcz15_4⟩ := Gv.c5 BK330.out; obtain ⟨hfz15_0, hfz15_1, hfz15_2, hfz15_3, hfz15_4⟩ := Gv.f5 BK330.out))
   go_ret
   exact ⟨Gv.rt, Gv.bw⟩
  ·replace c6 := Bool.eq_false_iff.mpr c6
   subst c6
   have H1 : (some false) = some r := by rw [if_neg (show ¬ (false = true) by decide)] at H; exact H
   clear H
   have H := H1
   clear H1
   obtain rfl := Option.some.inj H
   go_enter Try.func68, Try.ntmps68
   go_wp2_with (first | ((with_reducible refine gate_dst (N := 2) rfl ?_); refine box_event ?hg (N := 2) ?hd (cs := #[.int .i64 a0_0, .int .i64 a0_1, .int .i64 a0_2, .int .i64 a0_3, .int .i64 a0_4]) (t := 29) ?hr ?_; (case hd => rfl); (case hg => rfl); (case hr => first | (go_simp; done) | (go_simp; rfl)); intro gb329 hg w16 hbox hb; have n0_ := Gv.a0 (below_step Gv.bw hb); have n1_ := Gv.a0 (hbox); have n2_ := Gv.a0 ((Gv.ble hg Gv.bw : w.heap.size ≤ gb329)); have n3_ := Gv.a0 ((Gv.ble hg Gv.bw : w.heap.size ≤ gb329)); clear HB; have HB := n0_; have BK329 := n1_; have GW329 := n2_; have GE329 := n3_; clear n0_ n1_ n2_ n3_; clear hb hbox hg) | ((with_reducible refine gate_dst (N := 3) rfl ?_); refine box_event ?hg (N := 3) ?hd (cs := #[.int .i64 a1_0, .int .i64 a1_1, .int .i64 a1_2, .int .i64 a1_3, .int .i64 a1_4]) (t := 29) ?hr ?_; (case hd => rfl); (case hg => rfl); (case hr => first | (go_simp; done) | (go_simp; rfl)); intro gb330 hg w17 hbox hb; have n0_ := Gv.a0 (Gv.bb BK329.out hb); have n1_ := Gv.a0 (below_step Gv.bw hb); have n2_ := Gv.a0 (hbox); have n3_ := Gv.a0 ((Gv.ble hg Gv.bw : w.heap.size ≤ gb330)); have n4_ := Gv.a0 ((Gv.ble hg Gv.bw : w.heap.size ≤ gb330)); have n5_ := Gv.a0 ((Gv.nlt hg (Gv.kb BK329.out) : gb329 ≠ gb330)); have n6_ := Gv.a0 ((Gv.ngt hg (Gv.kb BK329.out) : gb330 ≠ gb329)); clear BK329; clear HB; have BK329 := n0_; have HB := n1_; have BK330 := n2_; have GW330 := n3_; have GE330 := n4_; have NB329_330 := n5_; have NB330_329 := n6_; clear n0_ n1_ n2_ n3_ n4_ n5_ n6_; clear hb hbox hg; have hnb18 := NB329_330.out; have hnc18 := NB330_329.out; obtain ⟨hcz19_0, hcz19_1, hcz19_2, hcz19_3, hcz19_4⟩ := Gv.c5 BK329.out; obtain ⟨hfz19_0, hfz19_1, hfz19_2, hfz19_3, hfz19_4⟩ := Gv.f5 BK329.out) | ((with_reducible refine gate_callee (f := 81) rfl ?_); refine goesL_ (some 6) rfl rfl Try.func81 (by kernel_rfl) rfl #[.agg #[.int .i64 a0_0, .int .i64 a0_1, .int .i64 a0_2, .int .i64 a0_3, .int .i64 a0_4]] rfl Gv.lm ?_; (with_reducible refine (impl_AddrOk.calls a0_0 a0_1 a0_2 a0_3 a0_4 true _ A3.out).mono ?_); rintro e w20 ⟨rfl, hb⟩; refine ⟨_, rfl, ?_⟩; have n0_ := Gv.a0 (Gv.bb BK329.out hb); have n1_ := Gv.a0 (Gv.bb BK330.out hb); have n2_ := Gv.a0 (below_step Gv.bw hb); clear BK329; clear BK330; clear HB; have BK329 := n0_; have BK330 := n1_; have HB := n2_; clear n0_ n1_ n2_; (try clear hb); (try clear hb2); (try clear hk); (try clear hi); obtain ⟨hcz21_0, hcz21_1, hcz21_2, hcz21_3, hcz21_4⟩ := Gv.c5 BK330.out; obtain ⟨hfz21_0, hfz21_1, hfz21_2, hfz21_3, hfz21_4⟩ := Gv.f5 BK330.out) | (go_at_call 81; (with_reducible refine (impl_AddrOk.calls a1_0 a1_1 a1_2 a1_3 a1_4 false _ A5.out).mono ?_); rintro e w22 ⟨rfl, hb⟩; have n0_ := Gv.a0 (Gv.bb BK329.out hb); have n1_ := Gv.a0 (Gv.bb BK330.out hb); have n2_ := Gv.a0 (below_step Gv.bw hb); clear BK329; clear BK330; clear HB; have BK329 := n0_; have BK330 := n1_; have HB := n2_; clear n0_ n1_ n2_; (try clear hb); (try clear hb2); (try clear hk); (try clear hi)))
   go_ret
   exact ⟨Gv.rt, Gv.bw⟩
 ·replace c4 := Bool.eq_false_iff.mpr c4
  subst c4
  have H1 : (some false) = some r := by rw [if_neg (show ¬ (false = true) by decide)] at H; exact H
  clear H
  have H := H1
  clear H1
  obtain rfl := Option.some.inj H
  go_enter Try.func68, Try.ntmps68
  go_wp2_with (first | ((with_reducible refine gate_dst (N := 2) rfl ?_); refine box_event ?hg (N := 2) ?hd (cs := #[.int .i64 a0_0, .int .i64 a0_1, .int .i64 a0_2, .int .i64 a0_3, .int .i64 a0_4]) (t := 29) ?hr ?_; (case hd => rfl); (case hg => rfl); (case hr => first | (go_simp; done) | (go_simp; rfl)); intro gb329 hg w23 hbox hb; have n0_ := Gv.a0 (below_step Gv.bw hb); have n1_ := Gv.a0 (hbox); have n2_ := Gv.a0 ((Gv.ble hg Gv.bw : w.heap.size ≤ gb329)); have n3_ := Gv.a0 ((Gv.ble hg Gv.bw : w.heap.size ≤ gb329)); clear HB; have HB := n0_; have BK329 := n1_; have GW329 := n2_; have GE329 := n3_; clear n0_ n1_ n2_ n3_; clear hb hbox hg) | ((with_reducible refine gate_dst (N := 3) rfl ?_); refine box_event ?hg (N := 3) ?hd (cs := #[.int .i64 a1_0, .int .i64 a1_1, .int .i64 a1_2, .int .i64 a1_3, .int .i64 a1_4]) (t := 29) ?hr ?_; (case hd => rfl); (case hg => rfl); (case hr => first | (go_simp; done) | (go_simp; rfl)); intro gb330 hg w24 hbox hb; have n0_ := Gv.a0 (Gv.bb BK329.out hb); have n1_ := Gv.a0 (below_step Gv.bw hb); have n2_ := Gv.a0 (hbox); have n3_ := Gv.a0 ((Gv.ble hg Gv.bw : w.heap.size ≤ gb330)); have n4_ := Gv.a0 ((Gv.ble hg Gv.bw : w.heap.size ≤ gb330)); have n5_ := Gv.a0 ((Gv.nlt hg (Gv.kb BK329.out) : gb329 ≠ gb330)); have n6_ := Gv.a0 ((Gv.ngt hg (Gv.kb BK329.out) : gb330 ≠ gb329)); clear BK329; clear HB; have BK329 := n0_; have HB := n1_; have BK330 := n2_; have GW330 := n3_; have GE330 := n4_; have NB329_330 := n5_; have NB330_329 := n6_; clear n0_ n1_ n2_ n3_ n4_ n5_ n6_; clear hb hbox hg; have hnb25 := NB329_330.out; have hnc25 := NB330_329.out; obtain ⟨hcz26_0, hcz26_1, hcz26_2, hcz26_3, hcz26_4⟩ := Gv.c5 BK329.out; obtain ⟨hfz26_0, hfz26_1, hfz26_2, hfz26_3, hfz26_4⟩ := Gv.f5 BK329.out) | ((with_reducible refine gate_callee (f := 81) rfl ?_); refine goesL_ (some 6) rfl rfl Try.func81 (by kernel_rfl) rfl #[.agg #[.int .i64 a0_0, .int .i64 a0_1, .int .i64 a0_2, .int .i64 a0_3, .int .i64 a0_4]] rfl Gv.lm ?_; (with_reducible refine (impl_AddrOk.calls a0_0 a0_1 a0_2 a0_3 a0_4 false _ A3.out).mono ?_); rintro e w27 ⟨rfl, hb⟩; refine ⟨_, rfl, ?_⟩; have n0_ := Gv.a0 (Gv.bb BK329.out hb); have n1_ := Gv.a0 (Gv.bb BK330.out hb); have n2_ := Gv.a0 (below_step Gv.bw hb); clear BK329; clear BK330; clear HB; have BK329 := n0_; have BK330 := n1_; have HB := n2_; clear n0_ n1_ n2_; (try clear hb); (try clear hb2); (try clear hk); (try clear hi)))
  go_ret
  exact ⟨Gv.rt, Gv.bw⟩

/-! ### impl_isByte: function 69 -/
def impl_isByte.f (a0 : Int) : Option (Bool) := (impl_within.f a0 0 255).bind fun t333 => (some t333)
set_option maxHeartbeats 8000000 in
set_option maxRecDepth 100000 in
theorem impl_isByte.calls (a0 : Int) (r : Bool) (w : World) (h : impl_isByte.f a0 = some r) :
  Calls Try.prog 69 #[.int .i64 a0] w fun e w' => e = .returned (.bool r) ∧ Drawn0 w w' := by
 have H : ((impl_within.f a0 0 255).bind fun t333 => (some t333)) = some r := h
 clear h
 replace H := Option.bind_eq_some_iff.mp H
 obtain ⟨t333, A20, H⟩ := H
 replace H : (some t333) = some r := H
 have A2 := Gv.a0 A20
 clear A20
 obtain rfl := Option.some.inj H
 go_enter Try.func69, Try.ntmps69
 go_wp2_with (first | ((with_reducible refine gate_callee (f := 44) rfl ?_); refine goesL_ (some 4) rfl rfl Try.func44 (by kernel_rfl) rfl #[.int .i64 a0, .int .i64 0, .int .i64 255] rfl Gv.lm ?_; (with_reducible refine (impl_within.calls a0 0 255 t333 _ A2.out).mono ?_); rintro e w' ⟨rfl, ⟨nd, rfl⟩⟩; refine ⟨_, rfl, ?_⟩))
 go_ret
 exact ⟨by first | rfl | (simp; done) | (simp [Int.tdiv_eq_ediv_of_nonneg]; done) | (simp [*]; done), by repeat (first | exact Drawn0.refl _ | apply Drawn0.step)⟩

/-! ### impl_isWord: function 82 -/
def impl_isWord.f (a0 : Int) : Option (Bool) := (impl_within.f a0 0 65535).bind fun t334 => (some t334)
set_option maxHeartbeats 8000000 in
set_option maxRecDepth 100000 in
theorem impl_isWord.calls (a0 : Int) (r : Bool) (w : World) (h : impl_isWord.f a0 = some r) :
  Calls Try.prog 82 #[.int .i64 a0] w fun e w' => e = .returned (.bool r) ∧ Drawn0 w w' := by
 have H : ((impl_within.f a0 0 65535).bind fun t334 => (some t334)) = some r := h
 clear h
 replace H := Option.bind_eq_some_iff.mp H
 obtain ⟨t334, A20, H⟩ := H
 replace H : (some t334) = some r := H
 have A2 := Gv.a0 A20
 clear A20
 obtain rfl := Option.some.inj H
 go_enter Try.func82, Try.ntmps82
 go_wp2_with (first | ((with_reducible refine gate_callee (f := 44) rfl ?_); refine goesL_ (some 4) rfl rfl Try.func44 (by kernel_rfl) rfl #[.int .i64 a0, .int .i64 0, .int .i64 65535] rfl Gv.lm ?_; (with_reducible refine (impl_within.calls a0 0 65535 t334 _ A2.out).mono ?_); rintro e w' ⟨rfl, ⟨nd, rfl⟩⟩; refine ⟨_, rfl, ?_⟩))
 go_ret
 exact ⟨by first | rfl | (simp; done) | (simp [Int.tdiv_eq_ediv_of_nonneg]; done) | (simp [*]; done), by repeat (first | exact Drawn0.refl _ | apply Drawn0.step)⟩

/-! ### impl_areWords: function 70 -/
def impl_areWords.l0 : Nat → List Int → Int → Int → Option (Bool)
 | 0, _, _, _ => none
 | k + 1, x5, x6, x7 => if x7 < x6 then (if 0 ≤ x7 then (if x7 < (x5.length : Int) then ((impl_isWord.f (rd x5 x7)).bind fun t336 => (if t336 = true then (impl_areWords.l0 k x5 x6 (wrap64 (x7 + 1))) else (some false))) else (none)) else (none)) else (some true)
def impl_areWords.f (k : Nat) (l0 : List Int) : Option (Bool) := impl_areWords.l0 k l0 (l0.length : Int) 0
theorem impl_areWords.mono_l : ∀ k, (∀ y0 y1 y2, LeO (impl_areWords.l0 k y0 y1 y2) (impl_areWords.l0 (k + 1) y0 y1 y2))
 | 0 => fun _ _ _ r h => by simp [impl_areWords.l0] at h
 | k + 1 => by
  have ih0 := impl_areWords.mono_l k
  ·intro y0 y1 y2
   unfold impl_areWords.l0
   repeat' first
   | (with_reducible exact ih0 _ _ _)
   | (with_reducible exact LeO.refl _)
   | (with_reducible exact LeO.none _)
   | (with_reducible refine LeO.ite ?_ ?_)
   | (with_reducible refine LeO.bind ?_ (fun _ => ?_))
   | exact ih0 _ _ _
   | exact LeO.none _
   | refine LeO.ite ?_ ?_
   | refine LeO.bind ?_ (fun _ => ?_)
theorem impl_areWords.mono : ∀ a0 k, LeO (impl_areWords.f k a0) (impl_areWords.f (k + 1) a0) := by
 intro a0 k
 have ih0 := impl_areWords.mono_l k
 unfold impl_areWords.f
 repeat' first
   | (with_reducible exact ih0 _ _ _)
   | (with_reducible exact LeO.refl _)
   | (with_reducible exact LeO.none _)
   | (with_reducible refine LeO.ite ?_ ?_)
   | (with_reducible refine LeO.bind ?_ (fun _ => ?_))
   | exact ih0 _ _ _
   | exact LeO.none _
   | refine LeO.ite ?_ ?_
   | refine LeO.bind ?_ (fun _ => ?_)
set_option maxHeartbeats 8000000 in
set_option maxRecDepth 100000 in
theorem impl_areWords.calls (k : Nat) (A0 : Option Addr) (c0 : Nat) (l0 : List Int) (r : Bool) (w : World) (hr0 : Kd.C (Kd.int .i64) w A0 l0.length l0) (hc0 : l0.length ≤ c0) (h : impl_areWords.f k l0 = some r) :
  Calls Try.prog 70 #[.slice A0 l0.length c0] w fun e w' => e = .returned (.bool r) ∧ Drawn0 w w' := by
 have HR0 := Gv.a0 hr0
 have HC0 := Gv.a0 hc0
 clear hr0 hc0
 have H : (impl_areWords.l0 k l0 (l0.length : Int) 0) = some r := h
 clear h
 have H' := Gv.a0 H
 clear H
 go_enter Try.func70, Try.ntmps70
 go_wp2
 go_loopg [7] k (fun kq v7 w' => ∃ (x7_1 : Int), v7 = .int .i64 x7_1 ∧ Aside0 (impl_areWords.l0 kq l0 (l0.length : Int) x7_1 = some r) ∧ Aside0 (kq ≤ k) ∧ Drawn0 w w')
 case atStart => exact ⟨(0), Gv.rq, H', ⟨Nat.le_refl _⟩, by repeat (first | exact Drawn0.refl _ | apply Drawn0.step)⟩
 case round =>
  clear H'
  obtain ⟨x7_1, rfl, HA, HK1, ⟨m1, rfl⟩⟩ := hrel
  cases gk with
  | zero => exact absurd HA.out (by simp [impl_areWords.l0])
  | succ k1 =>
   have H := HA.out
   clear HA
   simp only [impl_areWords.l0] at H
   by_cases c2 : x7_1 < (l0.length : Int)
   ·rw [if_pos c2] at H
    have c2b0 : decide (x7_1 < (l0.length : Int)) = true := decide_eq_true c2
    clear c2
    by_cases c3 : 0 ≤ x7_1
    ·rw [if_pos c3] at H
     have c3b0 : decide (0 ≤ x7_1) = true := decide_eq_true c3
     clear c3
     by_cases c4 : x7_1 < (l0.length : Int)
     ·rw [if_pos c4] at H
      have c4b0 : decide (x7_1 < (l0.length : Int)) = true := decide_eq_true c4
      clear c4
      replace H := Option.bind_eq_some_iff.mp H
      obtain ⟨t336, A50, H⟩ := H
      replace H : (if t336 = true then (impl_areWords.l0 k1 l0 (l0.length : Int) (wrap64 (x7_1 + 1))) else (some false)) = some r := H
      have A5 := Gv.a0 A50
      clear A50
      by_cases c6 : t336 = true
      ·subst c6
       have H1 : (impl_areWords.l0 k1 l0 (l0.length : Int) (wrap64 (x7_1 + 1))) = some r := by rw [if_pos rfl] at H; exact H
       clear H
       have H := H1
       clear H1
       have H' := Gv.a0 H
       clear H
       have p335 : 0 ≤ (x7_1 : Int) := of_decide_eq_true (by first | (with_reducible assumption) | assumption)
       have q335 : x7_1 < (l0.length : Int) := of_decide_eq_true (by first | (with_reducible assumption) | assumption)
       obtain ⟨ad335, e335, hx335_0⟩ := Kd.at_int HR0.out x7_1 p335 q335
       cases e335
       replace p335 := eq_true p335
       replace q335 := eq_true q335
       go_wp2_with (first | ((with_reducible refine gate_callee (f := 82) rfl ?_); refine goesL_ (some 12) rfl rfl Try.func82 (by kernel_rfl) rfl #[.int .i64 (rd l0 x7_1)] rfl Gv.lm ?_; (with_reducible refine (impl_isWord.calls (rd l0 x7_1) true _ A5.out).mono ?_); rintro e w' ⟨rfl, ⟨nd, rfl⟩⟩; refine ⟨_, rfl, ?_⟩))
       go_roundg k1
       case measure => have := HK1.out; omega
       case rel => exact ⟨(wrap64 (x7_1 + 1)), Gv.rq, H', ⟨by have := HK1.out; omega⟩, by repeat (first | exact Drawn0.refl _ | apply Drawn0.step)⟩
      ·replace c6 := Bool.eq_false_iff.mpr c6
       subst c6
       have H1 : (some false) = some r := by rw [if_neg (show ¬ (false = true) by decide)] at H; exact H
       clear H
       have H := H1
       clear H1
       obtain rfl := Option.some.inj H
       have p335 : 0 ≤ (x7_1 : Int) := of_decide_eq_true (by first | (with_reducible assumption) | assumption)
       have q335 : x7_1 < (l0.length : Int) := of_decide_eq_true (by first | (with_reducible assumption) | assumption)
       obtain ⟨ad335, e335, hx335_0⟩ := Kd.at_int HR0.out x7_1 p335 q335
       cases e335
       replace p335 := eq_true p335
       replace q335 := eq_true q335
       go_wp2_with (first | ((with_reducible refine gate_callee (f := 82) rfl ?_); refine goesL_ (some 12) rfl rfl Try.func82 (by kernel_rfl) rfl #[.int .i64 (rd l0 x7_1)] rfl Gv.lm ?_; (with_reducible refine (impl_isWord.calls (rd l0 x7_1) false _ A5.out).mono ?_); rintro e w' ⟨rfl, ⟨nd, rfl⟩⟩; refine ⟨_, rfl, ?_⟩))
       go_ret
       exact ⟨by first | rfl | (simp; done) | (simp [Int.tdiv_eq_ediv_of_nonneg]; done) | (simp [*]; done), by repeat (first | exact Drawn0.refl _ | apply Drawn0.step)⟩
     ·rw [if_neg c4] at H
      exact absurd H (by simp)
    ·rw [if_neg c3] at H
     exact absurd H (by simp)
   ·rw [if_neg c2] at H
    have c2b0 : decide (x7_1 < (l0.length : Int)) = false := decide_eq_false c2
    clear c2
    obtain rfl := Option.some.inj H
    go_wp2
    go_ret
    exact ⟨by first | rfl | (simp; done) | (simp [Int.tdiv_eq_ediv_of_nonneg]; done) | (simp [*]; done), by repeat (first | exact Drawn0.refl _ | apply Drawn0.step)⟩

/-! ### impl_KeyOk: function 45 -/
def impl_KeyOk.f (k : Nat) (a0_0 : Int) (a0_1 : Int) (a0_2 : Int) (a0_3 : Int) (a0_4 : Int) (a0_5 : Int) (a0_6 : Int) (a0_7 : Int) (a0_8 : Int) (a0_9 : Int) (a0_10 : Int) (a0_11 : Int) (a0_12 : Int) : Option (Bool) := (impl_areBoth.f a0_0 a0_1 a0_2 a0_3 a0_4 a0_5 a0_6 a0_7 a0_8 a0_9).bind fun t338 => (if t338 = true then ((impl_isByte.f a0_10).bind fun t339 => (if t339 = true then ((impl_areWords.f k (([a0_11, a0_12] : List Int))).bind fun t343 => (some t343)) else (some false))) else (some false))
theorem impl_KeyOk.mono : ∀ a0 a1 a2 a3 a4 a5 a6 a7 a8 a9 a10 a11 a12 k, LeO (impl_KeyOk.f k a0 a1 a2 a3 a4 a5 a6 a7 a8 a9 a10 a11 a12) (impl_KeyOk.f (k + 1) a0 a1 a2 a3 a4 a5 a6 a7 a8 a9 a10 a11 a12) := by
 intro a0 a1 a2 a3 a4 a5 a6 a7 a8 a9 a10 a11 a12 k
 unfold impl_KeyOk.f
 repeat' first
   | (with_reducible exact impl_areWords.mono _ _)
   | (with_reducible exact LeO.refl _)
   | (with_reducible exact LeO.none _)
   | (with_reducible refine LeO.ite ?_ ?_)
   | (with_reducible refine LeO.bind ?_ (fun _ => ?_))
   | exact impl_areWords.mono _ _
   | exact LeO.none _
   | refine LeO.ite ?_ ?_
   | refine LeO.bind ?_ (fun _ => ?_)
set_option maxHeartbeats 8000000 in
set_option maxRecDepth 100000 in
theorem impl_KeyOk.calls (k : Nat) (a0_0 : Int) (a0_1 : Int) (a0_2 : Int) (a0_3 : Int) (a0_4 : Int) (a0_5 : Int) (a0_6 : Int) (a0_7 : Int) (a0_8 : Int) (a0_9 : Int) (a0_10 : Int) (a0_11 : Int) (a0_12 : Int) (r : Bool) (w : World) (h : impl_KeyOk.f k a0_0 a0_1 a0_2 a0_3 a0_4 a0_5 a0_6 a0_7 a0_8 a0_9 a0_10 a0_11 a0_12 = some r) :
  Calls Try.prog 45 #[.agg #[.int .i64 a0_0, .int .i64 a0_1, .int .i64 a0_2, .int .i64 a0_3, .int .i64 a0_4, .int .i64 a0_5, .int .i64 a0_6, .int .i64 a0_7, .int .i64 a0_8, .int .i64 a0_9, .int .i64 a0_10, .int .i64 a0_11, .int .i64 a0_12]] w fun e w' => e = .returned (.bool r) ∧ Below w.heap.size w w' := by
 have hu31 := Try.underlying31
 have hu29 := Try.underlying29
 have HB := Gv.a0 (Below.refl w.heap.size w)
 have H : ((impl_areBoth.f a0_0 a0_1 a0_2 a0_3 a0_4 a0_5 a0_6 a0_7 a0_8 a0_9).bind fun t338 => (if t338 = true then ((impl_isByte.f a0_10).bind fun t339 => (if t339 = true then ((impl_areWords.f k (([a0_11, a0_12] : List Int))).bind fun t343 => (some t343)) else (some false))) else (some false))) = some r := h
 clear h
 replace H := Option.bind_eq_some_iff.mp H
 obtain ⟨t338, A20, H⟩ := H
 replace H : (if t338 = true then ((impl_isByte.f a0_10).bind fun t339 => (if t339 = true then ((impl_areWords.f k (([a0_11, a0_12] : List Int))).bind fun t343 => (some t343)) else (some false))) else (some false)) = some r := H
 have A2 := Gv.a0 A20
 clear A20
 by_cases c3 : t338 = true
 ·subst c3
  have H1 : ((impl_isByte.f a0_10).bind fun t339 => (if t339 = true then ((impl_areWords.f k (([a0_11, a0_12] : List Int))).bind fun t343 => (some t343)) else (some false))) = some r := by rw [if_pos rfl] at H; exact H
  clear H
  have H := H1
  clear H1
  replace H := Option.bind_eq_some_iff.mp H
  obtain ⟨t339, A40, H⟩ := H
  replace H : (if t339 = true then ((impl_areWords.f k (([a0_11, a0_12] : List Int))).bind fun t343 => (some t343)) else (some false)) = some r := H
  have A4 := Gv.a0 A40
  clear A40
  by_cases c5 : t339 = true
  ·subst c5
   have H1 : ((impl_areWords.f k (([a0_11, a0_12] : List Int))).bind fun t343 => (some t343)) = some r := by rw [if_pos rfl] at H; exact H
   clear H
   have H := H1
   clear H1
   obtain ⟨y340, hy340⟩ : ∃ y_ : List Int, y_ = (([a0_11, a0_12] : List Int)) := ⟨_, rfl⟩
   replace H : ((impl_areWords.f k y340).bind fun t343 => (some t343)) = some r := by first | (rw [hy340]; with_reducible exact H) | (have H2_ := (Option.bind_some _ _).symm.trans H; rw [hy340]; with_reducible exact H2_) | (have H2_ := (Option.bind_some _ _).symm.trans H; with_reducible exact H2_) | with_reducible exact H | (rw [hy340]; exact H) | exact H
   have Ny340 := Gv.a0 hy340
   clear hy340
   replace H := Option.bind_eq_some_iff.mp H
   obtain ⟨t343, A60, H⟩ := H
   replace H : (some t343) = some r := H
   have A6 := Gv.a0 A60
   clear A60
   obtain rfl := Option.some.inj H
   go_enter Try.func45, Try.ntmps45
   go_wp2_with (first | ((with_reducible refine gate_dst (N := 1) rfl ?_); (try (refine gate_guard (by rfl) ?_; dsimp only)); refine box_event ?hg (N := 1) ?hd (cs := #[.int .i64 a0_0, .int .i64 a0_1, .int .i64 a0_2, .int .i64 a0_3, .int .i64 a0_4, .int .i64 a0_5, .int .i64 a0_6, .int .i64 a0_7, .int .i64 a0_8, .int .i64 a0_9, .int .i64 a0_10, .int .i64 a0_11, .int .i64 a0_12]) (t := 31) ?hr ?_; (case hd => rfl); (case hg => rfl); (case hr => first | (go_simp; done) | (go_simp; rfl)); intro gb337 hg w7 hbox hb; have n0_ := Gv.a0 (below_step Gv.bw hb); have n1_ := Gv.a0 (hbox); have n2_ := Gv.a0 ((Gv.ble hg Gv.bw : w.heap.size ≤ gb337)); have n3_ := Gv.a0 ((Gv.ble hg Gv.bw : w.heap.size ≤ gb337)); clear HB; have HB := n0_; have BK337 := n1_; have GW337 := n2_; have GE337 := n3_; clear n0_ n1_ n2_ n3_; clear hb hbox hg; obtain ⟨hcz8_0, hcz8_1, hcz8_2, hcz8_3, hcz8_4, hcz8_5, hcz8_6, hcz8_7, hcz8_8, hcz8_9, hcz8_10, hcz8_11, hcz8_12⟩ := Gv.c13 BK337.out; obtain ⟨hfz8_0, hfz8_1, hfz8_2, hfz8_3, hfz8_4, hfz8_5, hfz8_6, hfz8_7, hfz8_8, hfz8_9, hfz8_10, hfz8_11, hfz8_12⟩ := Gv.f13 BK337.out) | ((with_reducible refine gate_callee (f := 68) rfl ?_); refine goesL_ (some 7) rfl rfl Try.func68 (by kernel_rfl) rfl #[.agg #[.int .i64 a0_0, .int .i64 a0_1, .int .i64 a0_2, .int .i64 a0_3, .int .i64 a0_4], .agg #[.int .i64 a0_5, .int .i64 a0_6, .int .i64 a0_7, .int .i64 a0_8, .int .i64 a0_9]] rfl Gv.lm ?_; (with_reducible refine (impl_areBoth.calls a0_0 a0_1 a0_2 a0_3 a0_4 a0_5 a0_6 a0_7 a0_8 a0_9 true _ A2.out).mono ?_); rintro e w9 ⟨rfl, hb⟩; refine ⟨_, rfl, ?_⟩; have n0_ := Gv.a0 (Gv.bb BK337.out hb); have n1_ := Gv.a0 (below_step Gv.bw hb); clear BK337; clear HB; have BK337 := n0_; have HB := n1_; clear n0_ n1_; (try clear hb); (try clear hb2); (try clear hk); (try clear hi); obtain ⟨hcz10_0, hcz10_1, hcz10_2, hcz10_3, hcz10_4, hcz10_5, hcz10_6, hcz10_7, hcz10_8, hcz10_9, hcz10_10, hcz10_11, hcz10_12⟩ := Gv.c13 BK337.out; obtain ⟨hfz10_0, hfz10_1, hfz10_2, hfz10_3, hfz10_4, hfz10_5, hfz10_6, hfz10_7, hfz10_8, hfz10_9, hfz10_10, hfz10_11, hfz10_12⟩ := Gv.f13 BK337.out) | (go_at_call 69; (with_reducible refine (impl_isByte.calls a0_10 true _ A4.out).mono ?_); rintro e w' ⟨rfl, ⟨nd, rfl⟩⟩) | ((with_reducible refine gate_dst (N := 18) rfl ?_); (try (refine gate_guard (by rfl) ?_; dsimp only)); refine Kd.R_lit (Kd.int .i64) _ 3 ?hg (N := 18) ?hd (xs := ([a0_11, a0_12] : List Int)) (inner := [.int .i64 a0_11, .int .i64 a0_12]) (ok := fun _ => True) (okp := fun _ => True) ?hr ?hp (fun _ hk => hk) trivial (Below.refl _ _) (Nat.le_refl _) (by simp) ?_; (case hd => rfl); (case hg => rfl); (case hr => first | (go_simp; done) | (go_simp; rfl)); (case hp => exact (Reps.one (show Kd.M (Kd.int .i64) _ _ _ a0_11 [.int .i64 a0_11] from rfl) (Reps.one (show Kd.M (Kd.int .i64) _ _ _ a0_12 [.int .i64 a0_12] from rfl) (Reps.none _ _)))); intro v341 w11 ho12 hb hg_ hnew_; clear hg_ hnew_; (first | rw [← Ny340.out] at ho12 | (simp only [Int.reduceToNat] at ho12; rw [← Ny340.out] at ho12)); have n0_ := Gv.a0 (Kd.R_lower ho12 (below_size Gv.bw)); have n1_ := Gv.a0 (Gv.bb BK337.out hb); have n2_ := Gv.a0 (below_step Gv.bw hb); clear BK337; clear HB; have HO342 := n0_; have BK337 := n1_; have HB := n2_; clear n0_ n1_ n2_; clear hb ho12; obtain ⟨Ao13, co13, eo13⟩ := Kd.R_slice HO342.out; subst eo13) | (go_at_call 70; (with_reducible refine (impl_areWords.calls k _ _ y340 t343 _ ?side1 ?side2 A6.out).mono ?_); (case side1 => repeat (first | exact (Kd.R_reads' HO342.out).2.2 | (with_reducible refine Kd.C_alloc ?_ _) | (with_reducible refine Kd.C_drewN ?_ _) | (with_reducible refine Kd.C_drew ?_))); (case side2 => exact (Kd.R_reads' HO342.out).2.1); rintro e w' ⟨rfl, ⟨nd, rfl⟩⟩))
   go_ret
   exact ⟨Gv.rt, Gv.bw⟩
  ·replace c5 := Bool.eq_false_iff.mpr c5
   subst c5
   have H1 : (some false) = some r := by rw [if_neg (show ¬ (false = true) by decide)] at H; exact H
   clear H
   have H := H1
   clear H1
   obtain rfl := Option.some.inj H
   go_enter Try.func45, Try.ntmps45
   go_wp2_with (first | ((with_reducible refine gate_dst (N := 1) rfl ?_); (try (refine gate_guard (by rfl) ?_; dsimp only)); refine box_event ?hg (N := 1) ?hd (cs := #[.int .i64 a0_0, .int .i64 a0_1, .int .i64 a0_2, .int .i64 a0_3, .int .i64 a0_4, .int .i64 a0_5, .int .i64 a0_6, .int .i64 a0_7, .int .i64 a0_8, .int .i64 a0_9, .int .i64 a0_10, .int .i64 a0_11, .int .i64 a0_12]) (t := 31) ?hr ?_; (case hd => rfl); (case hg => rfl); (case hr => first | (go_simp; done) | (go_simp; rfl)); intro gb337 hg w14 hbox hb; have n0_ := Gv.a0 (below_step Gv.bw hb); have n1_ := Gv.a0 (hbox); have n2_ := Gv.a0 ((Gv.ble hg Gv.bw : w.heap.size ≤ gb337)); have n3_ := Gv.a0 ((Gv.ble hg Gv.bw : w.heap.size ≤ gb337)); clear HB; have HB := n0_; have BK337 := n1_; have GW337 := n2_; have GE337 := n3_; clear n0_ n1_ n2_ n3_; clear hb hbox hg; obtain ⟨hcz15_0, hcz15_1, hcz15_2, hcz15_3, hcz15_4, hcz15_5, hcz15_6, hcz15_7, hcz15_8, hcz15_9, hcz15_10, hcz15_11, hcz15_12⟩ := Gv.c13 BK337.out; obtain ⟨hfz15_0, hfz15_1, hfz15_2, hfz15_3, hfz15_4, hfz15_5, hfz15_6, hfz15_7, hfz15_8, hfz15_9, hfz15_10, hfz15_11, hfz15_12⟩ := Gv.f13 BK337.out) | ((with_reducible refine gate_callee (f := 68) rfl ?_); refine goesL_ (some 7) rfl rfl Try.func68 (by kernel_rfl) rfl #[.agg #[.int .i64 a0_0, .int .i64 a0_1, .int .i64 a0_2, .int .i64 a0_3, .int .i64 a0_4], .agg #[.int .i64 a0_5, .int .i64 a0_6, .int .i64 a0_7, .int .i64 a0_8, .int .i64 a0_9]] rfl Gv.lm ?_; (with_reducible refine (impl_areBoth.calls a0_0 a0_1 a0_2 a0_3 a0_4 a0_5 a0_6 a0_7 a0_8 a0_9 true _ A2.out).mono ?_); rintro e w16 ⟨rfl, hb⟩; refine ⟨_, rfl, ?_⟩; have n0_ := Gv.a0 (Gv.bb BK337.out hb); have n1_ := Gv.a0 (below_step Gv.bw hb); clear BK337; clear HB; have BK337 := n0_; have HB := n1_; clear n0_ n1_; (try clear hb); (try clear hb2); (try clear hk); (try clear hi); obtain ⟨hcz17_0, hcz17_1, hcz17_2, hcz17_3, hcz17_4, hcz17_5, hcz17_6, hcz17_7, hcz17_8, hcz17_9, hcz17_10, hcz17_11, hcz17_12⟩ := Gv.c13 BK337.out; obtain ⟨hfz17_0, hfz17_1, hfz17_2, hfz17_3, hfz17_4, hfz17_5, hfz17_6, hfz17_7, hfz17_8, hfz17_9, hfz17_10, hfz17_11, hfz17_12⟩ := Gv.f13 BK337.out) | (go_at_call 69; (with_reducible refine (impl_isByte.calls a0_10 false _ A4.out).mono ?_); rintro e w' ⟨rfl, ⟨nd, rfl⟩⟩))
   go_ret
   exact ⟨Gv.rt, Gv.bw⟩
 ·replace c3 := Bool.eq_false_iff.mpr c3
  subst c3
  have H1 : (some false) = some r := by rw [if_neg (show ¬ (false = true) by decide)] at H; exact H
  clear H
  have H := H1
  clear H1
  obtain rfl := Option.some.inj H
  go_enter Try.func45, Try.ntmps45
  go_wp2_with (first | ((with_reducible refine gate_dst (N := 1) rfl ?_); (try (refine gate_guard (by rfl) ?_; dsimp only)); refine box_event ?hg (N := 1) ?hd (cs := #[.int .i64 a0_0, .int .i64 a0_1, .int .i64 a0_2, .int .i64 a0_3, .int .i64 a0_4, .int .i64 a0_5, .int .i64 a0_6, .int .i64 a0_7, .int .i64 a0_8, .int .i64 a0_9, .int .i64 a0_10, .int .i64 a0_11, .int .i64 a0_12]) (t := 31) ?hr ?_; (case hd => rfl); (case hg => rfl); (case hr => first | (go_simp; done) | (go_simp; rfl)); intro gb337 hg w18 hbox hb; have n0_ := Gv.a0 (below_step Gv.bw hb); have n1_ := Gv.a0 (hbox); have n2_ := Gv.a0 ((Gv.ble hg Gv.bw : w.heap.size ≤ gb337)); have n3_ := Gv.a0 ((Gv.ble hg Gv.bw : w.heap.size ≤ gb337)); clear HB; have HB := n0_; have BK337 := n1_; have GW337 := n2_; have GE337 := n3_; clear n0_ n1_ n2_ n3_; clear hb hbox hg; obtain ⟨hcz19_0, hcz19_1, hcz19_2, hcz19_3, hcz19_4, hcz19_5, hcz19_6, hcz19_7, hcz19_8, hcz19_9, hcz19_10, hcz19_11, hcz19_12⟩ := Gv.c13 BK337.out; obtain ⟨hfz19_0, hfz19_1, hfz19_2, hfz19_3, hfz19_4, hfz19_5, hfz19_6, hfz19_7, hfz19_8, hfz19_9, hfz19_10, hfz19_11, hfz19_12⟩ := Gv.f13 BK337.out) | ((with_reducible refine gate_callee (f := 68) rfl ?_); refine goesL_ (some 7) rfl rfl Try.func68 (by kernel_rfl) rfl #[.agg #[.int .i64 a0_0, .int .i64 a0_1, .int .i64 a0_2, .int .i64 a0_3, .int .i64 a0_4], .agg #[.int .i64 a0_5, .int .i64 a0_6, .int .i64 a0_7, .int .i64 a0_8, .int .i64 a0_9]] rfl Gv.lm ?_; (with_reducible refine (impl_areBoth.calls a0_0 a0_1 a0_2 a0_3 a0_4 a0_5 a0_6 a0_7 a0_8 a0_9 false _ A2.out).mono ?_); rintro e w20 ⟨rfl, hb⟩; refine ⟨_, rfl, ?_⟩; have n0_ := Gv.a0 (Gv.bb BK337.out hb); have n1_ := Gv.a0 (below_step Gv.bw hb); clear BK337; clear HB; have BK337 := n0_; have HB := n1_; clear n0_ n1_; (try clear hb); (try clear hb2); (try clear hk); (try clear hi)))
  go_ret
  exact ⟨Gv.rt, Gv.bw⟩

/-! ### impl_FlowKeyOk: function 15 -/
def impl_FlowKeyOk.f (k : Nat) (a0_0 : Int) (a0_1 : Int) (a0_2 : Int) (a0_3 : Int) (a0_4 : Int) (a0_5 : Int) (a0_6 : Int) (a0_7 : Int) (a0_8 : Int) (a0_9 : Int) (a0_10 : Int) (a0_11 : Int) (a0_12 : Int) (a0_13 : Int) : Option (Bool) := (impl_within.f a0_0 1 8).bind fun t345 => (if t345 = true then ((impl_KeyOk.f k a0_1 a0_2 a0_3 a0_4 a0_5 a0_6 a0_7 a0_8 a0_9 a0_10 a0_11 a0_12 a0_13).bind fun t346 => (some t346)) else (some false))
theorem impl_FlowKeyOk.mono : ∀ a0 a1 a2 a3 a4 a5 a6 a7 a8 a9 a10 a11 a12 a13 k, LeO (impl_FlowKeyOk.f k a0 a1 a2 a3 a4 a5 a6 a7 a8 a9 a10 a11 a12 a13) (impl_FlowKeyOk.f (k + 1) a0 a1 a2 a3 a4 a5 a6 a7 a8 a9 a10 a11 a12 a13) := by
 intro a0 a1 a2 a3 a4 a5 a6 a7 a8 a9 a10 a11 a12 a13 k
 unfold impl_FlowKeyOk.f
 repeat' first
   | (with_reducible exact impl_KeyOk.mono _ _ _ _ _ _ _ _ _ _ _ _ _ _)
   | (with_reducible exact LeO.refl _)
   | (with_reducible exact LeO.none _)
   | (with_reducible refine LeO.ite ?_ ?_)
   | (with_reducible refine LeO.bind ?_ (fun _ => ?_))
   | exact impl_KeyOk.mono _ _ _ _ _ _ _ _ _ _ _ _ _ _
   | exact LeO.none _
   | refine LeO.ite ?_ ?_
   | refine LeO.bind ?_ (fun _ => ?_)
set_option maxHeartbeats 8000000 in
set_option maxRecDepth 100000 in
theorem impl_FlowKeyOk.calls (k : Nat) (a0_0 : Int) (a0_1 : Int) (a0_2 : Int) (a0_3 : Int) (a0_4 : Int) (a0_5 : Int) (a0_6 : Int) (a0_7 : Int) (a0_8 : Int) (a0_9 : Int) (a0_10 : Int) (a0_11 : Int) (a0_12 : Int) (a0_13 : Int) (r : Bool) (w : World) (h : impl_FlowKeyOk.f k a0_0 a0_1 a0_2 a0_3 a0_4 a0_5 a0_6 a0_7 a0_8 a0_9 a0_10 a0_11 a0_12 a0_13 = some r) :
  Calls Try.prog 15 #[.agg #[.int .i64 a0_0, .int .i64 a0_1, .int .i64 a0_2, .int .i64 a0_3, .int .i64 a0_4, .int .i64 a0_5, .int .i64 a0_6, .int .i64 a0_7, .int .i64 a0_8, .int .i64 a0_9, .int .i64 a0_10, .int .i64 a0_11, .int .i64 a0_12, .int .i64 a0_13]] w fun e w' => e = .returned (.bool r) ∧ Below w.heap.size w w' := by
 have hu33 := Try.underlying33
 have hu31 := Try.underlying31
 have HB := Gv.a0 (Below.refl w.heap.size w)
 have H : ((impl_within.f a0_0 1 8).bind fun t345 => (if t345 = true then ((impl_KeyOk.f k a0_1 a0_2 a0_3 a0_4 a0_5 a0_6 a0_7 a0_8 a0_9 a0_10 a0_11 a0_12 a0_13).bind fun t346 => (some t346)) else (some false))) = some r := h
 clear h
 replace H := Option.bind_eq_some_iff.mp H
 obtain ⟨t345, A20, H⟩ := H
 replace H : (if t345 = true then ((impl_KeyOk.f k a0_1 a0_2 a0_3 a0_4 a0_5 a0_6 a0_7 a0_8 a0_9 a0_10 a0_11 a0_12 a0_13).bind fun t346 => (some t346)) else (some false)) = some r := H
 have A2 := Gv.a0 A20
 clear A20
 by_cases c3 : t345 = true
 ·subst c3
  have H1 : ((impl_KeyOk.f k a0_1 a0_2 a0_3 a0_4 a0_5 a0_6 a0_7 a0_8 a0_9 a0_10 a0_11 a0_12 a0_13).bind fun t346 => (some t346)) = some r := by rw [if_pos rfl] at H; exact H
  clear H
  have H := H1
  clear H1
  replace H := Option.bind_eq_some_iff.mp H
  obtain ⟨t346, A40, H⟩ := H
  replace H : (some t346) = some r := H
  have A4 := Gv.a0 A40
  clear A40
  obtain rfl := Option.some.inj H
  go_enter Try.func15, Try.ntmps15
  go_wp2_with (first | ((with_reducible refine gate_dst (N := 1) rfl ?_); refine box_event ?hg (N := 1) ?hd (cs := #[.int .i64 a0_0, .int .i64 a0_1, .int .i64 a0_2, .int .i64 a0_3, .int .i64 a0_4, .int .i64 a0_5, .int .i64 a0_6, .int .i64 a0_7, .int .i64 a0_8, .int .i64 a0_9, .int .i64 a0_10, .int .i64 a0_11, .int .i64 a0_12, .int .i64 a0_13]) (t := 33) ?hr ?_; (case hd => rfl); (case hg => rfl); (case hr => first | (go_simp; done) | (go_simp; rfl)); intro gb344 hg w5 hbox hb; have n0_ := Gv.a0 (below_step Gv.bw hb); have n1_ := Gv.a0 (hbox); have n2_ := Gv.a0 ((Gv.ble hg Gv.bw : w.heap.size ≤ gb344)); have n3_ := Gv.a0 ((Gv.ble hg Gv.bw : w.heap.size ≤ gb344)); clear HB; have HB := n0_; have BK344 := n1_; have GW344 := n2_; have GE344 := n3_; clear n0_ n1_ n2_ n3_; clear hb hbox hg; obtain ⟨hcz6_0, hcz6_1, hcz6_2, hcz6_3, hcz6_4, hcz6_5, hcz6_6, hcz6_7, hcz6_8, hcz6_9, hcz6_10, hcz6_11, hcz6_12, hcz6_13⟩ := Gv.c14 BK344.out; obtain ⟨hfz6_0, hfz6_1, hfz6_2, hfz6_3, hfz6_4, hfz6_5, hfz6_6, hfz6_7, hfz6_8, hfz6_9, hfz6_10, hfz6_11, hfz6_12, hfz6_13⟩ := Gv.f14 BK344.out) | ((with_reducible refine gate_callee (f := 44) rfl ?_); refine goesL_ (some 5) rfl rfl Try.func44 (by kernel_rfl) rfl #[.int .i64 a0_0, .int .i64 1, .int .i64 8] rfl Gv.lm ?_; (with_reducible refine (impl_within.calls a0_0 1 8 true _ A2.out).mono ?_); rintro e w' ⟨rfl, ⟨nd, rfl⟩⟩; refine ⟨_, rfl, ?_⟩) | (go_at_call 45; (with_reducible refine (impl_KeyOk.calls k a0_1 a0_2 a0_3 a0_4 a0_5 a0_6 a0_7 a0_8 a0_9 a0_10 a0_11 a0_12 a0_13 t346 _ A4.out).mono ?_); rintro e w7 ⟨rfl, hb⟩; have n0_ := Gv.a0 (Gv.bb BK344.out hb); have n1_ := Gv.a0 (below_step Gv.bw hb); clear BK344; clear HB; have BK344 := n0_; have HB := n1_; clear n0_ n1_; (try clear hb); (try clear hb2); (try clear hk); (try clear hi)))
  go_ret
  exact ⟨Gv.rt, Gv.bw⟩
 ·replace c3 := Bool.eq_false_iff.mpr c3
  subst c3
  have H1 : (some false) = some r := by rw [if_neg (show ¬ (false = true) by decide)] at H; exact H
  clear H
  have H := H1
  clear H1
  obtain rfl := Option.some.inj H
  go_enter Try.func15, Try.ntmps15
  go_wp2_with (first | ((with_reducible refine gate_dst (N := 1) rfl ?_); refine box_event ?hg (N := 1) ?hd (cs := #[.int .i64 a0_0, .int .i64 a0_1, .int .i64 a0_2, .int .i64 a0_3, .int .i64 a0_4, .int .i64 a0_5, .int .i64 a0_6, .int .i64 a0_7, .int .i64 a0_8, .int .i64 a0_9, .int .i64 a0_10, .int .i64 a0_11, .int .i64 a0_12, .int .i64 a0_13]) (t := 33) ?hr ?_; (case hd => rfl); (case hg => rfl); (case hr => first | (go_simp; done) | (go_simp; rfl)); intro gb344 hg w8 hbox hb; have n0_ := Gv.a0 (below_step Gv.bw hb); have n1_ := Gv.a0 (hbox); have n2_ := Gv.a0 ((Gv.ble hg Gv.bw : w.heap.size ≤ gb344)); have n3_ := Gv.a0 ((Gv.ble hg Gv.bw : w.heap.size ≤ gb344)); clear HB; have HB := n0_; have BK344 := n1_; have GW344 := n2_; have GE344 := n3_; clear n0_ n1_ n2_ n3_; clear hb hbox hg; obtain ⟨hcz9_0, hcz9_1, hcz9_2, hcz9_3, hcz9_4, hcz9_5, hcz9_6, hcz9_7, hcz9_8, hcz9_9, hcz9_10, hcz9_11, hcz9_12, hcz9_13⟩ := Gv.c14 BK344.out; obtain ⟨hfz9_0, hfz9_1, hfz9_2, hfz9_3, hfz9_4, hfz9_5, hfz9_6, hfz9_7, hfz9_8, hfz9_9, hfz9_10, hfz9_11, hfz9_12, hfz9_13⟩ := Gv.f14 BK344.out) | ((with_reducible refine gate_callee (f := 44) rfl ?_); refine goesL_ (some 5) rfl rfl Try.func44 (by kernel_rfl) rfl #[.int .i64 a0_0, .int .i64 1, .int .i64 8] rfl Gv.lm ?_; (with_reducible refine (impl_within.calls a0_0 1 8 false _ A2.out).mono ?_); rintro e w' ⟨rfl, ⟨nd, rfl⟩⟩; refine ⟨_, rfl, ?_⟩))
  go_ret
  exact ⟨Gv.rt, Gv.bw⟩

/-! ### impl_isCells: function 48 -/
def impl_isCells.f (a0 : Int) : Option (Bool) := if a0 = 4 then (some true) else (if a0 = 8 then (some true) else (if a0 = 16 then (some true) else (if a0 = 32 then (some true) else (some (a0 == 64)))))
set_option maxHeartbeats 8000000 in
set_option maxRecDepth 100000 in
theorem impl_isCells.calls (a0 : Int) (r : Bool) (w : World) (h : impl_isCells.f a0 = some r) :
  Calls Try.prog 48 #[.int .i64 a0] w fun e w' => e = .returned (.bool r) ∧ Drawn0 w w' := by
 have H : (if a0 = 4 then (some true) else (if a0 = 8 then (some true) else (if a0 = 16 then (some true) else (if a0 = 32 then (some true) else (some (a0 == 64)))))) = some r := h
 clear h
 by_cases c2 : a0 = 4
 ·rw [if_pos c2] at H
  have c2b0 : (a0 == 4) = true := beq_iff_eq.mpr c2
  have c2b1 : (a0 != 4) = false := bne_eq_false_iff_eq.mpr c2
  clear c2
  obtain rfl := Option.some.inj H
  go_enter Try.func48, Try.ntmps48
  go_wp2
  go_ret
  exact ⟨by first | rfl | (simp; done) | (simp [Int.tdiv_eq_ediv_of_nonneg]; done) | (simp [*]; done), by repeat (first | exact Drawn0.refl _ | apply Drawn0.step)⟩
 ·rw [if_neg c2] at H
  have c2b0 : (a0 == 4) = false := beq_eq_false_iff_ne.mpr c2
  have c2b1 : (a0 != 4) = true := bne_iff_ne.mpr c2
  by_cases c3 : a0 = 8
  ·rw [if_pos c3] at H
   have c3b0 : (a0 == 8) = true := beq_iff_eq.mpr c3
   have c3b1 : (a0 != 8) = false := bne_eq_false_iff_eq.mpr c3
   clear c3
   obtain rfl := Option.some.inj H
   go_enter Try.func48, Try.ntmps48
   go_wp2
   go_ret
   exact ⟨by first | rfl | (simp; done) | (simp [Int.tdiv_eq_ediv_of_nonneg]; done) | (simp [*]; done), by repeat (first | exact Drawn0.refl _ | apply Drawn0.step)⟩
  ·rw [if_neg c3] at H
   have c3b0 : (a0 == 8) = false := beq_eq_false_iff_ne.mpr c3
   have c3b1 : (a0 != 8) = true := bne_iff_ne.mpr c3
   by_cases c4 : a0 = 16
   ·rw [if_pos c4] at H
    have c4b0 : (a0 == 16) = true := beq_iff_eq.mpr c4
    have c4b1 : (a0 != 16) = false := bne_eq_false_iff_eq.mpr c4
    clear c4
    obtain rfl := Option.some.inj H
    go_enter Try.func48, Try.ntmps48
    go_wp2
    go_ret
    exact ⟨by first | rfl | (simp; done) | (simp [Int.tdiv_eq_ediv_of_nonneg]; done) | (simp [*]; done), by repeat (first | exact Drawn0.refl _ | apply Drawn0.step)⟩
   ·rw [if_neg c4] at H
    have c4b0 : (a0 == 16) = false := beq_eq_false_iff_ne.mpr c4
    have c4b1 : (a0 != 16) = true := bne_iff_ne.mpr c4
    by_cases c5 : a0 = 32
    ·rw [if_pos c5] at H
     have c5b0 : (a0 == 32) = true := beq_iff_eq.mpr c5
     have c5b1 : (a0 != 32) = false := bne_eq_false_iff_eq.mpr c5
     clear c5
     obtain rfl := Option.some.inj H
     go_enter Try.func48, Try.ntmps48
     go_wp2
     go_ret
     exact ⟨by first | rfl | (simp; done) | (simp [Int.tdiv_eq_ediv_of_nonneg]; done) | (simp [*]; done), by repeat (first | exact Drawn0.refl _ | apply Drawn0.step)⟩
    ·rw [if_neg c5] at H
     have c5b0 : (a0 == 32) = false := beq_eq_false_iff_ne.mpr c5
     have c5b1 : (a0 != 32) = true := bne_iff_ne.mpr c5
     obtain rfl := Option.some.inj H
     go_enter Try.func48, Try.ntmps48
     go_wp2
     go_ret
     exact ⟨by first | rfl | (simp; done) | (simp [Int.tdiv_eq_ediv_of_nonneg]; done) | (simp [*]; done), by repeat (first | exact Drawn0.refl _ | apply Drawn0.step)⟩

end Go.Proofs.Ytfnpodebjejhpaa.PTk
