/- Plain Lean functions of a law's Go functions, their contracts, by a program of this session (wip/pr.py over the kit's print). -/
import Derived.Test.YtfnpodebjejhpaaPTax0
import Derived.Test.YtfnpodebjejhpaaPTax2
import Derived.Test.YtfnpodebjejhpaaPTax3
import Derived.Test.YtfnpodebjejhpaaPTax4
namespace Go.Proofs.Ytfnpodebjejhpaa.PTa
open Go.RowKit Go.Proofs.YtfnpodebjejhpaaW.PrintWords Go.Proofs.YtfnpodebjejhpaaW.PrintLast Go.Proofs.YtfnpodebjejhpaaW.PrintMore
attribute [local go_sem] max2_int min2_int max_two min_two max_three min_three max_four min_four   -- for this text's walks alone
set_option linter.unusedVariables false
set_option linter.unusedSimpArgs false

attribute [local go_sem high] eqA75
/-! ### spec_TableOk: function 24 -/
mutual
def spec_TableOk.j0 : Nat → Int → Bool → Int → List (S75) → Option (Bool)
 | 0, _, _, _, _ => none
 | k + 1, x3, x37, x225000, x225001 => if x37 = true then (some false) else ((spec_l11Count.f k x225000 x225001).bind fun t225 => (if (wrap64 (4 * t225)) > (wrap64 (3 * x3)) then (some false) else (spec_TableOk.l0 k x3 0 x225000 x225001)))
def spec_TableOk.l0 : Nat → Int → Int → Int → List (S75) → Option (Bool)
 | 0, _, _, _, _ => none
 | k + 1, x3, x4, x225000, x225001 => if x4 < x3 then (if 0 ≤ x4 then (if x4 < (x225001.length : Int) then (if ((rd_T75 x225001 x4).f0 = true) then ((spec_FlowKeyOk.f ((rd_T75 x225001 x4).f1.f0) ((rd_T75 x225001 x4).f1.f1.f0.f0) ((rd_T75 x225001 x4).f1.f1.f0.f1) ((rd_T75 x225001 x4).f1.f1.f0.f2) ((rd_T75 x225001 x4).f1.f1.f0.f3) ((rd_T75 x225001 x4).f1.f1.f0.f4) ((rd_T75 x225001 x4).f1.f1.f1.f0) ((rd_T75 x225001 x4).f1.f1.f1.f1) ((rd_T75 x225001 x4).f1.f1.f1.f2) ((rd_T75 x225001 x4).f1.f1.f1.f3) ((rd_T75 x225001 x4).f1.f1.f1.f4) ((rd_T75 x225001 x4).f1.f1.f2) ((rd_T75 x225001 x4).f1.f1.f3) ((rd_T75 x225001 x4).f1.f1.f4)).bind fun t228 => (if t228 = true then (if ((rd_T75 x225001 x4).f2) < 0 then (spec_TableOk.j2 k x3 x4 true x225000 x225001 ((rd_T75 x225001 x4).f0) ((rd_T75 x225001 x4).f1.f0) ((rd_T75 x225001 x4).f1.f1.f0.f0) ((rd_T75 x225001 x4).f1.f1.f0.f1) ((rd_T75 x225001 x4).f1.f1.f0.f2) ((rd_T75 x225001 x4).f1.f1.f0.f3) ((rd_T75 x225001 x4).f1.f1.f0.f4) ((rd_T75 x225001 x4).f1.f1.f1.f0) ((rd_T75 x225001 x4).f1.f1.f1.f1) ((rd_T75 x225001 x4).f1.f1.f1.f2) ((rd_T75 x225001 x4).f1.f1.f1.f3) ((rd_T75 x225001 x4).f1.f1.f1.f4) ((rd_T75 x225001 x4).f1.f1.f2) ((rd_T75 x225001 x4).f1.f1.f3) ((rd_T75 x225001 x4).f1.f1.f4) ((rd_T75 x225001 x4).f2)) else (if ((rd_T75 x225001 x4).f2) > 1000000000000 then (spec_TableOk.j2 k x3 x4 true x225000 x225001 ((rd_T75 x225001 x4).f0) ((rd_T75 x225001 x4).f1.f0) ((rd_T75 x225001 x4).f1.f1.f0.f0) ((rd_T75 x225001 x4).f1.f1.f0.f1) ((rd_T75 x225001 x4).f1.f1.f0.f2) ((rd_T75 x225001 x4).f1.f1.f0.f3) ((rd_T75 x225001 x4).f1.f1.f0.f4) ((rd_T75 x225001 x4).f1.f1.f1.f0) ((rd_T75 x225001 x4).f1.f1.f1.f1) ((rd_T75 x225001 x4).f1.f1.f1.f2) ((rd_T75 x225001 x4).f1.f1.f1.f3) ((rd_T75 x225001 x4).f1.f1.f1.f4) ((rd_T75 x225001 x4).f1.f1.f2) ((rd_T75 x225001 x4).f1.f1.f3) ((rd_T75 x225001 x4).f1.f1.f4) ((rd_T75 x225001 x4).f2)) else ((spec_l11Place.f k x225000 x225001 ((rd_T75 x225001 x4).f1.f0) ((rd_T75 x225001 x4).f1.f1.f0.f0) ((rd_T75 x225001 x4).f1.f1.f0.f1) ((rd_T75 x225001 x4).f1.f1.f0.f2) ((rd_T75 x225001 x4).f1.f1.f0.f3) ((rd_T75 x225001 x4).f1.f1.f0.f4) ((rd_T75 x225001 x4).f1.f1.f1.f0) ((rd_T75 x225001 x4).f1.f1.f1.f1) ((rd_T75 x225001 x4).f1.f1.f1.f2) ((rd_T75 x225001 x4).f1.f1.f1.f3) ((rd_T75 x225001 x4).f1.f1.f1.f4) ((rd_T75 x225001 x4).f1.f1.f2) ((rd_T75 x225001 x4).f1.f1.f3) ((rd_T75 x225001 x4).f1.f1.f4)).bind fun t229 => (spec_TableOk.j2 k x3 x4 (t229 != x4) x225000 x225001 ((rd_T75 x225001 x4).f0) ((rd_T75 x225001 x4).f1.f0) ((rd_T75 x225001 x4).f1.f1.f0.f0) ((rd_T75 x225001 x4).f1.f1.f0.f1) ((rd_T75 x225001 x4).f1.f1.f0.f2) ((rd_T75 x225001 x4).f1.f1.f0.f3) ((rd_T75 x225001 x4).f1.f1.f0.f4) ((rd_T75 x225001 x4).f1.f1.f1.f0) ((rd_T75 x225001 x4).f1.f1.f1.f1) ((rd_T75 x225001 x4).f1.f1.f1.f2) ((rd_T75 x225001 x4).f1.f1.f1.f3) ((rd_T75 x225001 x4).f1.f1.f1.f4) ((rd_T75 x225001 x4).f1.f1.f2) ((rd_T75 x225001 x4).f1.f1.f3) ((rd_T75 x225001 x4).f1.f1.f4) ((rd_T75 x225001 x4).f2))))) else (spec_TableOk.j2 k x3 x4 true x225000 x225001 ((rd_T75 x225001 x4).f0) ((rd_T75 x225001 x4).f1.f0) ((rd_T75 x225001 x4).f1.f1.f0.f0) ((rd_T75 x225001 x4).f1.f1.f0.f1) ((rd_T75 x225001 x4).f1.f1.f0.f2) ((rd_T75 x225001 x4).f1.f1.f0.f3) ((rd_T75 x225001 x4).f1.f1.f0.f4) ((rd_T75 x225001 x4).f1.f1.f1.f0) ((rd_T75 x225001 x4).f1.f1.f1.f1) ((rd_T75 x225001 x4).f1.f1.f1.f2) ((rd_T75 x225001 x4).f1.f1.f1.f3) ((rd_T75 x225001 x4).f1.f1.f1.f4) ((rd_T75 x225001 x4).f1.f1.f2) ((rd_T75 x225001 x4).f1.f1.f3) ((rd_T75 x225001 x4).f1.f1.f4) ((rd_T75 x225001 x4).f2)))) else (if (((rd_T75 x225001 x4).f0) || ((!(((rd_T75 x225001 x4).f1.f0) == 0) || (((!(((rd_T75 x225001 x4).f1.f1.f0.f0) == 0) || (!(((rd_T75 x225001 x4).f1.f1.f0.f1) == 0) || (!(((rd_T75 x225001 x4).f1.f1.f0.f2) == 0) || (!(((rd_T75 x225001 x4).f1.f1.f0.f3) == 0) || (!(((rd_T75 x225001 x4).f1.f1.f0.f4) == 0)))))) || ((!(((rd_T75 x225001 x4).f1.f1.f1.f0) == 0) || (!(((rd_T75 x225001 x4).f1.f1.f1.f1) == 0) || (!(((rd_T75 x225001 x4).f1.f1.f1.f2) == 0) || (!(((rd_T75 x225001 x4).f1.f1.f1.f3) == 0) || (!(((rd_T75 x225001 x4).f1.f1.f1.f4) == 0)))))) || (!(((rd_T75 x225001 x4).f1.f1.f2) == 0) || (!(((rd_T75 x225001 x4).f1.f1.f3) == 0) || (!(((rd_T75 x225001 x4).f1.f1.f4) == 0)))))))) || (!(((rd_T75 x225001 x4).f2) == 0)))) = true then (some false) else (spec_TableOk.l0 k x3 (wrap64 (x4 + 1)) x225000 x225001))) else (none)) else (none)) else (some true)
def spec_TableOk.j2 : Nat → Int → Int → Bool → Int → List (S75) → Bool → Int → Int → Int → Int → Int → Int → Int → Int → Int → Int → Int → Int → Int → Int → Int → Option (Bool)
 | 0, _, _, _, _, _, _, _, _, _, _, _, _, _, _, _, _, _, _, _, _, _ => none
 | k + 1, x3, x4, x81, x225000, x225001, x228000, x228001, x228002, x228003, x228004, x228005, x228006, x228007, x228008, x228009, x228010, x228011, x228012, x228013, x228014, x228015 => if x81 = true then (some false) else ((spec_l11Home.f k x225000 x225001 x228001 x228002 x228003 x228004 x228005 x228006 x228007 x228008 x228009 x228010 x228011 x228012 x228013 x228014).bind fun t230 => (spec_TableOk.l1 k x3 x4 t230 x225000 x225001))
def spec_TableOk.l1 : Nat → Int → Int → Int → Int → List (S75) → Option (Bool)
 | 0, _, _, _, _, _ => none
 | k + 1, x3, x4, x6, x225000, x225001 => if x6 = x4 then (spec_TableOk.l0 k x3 (wrap64 (x4 + 1)) x225000 x225001) else (if 0 ≤ x6 then (if x6 < (x225001.length : Int) then (if ((rd_T75 x225001 x6).f0 = true) then (if x3 = 0 then (none) else (spec_TableOk.l1 k x3 x4 (Int.tmod (wrap64 (x6 + 1)) x3) x225000 x225001)) else (some false)) else (none)) else (none))
end
def spec_TableOk.f (k : Nat) (a0_0 : Int) (l0_1 : List (S75)) : Option (Bool) := if a0_0 < 0 then (spec_TableOk.j0 k (l0_1.length : Int) true a0_0 l0_1) else (if a0_0 > 4294967295 then (spec_TableOk.j0 k (l0_1.length : Int) true a0_0 l0_1) else (if (l0_1.length : Int) = 4 then (spec_TableOk.j0 k (l0_1.length : Int) false a0_0 l0_1) else (if (l0_1.length : Int) = 8 then (spec_TableOk.j0 k (l0_1.length : Int) false a0_0 l0_1) else (if (l0_1.length : Int) = 16 then (spec_TableOk.j0 k (l0_1.length : Int) false a0_0 l0_1) else (if (l0_1.length : Int) = 32 then (spec_TableOk.j0 k (l0_1.length : Int) false a0_0 l0_1) else (spec_TableOk.j0 k (l0_1.length : Int) ((l0_1.length : Int) != 64) a0_0 l0_1))))))
theorem spec_TableOk.mono_l : ∀ k, (∀ y0 y1 y2 y3, LeO (spec_TableOk.j0 k y0 y1 y2 y3) (spec_TableOk.j0 (k + 1) y0 y1 y2 y3)) ∧ (∀ y0 y1 y2 y3, LeO (spec_TableOk.l0 k y0 y1 y2 y3) (spec_TableOk.l0 (k + 1) y0 y1 y2 y3)) ∧ (∀ y0 y1 y2 y3 y4 y5 y6 y7 y8 y9 y10 y11 y12 y13 y14 y15 y16 y17 y18 y19 y20, LeO (spec_TableOk.j2 k y0 y1 y2 y3 y4 y5 y6 y7 y8 y9 y10 y11 y12 y13 y14 y15 y16 y17 y18 y19 y20) (spec_TableOk.j2 (k + 1) y0 y1 y2 y3 y4 y5 y6 y7 y8 y9 y10 y11 y12 y13 y14 y15 y16 y17 y18 y19 y20)) ∧ (∀ y0 y1 y2 y3 y4, LeO (spec_TableOk.l1 k y0 y1 y2 y3 y4) (spec_TableOk.l1 (k + 1) y0 y1 y2 y3 y4))
 | 0 => ⟨fun _ _ _ _ r h => by simp [spec_TableOk.j0] at h, fun _ _ _ _ r h => by simp [spec_TableOk.l0] at h, fun _ _ _ _ _ _ _ _ _ _ _ _ _ _ _ _ _ _ _ _ _ r h => by simp [spec_TableOk.j2] at h, fun _ _ _ _ _ r h => by simp [spec_TableOk.l1] at h⟩
 | k + 1 => by
  obtain ⟨ih0, ih1, ih2, ih3⟩ := spec_TableOk.mono_l k
  refine ⟨?_, ?_, ?_, ?_⟩
  ·intro y0 y1 y2 y3
   unfold spec_TableOk.j0
   repeat' first
   | (with_reducible exact ih0 _ _ _ _)
   | (with_reducible exact ih1 _ _ _ _)
   | (with_reducible exact ih2 _ _ _ _ _ _ _ _ _ _ _ _ _ _ _ _ _ _ _ _ _)
   | (with_reducible exact ih3 _ _ _ _ _)
   | (with_reducible exact spec_l11Count.mono _ _ _)
   | (with_reducible exact spec_l11Home.mono _ _ _ _ _ _ _ _ _ _ _ _ _ _ _ _ _)
   | (with_reducible exact spec_l11Place.mono _ _ _ _ _ _ _ _ _ _ _ _ _ _ _ _ _)
   | (with_reducible exact LeO.refl _)
   | (with_reducible exact LeO.none _)
   | (with_reducible refine LeO.ite ?_ ?_)
   | (with_reducible refine LeO.bind ?_ (fun _ => ?_))
   | exact ih0 _ _ _ _
   | exact ih1 _ _ _ _
   | exact ih2 _ _ _ _ _ _ _ _ _ _ _ _ _ _ _ _ _ _ _ _ _
   | exact ih3 _ _ _ _ _
   | exact spec_l11Count.mono _ _ _
   | exact spec_l11Home.mono _ _ _ _ _ _ _ _ _ _ _ _ _ _ _ _ _
   | exact spec_l11Place.mono _ _ _ _ _ _ _ _ _ _ _ _ _ _ _ _ _
   | exact LeO.none _
   | refine LeO.ite ?_ ?_
   | refine LeO.bind ?_ (fun _ => ?_)
  ·intro y0 y1 y2 y3
   unfold spec_TableOk.l0
   repeat' first
   | (with_reducible exact ih0 _ _ _ _)
   | (with_reducible exact ih1 _ _ _ _)
   | (with_reducible exact ih2 _ _ _ _ _ _ _ _ _ _ _ _ _ _ _ _ _ _ _ _ _)
   | (with_reducible exact ih3 _ _ _ _ _)
   | (with_reducible exact spec_l11Count.mono _ _ _)
   | (with_reducible exact spec_l11Home.mono _ _ _ _ _ _ _ _ _ _ _ _ _ _ _ _ _)
   | (with_reducible exact spec_l11Place.mono _ _ _ _ _ _ _ _ _ _ _ _ _ _ _ _ _)
   | (with_reducible exact LeO.refl _)
   | (with_reducible exact LeO.none _)
   | (with_reducible refine LeO.ite ?_ ?_)
   | (with_reducible refine LeO.bind ?_ (fun _ => ?_))
   | exact ih0 _ _ _ _
   | exact ih1 _ _ _ _
   | exact ih2 _ _ _ _ _ _ _ _ _ _ _ _ _ _ _ _ _ _ _ _ _
   | exact ih3 _ _ _ _ _
   | exact spec_l11Count.mono _ _ _
   | exact spec_l11Home.mono _ _ _ _ _ _ _ _ _ _ _ _ _ _ _ _ _
   | exact spec_l11Place.mono _ _ _ _ _ _ _ _ _ _ _ _ _ _ _ _ _
   | exact LeO.none _
   | refine LeO.ite ?_ ?_
   | refine LeO.bind ?_ (fun _ => ?_)
  ·intro y0 y1 y2 y3 y4 y5 y6 y7 y8 y9 y10 y11 y12 y13 y14 y15 y16 y17 y18 y19 y20
   unfold spec_TableOk.j2
   repeat' first
   | (with_reducible exact ih0 _ _ _ _)
   | (with_reducible exact ih1 _ _ _ _)
   | (with_reducible exact ih2 _ _ _ _ _ _ _ _ _ _ _ _ _ _ _ _ _ _ _ _ _)
   | (with_reducible exact ih3 _ _ _ _ _)
   | (with_reducible exact spec_l11Count.mono _ _ _)
   | (with_reducible exact spec_l11Home.mono _ _ _ _ _ _ _ _ _ _ _ _ _ _ _ _ _)
   | (with_reducible exact spec_l11Place.mono _ _ _ _ _ _ _ _ _ _ _ _ _ _ _ _ _)
   | (with_reducible exact LeO.refl _)
   | (with_reducible exact LeO.none _)
   | (with_reducible refine LeO.ite ?_ ?_)
   | (with_reducible refine LeO.bind ?_ (fun _ => ?_))
   | exact ih0 _ _ _ _
   | exact ih1 _ _ _ _
   | exact ih2 _ _ _ _ _ _ _ _ _ _ _ _ _ _ _ _ _ _ _ _ _
   | exact ih3 _ _ _ _ _
   | exact spec_l11Count.mono _ _ _
   | exact spec_l11Home.mono _ _ _ _ _ _ _ _ _ _ _ _ _ _ _ _ _
   | exact spec_l11Place.mono _ _ _ _ _ _ _ _ _ _ _ _ _ _ _ _ _
   | exact LeO.none _
   | refine LeO.ite ?_ ?_
   | refine LeO.bind ?_ (fun _ => ?_)
  ·intro y0 y1 y2 y3 y4
   unfold spec_TableOk.l1
   repeat' first
   | (with_reducible exact ih0 _ _ _ _)
   | (with_reducible exact ih1 _ _ _ _)
   | (with_reducible exact ih2 _ _ _ _ _ _ _ _ _ _ _ _ _ _ _ _ _ _ _ _ _)
   | (with_reducible exact ih3 _ _ _ _ _)
   | (with_reducible exact spec_l11Count.mono _ _ _)
   | (with_reducible exact spec_l11Home.mono _ _ _ _ _ _ _ _ _ _ _ _ _ _ _ _ _)
   | (with_reducible exact spec_l11Place.mono _ _ _ _ _ _ _ _ _ _ _ _ _ _ _ _ _)
   | (with_reducible exact LeO.refl _)
   | (with_reducible exact LeO.none _)
   | (with_reducible refine LeO.ite ?_ ?_)
   | (with_reducible refine LeO.bind ?_ (fun _ => ?_))
   | exact ih0 _ _ _ _
   | exact ih1 _ _ _ _
   | exact ih2 _ _ _ _ _ _ _ _ _ _ _ _ _ _ _ _ _ _ _ _ _
   | exact ih3 _ _ _ _ _
   | exact spec_l11Count.mono _ _ _
   | exact spec_l11Home.mono _ _ _ _ _ _ _ _ _ _ _ _ _ _ _ _ _
   | exact spec_l11Place.mono _ _ _ _ _ _ _ _ _ _ _ _ _ _ _ _ _
   | exact LeO.none _
   | refine LeO.ite ?_ ?_
   | refine LeO.bind ?_ (fun _ => ?_)
theorem spec_TableOk.mono : ∀ a0 a1 k, LeO (spec_TableOk.f k a0 a1) (spec_TableOk.f (k + 1) a0 a1) := by
 intro a0 a1 k
 obtain ⟨ih0, ih1, ih2, ih3⟩ := spec_TableOk.mono_l k
 unfold spec_TableOk.f
 repeat' first
   | (with_reducible exact ih0 _ _ _ _)
   | (with_reducible exact ih1 _ _ _ _)
   | (with_reducible exact ih2 _ _ _ _ _ _ _ _ _ _ _ _ _ _ _ _ _ _ _ _ _)
   | (with_reducible exact ih3 _ _ _ _ _)
   | (with_reducible exact spec_l11Count.mono _ _ _)
   | (with_reducible exact spec_l11Home.mono _ _ _ _ _ _ _ _ _ _ _ _ _ _ _ _ _)
   | (with_reducible exact spec_l11Place.mono _ _ _ _ _ _ _ _ _ _ _ _ _ _ _ _ _)
   | (with_reducible exact LeO.refl _)
   | (with_reducible exact LeO.none _)
   | (with_reducible refine LeO.ite ?_ ?_)
   | (with_reducible refine LeO.bind ?_ (fun _ => ?_))
   | exact ih0 _ _ _ _
   | exact ih1 _ _ _ _
   | exact ih2 _ _ _ _ _ _ _ _ _ _ _ _ _ _ _ _ _ _ _ _ _
   | exact ih3 _ _ _ _ _
   | exact spec_l11Count.mono _ _ _
   | exact spec_l11Home.mono _ _ _ _ _ _ _ _ _ _ _ _ _ _ _ _ _
   | exact spec_l11Place.mono _ _ _ _ _ _ _ _ _ _ _ _ _ _ _ _ _
   | exact LeO.none _
   | refine LeO.ite ?_ ?_
   | refine LeO.bind ?_ (fun _ => ?_)
set_option maxHeartbeats 8000000 in
set_option maxRecDepth 100000 in
theorem spec_TableOk.calls (k : Nat) (a0_0 : Int) (A0_1 : Option Addr) (c0_1 : Nat) (l0_1 : List (S75)) (r : Bool) (w : World) (hr0_1 : Kd.C k75 w A0_1 l0_1.length l0_1) (hc0_1 : l0_1.length ≤ c0_1) (h : spec_TableOk.f k a0_0 l0_1 = some r) :
  Calls Try.prog 24 #[.agg #[.int .i64 a0_0, .slice A0_1 l0_1.length c0_1]] w fun e w' => e = .returned (.bool r) ∧ Below w.heap.size w w' := by
 have hu40 := Try.underlying40
 have hu75 := Try.underlying75
 have hu33 := Try.underlying33
 have HR0_1 := Gv.a0 hr0_1
 have HC0_1 := Gv.a0 hc0_1
 clear hr0_1 hc0_1
 have HB := Gv.a0 (Below.refl w.heap.size w)
 have H : (if a0_0 < 0 then (spec_TableOk.j0 k (l0_1.length : Int) true a0_0 l0_1) else (if a0_0 > 4294967295 then (spec_TableOk.j0 k (l0_1.length : Int) true a0_0 l0_1) else (if (l0_1.length : Int) = 4 then (spec_TableOk.j0 k (l0_1.length : Int) false a0_0 l0_1) else (if (l0_1.length : Int) = 8 then (spec_TableOk.j0 k (l0_1.length : Int) false a0_0 l0_1) else (if (l0_1.length : Int) = 16 then (spec_TableOk.j0 k (l0_1.length : Int) false a0_0 l0_1) else (if (l0_1.length : Int) = 32 then (spec_TableOk.j0 k (l0_1.length : Int) false a0_0 l0_1) else (spec_TableOk.j0 k (l0_1.length : Int) ((l0_1.length : Int) != 64) a0_0 l0_1))))))) = some r := h
 clear h
 have HC2 := Gv.a0 H
 clear H
 go_enter Try.func24, Try.ntmps24
 go_upto_region 2 with (first | ((with_reducible refine gate_dst (N := 1) rfl ?_); refine box_event ?hg (N := 1) ?hd (cs := #[.int .i64 a0_0, .slice A0_1 l0_1.length c0_1]) (t := 40) ?hr ?_; (case hd => rfl); (case hg => rfl); (case hr => first | (go_simp; done) | (go_simp; rfl)); intro gb224 hg w3 hbox hb; have n0_ := Gv.a0 (below_step Gv.bw hb); have n1_ := Gv.a0 (hbox); have n2_ := Gv.a0 ((Gv.ble hg Gv.bw : w.heap.size ≤ gb224)); have n3_ := Gv.a0 ((Gv.ble hg Gv.bw : w.heap.size ≤ gb224)); clear HB; have HB := n0_; have BK224 := n1_; have GW224 := n2_; have GE224 := n3_; clear n0_ n1_ n2_ n3_; clear hb hbox hg; have hcz4_0 : w3.cell? ⟨gb224, 0, none⟩ = some (.int .i64 a0_0) := (blk_cell BK224.out 0).trans rfl; have hcz4_1 : w3.cell? ⟨gb224, 1, none⟩ = some (.slice A0_1 l0_1.length c0_1) := (blk_cell BK224.out 1).trans rfl; have hfz4_0 := blk_frozen BK224.out 0; have hfz4_1 := blk_frozen BK224.out 1) | ((with_reducible refine gate_store (t := 40) (p := 1) rfl ?_); refine Gv.store_event rfl rfl rfl rfl rfl (Gv.kb BK224.out) (by kernel_rfl) rfl (by simp; and_intros <;> rfl) ?_; intro w3s hbox hoth hbel; have n0_ := Gv.a0 (hbox); have n1_ := Gv.a0 (hbel w Gv.bw GE224.out); clear BK224 HB; have BK224 := n0_; have HB := n1_; clear n0_ n1_ hbox hoth hbel; (try clear hcz4_0 hcz4_1 hfz4_0 hfz4_1); have hcz4_0 : w3s.cell? ⟨gb224, 0, none⟩ = some (.int .i64 a0_0) := (blk_cell BK224.out 0).trans rfl; have hcz4_1 : w3s.cell? ⟨gb224, 1, none⟩ = some (.slice A0_1 l0_1.length c0_1) := (blk_cell BK224.out 1).trans rfl; have hfz4_0 := blk_frozen BK224.out 0; have hfz4_1 := blk_frozen BK224.out 1) | ((with_reducible refine Gv.gate_load (t := 75) rfl ?_); (try (refine gate_guard (by rfl) ?_; dsimp only)); refine wpList_load_row rfl 75 _ rfl gb227 rfl 75 _ _ _ (Gv.kbp BK227.out) Try.underlying75 rfl (by kernel_rfl) ?_))
 (try simp only [Act.put, List.setIfInBounds_toArray, List.set_cons_zero, List.set_cons_succ])
 go_cut [37] (fun v37 wc => ∃ (kq : Nat) (x37_1 : Bool), v37 = .bool x37_1 ∧ Aside0 (spec_TableOk.j0 kq (l0_1.length : Int) x37_1 a0_0 l0_1 = some r) ∧ Aside0 (kq ≤ k) ∧ Aside0 (wc.heap[gb224]? = some (.cells #[.int .i64 a0_0, (.slice A0_1 l0_1.length c0_1)] 40 (0, 0))) ∧ Aside0 (Below w.heap.size w wc))
 case first =>
  have H := HC2.out
  clear HC2
  by_cases c5 : a0_0 < 0
  ·rw [if_pos c5] at H
   have c5b0 : decide (a0_0 < 0) = true := decide_eq_true c5
   clear c5
   (first | rw [c5b0] | (simp only [i64_w, i32_w]; rw [c5b0]) | skip)
   have H' := Gv.a0 H
   clear H
   have hcz6_0 : w3.cell? ⟨gb224, 0, none⟩ = some (.int .i64 a0_0) := (blk_cell BK224.out 0).trans rfl
   have hcz6_1 : w3.cell? ⟨gb224, 1, none⟩ = some (.slice A0_1 l0_1.length c0_1) := (blk_cell BK224.out 1).trans rfl
   have hfz6_0 := blk_frozen BK224.out 0
   have hfz6_1 := blk_frozen BK224.out 1
   go_wp2_with (first | ((with_reducible refine Gv.gate_load (t := 75) rfl ?_); (try (refine gate_guard (by rfl) ?_; dsimp only)); refine wpList_load_row rfl 75 _ rfl gb227 rfl 75 _ _ _ (Gv.kbp BK227.out) Try.underlying75 rfl (by kernel_rfl) ?_))
   go_meet
   case rel => exact ⟨_, (true), (by first | rfl | (simp; done) | (simp [Int.tdiv_eq_ediv_of_nonneg]; done) | (simp [*]; done)), H', ⟨by first | omega | exact Nat.le_refl _⟩, ⟨by (with_reducible repeat (first | refine blk_drewN ?_ _ | refine blk_drew ?_ | refine blk_alloc ?_ _)); exact BK224.out⟩, ⟨by repeat (first | (with_reducible first | exact HB.out | apply below_alloc | apply pw_below_drewN | apply below_drew1 | refine below_set ?_ GE224.out) | exact HB.out)⟩⟩
  ·rw [if_neg c5] at H
   have c5b0 : decide (a0_0 < 0) = false := decide_eq_false c5
   clear c5
   (first | rw [c5b0] | (simp only [i64_w, i32_w]; rw [c5b0]) | skip)
   by_cases c7 : a0_0 > 4294967295
   ·rw [if_pos c7] at H
    have c7b0 : decide (4294967295 < a0_0) = true := decide_eq_true c7
    clear c7
    have H' := Gv.a0 H
    clear H
    have hcz8_0 : w3.cell? ⟨gb224, 0, none⟩ = some (.int .i64 a0_0) := (blk_cell BK224.out 0).trans rfl
    have hcz8_1 : w3.cell? ⟨gb224, 1, none⟩ = some (.slice A0_1 l0_1.length c0_1) := (blk_cell BK224.out 1).trans rfl
    have hfz8_0 := blk_frozen BK224.out 0
    have hfz8_1 := blk_frozen BK224.out 1
    go_wp2_with (first | ((with_reducible refine Gv.gate_load (t := 75) rfl ?_); (try (refine gate_guard (by rfl) ?_; dsimp only)); refine wpList_load_row rfl 75 _ rfl gb227 rfl 75 _ _ _ (Gv.kbp BK227.out) Try.underlying75 rfl (by kernel_rfl) ?_))
    go_meet
    case rel => exact ⟨_, (true), (by first | rfl | (simp; done) | (simp [Int.tdiv_eq_ediv_of_nonneg]; done) | (simp [*]; done)), H', ⟨by first | omega | exact Nat.le_refl _⟩, ⟨by (with_reducible repeat (first | refine blk_drewN ?_ _ | refine blk_drew ?_ | refine blk_alloc ?_ _)); exact BK224.out⟩, ⟨by repeat (first | (with_reducible first | exact HB.out | apply below_alloc | apply pw_below_drewN | apply below_drew1 | refine below_set ?_ GE224.out) | exact HB.out)⟩⟩
   ·rw [if_neg c7] at H
    have c7b0 : decide (4294967295 < a0_0) = false := decide_eq_false c7
    clear c7
    by_cases c9 : (l0_1.length : Int) = 4
    ·rw [if_pos c9] at H
     have c9b0 : ((l0_1.length : Int) == 4) = true := beq_iff_eq.mpr c9
     have c9b1 : ((l0_1.length : Int) != 4) = false := bne_eq_false_iff_eq.mpr c9
     clear c9
     have H' := Gv.a0 H
     clear H
     have hcz10_0 : w3.cell? ⟨gb224, 0, none⟩ = some (.int .i64 a0_0) := (blk_cell BK224.out 0).trans rfl
     have hcz10_1 : w3.cell? ⟨gb224, 1, none⟩ = some (.slice A0_1 l0_1.length c0_1) := (blk_cell BK224.out 1).trans rfl
     have hfz10_0 := blk_frozen BK224.out 0
     have hfz10_1 := blk_frozen BK224.out 1
     go_wp2_with (first | ((with_reducible refine Gv.gate_load (t := 75) rfl ?_); (try (refine gate_guard (by rfl) ?_; dsimp only)); refine wpList_load_row rfl 75 _ rfl gb227 rfl 75 _ _ _ (Gv.kbp BK227.out) Try.underlying75 rfl (by kernel_rfl) ?_))
     go_meet
     case rel => exact ⟨_, (false), (by first | rfl | (simp; done) | (simp [Int.tdiv_eq_ediv_of_nonneg]; done) | (simp [*]; done)), H', ⟨by first | omega | exact Nat.le_refl _⟩, ⟨by (with_reducible repeat (first | refine blk_drewN ?_ _ | refine blk_drew ?_ | refine blk_alloc ?_ _)); exact BK224.out⟩, ⟨by repeat (first | (with_reducible first | exact HB.out | apply below_alloc | apply pw_below_drewN | apply below_drew1 | refine below_set ?_ GE224.out) | exact HB.out)⟩⟩
    ·rw [if_neg c9] at H
     have c9b0 : ((l0_1.length : Int) == 4) = false := beq_eq_false_iff_ne.mpr c9
     have c9b1 : ((l0_1.length : Int) != 4) = true := bne_iff_ne.mpr c9
     by_cases c11 : (l0_1.length : Int) = 8
     ·rw [if_pos c11] at H
      have c11b0 : ((l0_1.length : Int) == 8) = true := beq_iff_eq.mpr c11
      have c11b1 : ((l0_1.length : Int) != 8) = false := bne_eq_false_iff_eq.mpr c11
      clear c11
      have H' := Gv.a0 H
      clear H
      have hcz12_0 : w3.cell? ⟨gb224, 0, none⟩ = some (.int .i64 a0_0) := (blk_cell BK224.out 0).trans rfl
      have hcz12_1 : w3.cell? ⟨gb224, 1, none⟩ = some (.slice A0_1 l0_1.length c0_1) := (blk_cell BK224.out 1).trans rfl
      have hfz12_0 := blk_frozen BK224.out 0
      have hfz12_1 := blk_frozen BK224.out 1
      go_wp2_with (first | ((with_reducible refine Gv.gate_load (t := 75) rfl ?_); (try (refine gate_guard (by rfl) ?_; dsimp only)); refine wpList_load_row rfl 75 _ rfl gb227 rfl 75 _ _ _ (Gv.kbp BK227.out) Try.underlying75 rfl (by kernel_rfl) ?_))
      go_meet
      case rel => exact ⟨_, (false), (by first | rfl | (simp; done) | (simp [Int.tdiv_eq_ediv_of_nonneg]; done) | (simp [*]; done)), H', ⟨by first | omega | exact Nat.le_refl _⟩, ⟨by (with_reducible repeat (first | refine blk_drewN ?_ _ | refine blk_drew ?_ | refine blk_alloc ?_ _)); exact BK224.out⟩, ⟨by repeat (first | (with_reducible first | exact HB.out | apply below_alloc | apply pw_below_drewN | apply below_drew1 | refine below_set ?_ GE224.out) | exact HB.out)⟩⟩
     ·rw [if_neg c11] at H
      have c11b0 : ((l0_1.length : Int) == 8) = false := beq_eq_false_iff_ne.mpr c11
      have c11b1 : ((l0_1.length : Int) != 8) = true := bne_iff_ne.mpr c11
      by_cases c13 : (l0_1.length : Int) = 16
      ·rw [if_pos c13] at H
       have c13b0 : ((l0_1.length : Int) == 16) = true := beq_iff_eq.mpr c13
       have c13b1 : ((l0_1.length : Int) != 16) = false := bne_eq_false_iff_eq.mpr c13
       clear c13
       have H' := Gv.a0 H
       clear H
       have hcz14_0 : w3.cell? ⟨gb224, 0, none⟩ = some (.int .i64 a0_0) := (blk_cell BK224.out 0).trans rfl
       have hcz14_1 : w3.cell? ⟨gb224, 1, none⟩ = some (.slice A0_1 l0_1.length c0_1) := (blk_cell BK224.out 1).trans rfl
       have hfz14_0 := blk_frozen BK224.out 0
       have hfz14_1 := blk_frozen BK224.out 1
       go_wp2_with (first | ((with_reducible refine Gv.gate_load (t := 75) rfl ?_); (try (refine gate_guard (by rfl) ?_; dsimp only)); refine wpList_load_row rfl 75 _ rfl gb227 rfl 75 _ _ _ (Gv.kbp BK227.out) Try.underlying75 rfl (by kernel_rfl) ?_))
       go_meet
       case rel => exact ⟨_, (false), (by first | rfl | (simp; done) | (simp [Int.tdiv_eq_ediv_of_nonneg]; done) | (simp [*]; done)), H', ⟨by first | omega | exact Nat.le_refl _⟩, ⟨by (with_reducible repeat (first | refine blk_drewN ?_ _ | refine blk_drew ?_ | refine blk_alloc ?_ _)); exact BK224.out⟩, ⟨by repeat (first | (with_reducible first | exact HB.out | apply below_alloc | apply pw_below_drewN | apply below_drew1 | refine below_set ?_ GE224.out) | exact HB.out)⟩⟩
      ·rw [if_neg c13] at H
       have c13b0 : ((l0_1.length : Int) == 16) = false := beq_eq_false_iff_ne.mpr c13
       have c13b1 : ((l0_1.length : Int) != 16) = true := bne_iff_ne.mpr c13
       by_cases c15 : (l0_1.length : Int) = 32
       ·rw [if_pos c15] at H
        have c15b0 : ((l0_1.length : Int) == 32) = true := beq_iff_eq.mpr c15
        have c15b1 : ((l0_1.length : Int) != 32) = false := bne_eq_false_iff_eq.mpr c15
        clear c15
        have H' := Gv.a0 H
        clear H
        have hcz16_0 : w3.cell? ⟨gb224, 0, none⟩ = some (.int .i64 a0_0) := (blk_cell BK224.out 0).trans rfl
        have hcz16_1 : w3.cell? ⟨gb224, 1, none⟩ = some (.slice A0_1 l0_1.length c0_1) := (blk_cell BK224.out 1).trans rfl
        have hfz16_0 := blk_frozen BK224.out 0
        have hfz16_1 := blk_frozen BK224.out 1
        go_wp2_with (first | ((with_reducible refine Gv.gate_load (t := 75) rfl ?_); (try (refine gate_guard (by rfl) ?_; dsimp only)); refine wpList_load_row rfl 75 _ rfl gb227 rfl 75 _ _ _ (Gv.kbp BK227.out) Try.underlying75 rfl (by kernel_rfl) ?_))
        go_meet
        case rel => exact ⟨_, (false), (by first | rfl | (simp; done) | (simp [Int.tdiv_eq_ediv_of_nonneg]; done) | (simp [*]; done)), H', ⟨by first | omega | exact Nat.le_refl _⟩, ⟨by (with_reducible repeat (first | refine blk_drewN ?_ _ | refine blk_drew ?_ | refine blk_alloc ?_ _)); exact BK224.out⟩, ⟨by repeat (first | (with_reducible first | exact HB.out | apply below_alloc | apply pw_below_drewN | apply below_drew1 | refine below_set ?_ GE224.out) | exact HB.out)⟩⟩
       ·rw [if_neg c15] at H
        have c15b0 : ((l0_1.length : Int) == 32) = false := beq_eq_false_iff_ne.mpr c15
        have c15b1 : ((l0_1.length : Int) != 32) = true := bne_iff_ne.mpr c15
        have H' := Gv.a0 H
        clear H
        have hcz17_0 : w3.cell? ⟨gb224, 0, none⟩ = some (.int .i64 a0_0) := (blk_cell BK224.out 0).trans rfl
        have hcz17_1 : w3.cell? ⟨gb224, 1, none⟩ = some (.slice A0_1 l0_1.length c0_1) := (blk_cell BK224.out 1).trans rfl
        have hfz17_0 := blk_frozen BK224.out 0
        have hfz17_1 := blk_frozen BK224.out 1
        go_wp2_with (first | ((with_reducible refine Gv.gate_load (t := 75) rfl ?_); (try (refine gate_guard (by rfl) ?_; dsimp only)); refine wpList_load_row rfl 75 _ rfl gb227 rfl 75 _ _ _ (Gv.kbp BK227.out) Try.underlying75 rfl (by kernel_rfl) ?_))
        go_meet
        case rel => exact ⟨_, (((l0_1.length : Int) != 64)), (by first | rfl | (simp; done) | (simp [Int.tdiv_eq_ediv_of_nonneg]; done) | (simp [*]; done)), H', ⟨by first | omega | exact Nat.le_refl _⟩, ⟨by (with_reducible repeat (first | refine blk_drewN ?_ _ | refine blk_drew ?_ | refine blk_alloc ?_ _)); exact BK224.out⟩, ⟨by repeat (first | (with_reducible first | exact HB.out | apply below_alloc | apply pw_below_drewN | apply below_drew1 | refine below_set ?_ GE224.out) | exact HB.out)⟩⟩
 case rest =>
  clear HC2
  try clear c1
  try clear c2
  try clear p2
  try clear c5
  try clear c5b0
  try clear c7
  try clear c7b0
  try clear c9
  try clear c9b0
  try clear c9b1
  try clear c11
  try clear c11b0
  try clear c11b1
  try clear c13
  try clear c13b0
  try clear c13b1
  try clear c15
  try clear c15b0
  try clear c15b1
  try clear hcz10_0 hcz10_1
  try clear hcz12_0 hcz12_1
  try clear hcz14_0 hcz14_1
  try clear hcz16_0 hcz16_1
  try clear hcz17_0 hcz17_1
  try clear hcz4_0 hcz4_1
  try clear hcz6_0 hcz6_1
  try clear hcz8_0 hcz8_1
  try clear hfz10_0 hfz10_1
  try clear hfz12_0 hfz12_1
  try clear hfz14_0 hfz14_1
  try clear hfz16_0 hfz16_1
  try clear hfz17_0 hfz17_1
  try clear hfz4_0 hfz4_1
  try clear hfz6_0 hfz6_1
  try clear hfz8_0 hfz8_1
  obtain ⟨kq, x37_1, rfl, HA, HJ1, BK224, HB⟩ := hcut
  cases kq with
  | zero => exact absurd HA.out (by simp [spec_TableOk.j0])
  | succ kj1 =>
   have H := HA.out
   clear HA
   simp only [spec_TableOk.j0] at H
   by_cases c18 : x37_1 = true
   ·subst c18
    have H1 : (some false) = some r := by rw [if_pos rfl] at H; exact H
    clear H
    have H := H1
    clear H1
    obtain rfl := Option.some.inj H
    go_wp2_with (first | ((with_reducible refine Gv.gate_load (t := 75) rfl ?_); (try (refine gate_guard (by rfl) ?_; dsimp only)); refine wpList_load_row rfl 75 _ rfl gb227 rfl 75 _ _ _ (Gv.kbp BK227.out) Try.underlying75 rfl (by kernel_rfl) ?_))
    go_ret
    exact ⟨by first | rfl | (simp [errW_none, errW_some] <;> rfl) | (simp [*, errW_none, errW_some] <;> rfl), by repeat (first | (with_reducible first | exact HB.out | apply below_alloc | apply pw_below_drewN | apply below_drew1 | refine below_set ?_ GE224.out) | exact HB.out)⟩
   ·replace c18 := Bool.eq_false_iff.mpr c18
    subst c18
    have H1 : ((spec_l11Count.f kj1 a0_0 l0_1).bind fun t225 => (if (wrap64 (4 * t225)) > (wrap64 (3 * (l0_1.length : Int))) then (some false) else (spec_TableOk.l0 kj1 (l0_1.length : Int) 0 a0_0 l0_1))) = some r := by rw [if_neg (show ¬ (false = true) by decide)] at H; exact H
    clear H
    have H := H1
    clear H1
    replace H := Option.bind_eq_some_iff.mp H
    obtain ⟨t225, A190, H⟩ := H
    replace H : (if (wrap64 (4 * t225)) > (wrap64 (3 * (l0_1.length : Int))) then (some false) else (spec_TableOk.l0 kj1 (l0_1.length : Int) 0 a0_0 l0_1)) = some r := H
    have A19 := Gv.a0 A190
    clear A190
    by_cases c20 : (wrap64 (4 * t225)) > (wrap64 (3 * (l0_1.length : Int)))
    ·rw [if_pos c20] at H
     have c20b0 : decide ((wrap64 (3 * (l0_1.length : Int))) < (wrap64 (4 * t225))) = true := decide_eq_true c20
     clear c20
     obtain rfl := Option.some.inj H
     have hcz21_0 : wc.cell? ⟨gb224, 0, none⟩ = some (.int .i64 a0_0) := (blk_cell BK224.out 0).trans rfl
     have hcz21_1 : wc.cell? ⟨gb224, 1, none⟩ = some (.slice A0_1 l0_1.length c0_1) := (blk_cell BK224.out 1).trans rfl
     have hfz21_0 := blk_frozen BK224.out 0
     have hfz21_1 := blk_frozen BK224.out 1
     go_wp2_with (first | ((with_reducible refine gate_callee (f := 53) rfl ?_); refine goesL_ (some 39) rfl rfl Try.func53 (by kernel_rfl) rfl #[.agg #[.int .i64 a0_0, .slice A0_1 l0_1.length c0_1]] rfl Gv.lm ?_; (with_reducible refine (spec_l11Count.calls kj1 a0_0 _ _ l0_1 t225 _ ?side1 ?side2 A19.out).mono ?_); (case side1 => repeat (first | exact (Kd.C_below HR0_1.out HB.out) | (with_reducible refine Kd.C_alloc ?_ _) | (with_reducible refine Kd.C_drewN ?_ _) | (with_reducible refine Kd.C_drew ?_))); (case side2 => exact HC0_1.out); rintro e w22 ⟨rfl, hb⟩; refine ⟨_, rfl, ?_⟩; have n0_ := Gv.a0 (Gv.bb BK224.out hb); have n1_ := Gv.a0 (below_step Gv.bw hb); clear BK224; clear HB; have BK224 := n0_; have HB := n1_; clear n0_ n1_; (try clear hb); (try clear hb2); (try clear hk); (try clear hi)) | ((with_reducible refine Gv.gate_load (t := 75) rfl ?_); (try (refine gate_guard (by rfl) ?_; dsimp only)); refine wpList_load_row rfl 75 _ rfl gb227 rfl 75 _ _ _ (Gv.kbp BK227.out) Try.underlying75 rfl (by kernel_rfl) ?_))
     go_ret
     exact ⟨by first | rfl | (simp [errW_none, errW_some] <;> rfl) | (simp [*, errW_none, errW_some] <;> rfl), by repeat (first | (with_reducible first | exact HB.out | apply below_alloc | apply pw_below_drewN | apply below_drew1 | refine below_set ?_ GE224.out) | exact HB.out)⟩
    ·rw [if_neg c20] at H
     have c20b0 : decide ((wrap64 (3 * (l0_1.length : Int))) < (wrap64 (4 * t225))) = false := decide_eq_false c20
     clear c20
     have H' := Gv.a0 H
     clear H
     have hcz23_0 : wc.cell? ⟨gb224, 0, none⟩ = some (.int .i64 a0_0) := (blk_cell BK224.out 0).trans rfl
     have hcz23_1 : wc.cell? ⟨gb224, 1, none⟩ = some (.slice A0_1 l0_1.length c0_1) := (blk_cell BK224.out 1).trans rfl
     have hfz23_0 := blk_frozen BK224.out 0
     have hfz23_1 := blk_frozen BK224.out 1
     go_wp2_with (first | ((with_reducible refine gate_callee (f := 53) rfl ?_); refine goesL_ (some 39) rfl rfl Try.func53 (by kernel_rfl) rfl #[.agg #[.int .i64 a0_0, .slice A0_1 l0_1.length c0_1]] rfl Gv.lm ?_; (with_reducible refine (spec_l11Count.calls kj1 a0_0 _ _ l0_1 t225 _ ?side1 ?side2 A19.out).mono ?_); (case side1 => repeat (first | exact (Kd.C_below HR0_1.out HB.out) | (with_reducible refine Kd.C_alloc ?_ _) | (with_reducible refine Kd.C_drewN ?_ _) | (with_reducible refine Kd.C_drew ?_))); (case side2 => exact HC0_1.out); rintro e w24 ⟨rfl, hb⟩; refine ⟨_, rfl, ?_⟩; have n0_ := Gv.a0 (Gv.bb BK224.out hb); have n1_ := Gv.a0 (below_step Gv.bw hb); clear BK224; clear HB; have BK224 := n0_; have HB := n1_; clear n0_ n1_; (try clear hb); (try clear hb2); (try clear hk); (try clear hi)) | ((with_reducible refine Gv.gate_load (t := 75) rfl ?_); (try (refine gate_guard (by rfl) ?_; dsimp only)); refine wpList_load_row rfl 75 _ rfl gb227 rfl 75 _ _ _ (Gv.kbp BK227.out) Try.underlying75 rfl (by kernel_rfl) ?_))
     go_loopg [4] kj1 (fun kq v4 w' => ∃ (x4_2 : Int), v4 = .int .i64 x4_2 ∧ Aside0 (spec_TableOk.l0 kq (l0_1.length : Int) x4_2 a0_0 l0_1 = some r) ∧ Aside0 (kq ≤ kj1) ∧ Aside0 (w'.heap[gb224]? = some (.cells #[.int .i64 a0_0, (.slice A0_1 l0_1.length c0_1)] 40 (0, 0))) ∧ Aside0 (Below w.heap.size w w'))
     case atStart => exact ⟨(0), (by first | rfl | (simp; done) | (simp [Int.tdiv_eq_ediv_of_nonneg]; done) | (simp [*]; done)), H', ⟨Nat.le_refl _⟩, ⟨by (with_reducible repeat (first | refine blk_drewN ?_ _ | refine blk_drew ?_ | refine blk_alloc ?_ _)); exact BK224.out⟩, ⟨by repeat (first | (with_reducible first | exact HB.out | apply below_alloc | apply pw_below_drewN | apply below_drew1 | refine below_set ?_ GE224.out) | exact HB.out)⟩⟩
     case round =>
      clear H'
      try clear c1
      try clear c2
      try clear p2
      try clear c5
      try clear c5b0
      try clear p6
      try clear c7
      try clear c7b0
      try clear c9
      try clear c9b0
      try clear c9b1
      try clear c11
      try clear c11b0
      try clear c11b1
      try clear c13
      try clear c13b0
      try clear c13b1
      try clear c15
      try clear c15b0
      try clear c15b1
      try clear c18
      try clear c20
      try clear c20b0
      try clear c24
      try clear hcz10_0 hcz10_1
      try clear hcz12_0 hcz12_1
      try clear hcz14_0 hcz14_1
      try clear hcz16_0 hcz16_1
      try clear hcz17_0 hcz17_1
      try clear hcz21_0 hcz21_1
      try clear hcz23_0 hcz23_1
      try clear hcz4_0 hcz4_1
      try clear hcz6_0 hcz6_1
      try clear hcz8_0 hcz8_1
      try clear hfz10_0 hfz10_1
      try clear hfz12_0 hfz12_1
      try clear hfz14_0 hfz14_1
      try clear hfz16_0 hfz16_1
      try clear hfz17_0 hfz17_1
      try clear hfz21_0 hfz21_1
      try clear hfz23_0 hfz23_1
      try clear hfz4_0 hfz4_1
      try clear hfz6_0 hfz6_1
      try clear hfz8_0 hfz8_1
      try clear p2
      obtain ⟨x4_2, rfl, HA, HK2, BK224, HB⟩ := hrel
      cases gk with
      | zero => exact absurd HA.out (by simp [spec_TableOk.l0])
      | succ k2 =>
       have H := HA.out
       clear HA
       simp only [spec_TableOk.l0] at H
       by_cases c25 : x4_2 < (l0_1.length : Int)
       ·rw [if_pos c25] at H
        have c25b0 : decide (x4_2 < (l0_1.length : Int)) = true := decide_eq_true c25
        clear c25
        by_cases c26 : 0 ≤ x4_2
        ·rw [if_pos c26] at H
         have c26b0 : decide (0 ≤ x4_2) = true := decide_eq_true c26
         clear c26
         by_cases c27 : x4_2 < (l0_1.length : Int)
         ·rw [if_pos c27] at H
          have c27b0 : decide (x4_2 < (l0_1.length : Int)) = true := decide_eq_true c27
          clear c27
          obtain ⟨bq28, hbq28⟩ : ∃ b_ : Bool, b_ = ((rd_T75 l0_1 x4_2).f0) := ⟨_, rfl⟩
          replace H : (if (bq28 = true) then ((spec_FlowKeyOk.f ((rd_T75 l0_1 x4_2).f1.f0) ((rd_T75 l0_1 x4_2).f1.f1.f0.f0) ((rd_T75 l0_1 x4_2).f1.f1.f0.f1) ((rd_T75 l0_1 x4_2).f1.f1.f0.f2) ((rd_T75 l0_1 x4_2).f1.f1.f0.f3) ((rd_T75 l0_1 x4_2).f1.f1.f0.f4) ((rd_T75 l0_1 x4_2).f1.f1.f1.f0) ((rd_T75 l0_1 x4_2).f1.f1.f1.f1) ((rd_T75 l0_1 x4_2).f1.f1.f1.f2) ((rd_T75 l0_1 x4_2).f1.f1.f1.f3) ((rd_T75 l0_1 x4_2).f1.f1.f1.f4) ((rd_T75 l0_1 x4_2).f1.f1.f2) ((rd_T75 l0_1 x4_2).f1.f1.f3) ((rd_T75 l0_1 x4_2).f1.f1.f4)).bind fun t228 => (if t228 = true then (if ((rd_T75 l0_1 x4_2).f2) < 0 then (spec_TableOk.j2 k2 (l0_1.length : Int) x4_2 true a0_0 l0_1 bq28 ((rd_T75 l0_1 x4_2).f1.f0) ((rd_T75 l0_1 x4_2).f1.f1.f0.f0) ((rd_T75 l0_1 x4_2).f1.f1.f0.f1) ((rd_T75 l0_1 x4_2).f1.f1.f0.f2) ((rd_T75 l0_1 x4_2).f1.f1.f0.f3) ((rd_T75 l0_1 x4_2).f1.f1.f0.f4) ((rd_T75 l0_1 x4_2).f1.f1.f1.f0) ((rd_T75 l0_1 x4_2).f1.f1.f1.f1) ((rd_T75 l0_1 x4_2).f1.f1.f1.f2) ((rd_T75 l0_1 x4_2).f1.f1.f1.f3) ((rd_T75 l0_1 x4_2).f1.f1.f1.f4) ((rd_T75 l0_1 x4_2).f1.f1.f2) ((rd_T75 l0_1 x4_2).f1.f1.f3) ((rd_T75 l0_1 x4_2).f1.f1.f4) ((rd_T75 l0_1 x4_2).f2)) else (if ((rd_T75 l0_1 x4_2).f2) > 1000000000000 then (spec_TableOk.j2 k2 (l0_1.length : Int) x4_2 true a0_0 l0_1 bq28 ((rd_T75 l0_1 x4_2).f1.f0) ((rd_T75 l0_1 x4_2).f1.f1.f0.f0) ((rd_T75 l0_1 x4_2).f1.f1.f0.f1) ((rd_T75 l0_1 x4_2).f1.f1.f0.f2) ((rd_T75 l0_1 x4_2).f1.f1.f0.f3) ((rd_T75 l0_1 x4_2).f1.f1.f0.f4) ((rd_T75 l0_1 x4_2).f1.f1.f1.f0) ((rd_T75 l0_1 x4_2).f1.f1.f1.f1) ((rd_T75 l0_1 x4_2).f1.f1.f1.f2) ((rd_T75 l0_1 x4_2).f1.f1.f1.f3) ((rd_T75 l0_1 x4_2).f1.f1.f1.f4) ((rd_T75 l0_1 x4_2).f1.f1.f2) ((rd_T75 l0_1 x4_2).f1.f1.f3) ((rd_T75 l0_1 x4_2).f1.f1.f4) ((rd_T75 l0_1 x4_2).f2)) else ((spec_l11Place.f k2 a0_0 l0_1 ((rd_T75 l0_1 x4_2).f1.f0) ((rd_T75 l0_1 x4_2).f1.f1.f0.f0) ((rd_T75 l0_1 x4_2).f1.f1.f0.f1) ((rd_T75 l0_1 x4_2).f1.f1.f0.f2) ((rd_T75 l0_1 x4_2).f1.f1.f0.f3) ((rd_T75 l0_1 x4_2).f1.f1.f0.f4) ((rd_T75 l0_1 x4_2).f1.f1.f1.f0) ((rd_T75 l0_1 x4_2).f1.f1.f1.f1) ((rd_T75 l0_1 x4_2).f1.f1.f1.f2) ((rd_T75 l0_1 x4_2).f1.f1.f1.f3) ((rd_T75 l0_1 x4_2).f1.f1.f1.f4) ((rd_T75 l0_1 x4_2).f1.f1.f2) ((rd_T75 l0_1 x4_2).f1.f1.f3) ((rd_T75 l0_1 x4_2).f1.f1.f4)).bind fun t229 => (spec_TableOk.j2 k2 (l0_1.length : Int) x4_2 (t229 != x4_2) a0_0 l0_1 bq28 ((rd_T75 l0_1 x4_2).f1.f0) ((rd_T75 l0_1 x4_2).f1.f1.f0.f0) ((rd_T75 l0_1 x4_2).f1.f1.f0.f1) ((rd_T75 l0_1 x4_2).f1.f1.f0.f2) ((rd_T75 l0_1 x4_2).f1.f1.f0.f3) ((rd_T75 l0_1 x4_2).f1.f1.f0.f4) ((rd_T75 l0_1 x4_2).f1.f1.f1.f0) ((rd_T75 l0_1 x4_2).f1.f1.f1.f1) ((rd_T75 l0_1 x4_2).f1.f1.f1.f2) ((rd_T75 l0_1 x4_2).f1.f1.f1.f3) ((rd_T75 l0_1 x4_2).f1.f1.f1.f4) ((rd_T75 l0_1 x4_2).f1.f1.f2) ((rd_T75 l0_1 x4_2).f1.f1.f3) ((rd_T75 l0_1 x4_2).f1.f1.f4) ((rd_T75 l0_1 x4_2).f2))))) else (spec_TableOk.j2 k2 (l0_1.length : Int) x4_2 true a0_0 l0_1 bq28 ((rd_T75 l0_1 x4_2).f1.f0) ((rd_T75 l0_1 x4_2).f1.f1.f0.f0) ((rd_T75 l0_1 x4_2).f1.f1.f0.f1) ((rd_T75 l0_1 x4_2).f1.f1.f0.f2) ((rd_T75 l0_1 x4_2).f1.f1.f0.f3) ((rd_T75 l0_1 x4_2).f1.f1.f0.f4) ((rd_T75 l0_1 x4_2).f1.f1.f1.f0) ((rd_T75 l0_1 x4_2).f1.f1.f1.f1) ((rd_T75 l0_1 x4_2).f1.f1.f1.f2) ((rd_T75 l0_1 x4_2).f1.f1.f1.f3) ((rd_T75 l0_1 x4_2).f1.f1.f1.f4) ((rd_T75 l0_1 x4_2).f1.f1.f2) ((rd_T75 l0_1 x4_2).f1.f1.f3) ((rd_T75 l0_1 x4_2).f1.f1.f4) ((rd_T75 l0_1 x4_2).f2)))) else (if ((bq28) || ((!(((rd_T75 l0_1 x4_2).f1.f0) == 0) || (((!(((rd_T75 l0_1 x4_2).f1.f1.f0.f0) == 0) || (!(((rd_T75 l0_1 x4_2).f1.f1.f0.f1) == 0) || (!(((rd_T75 l0_1 x4_2).f1.f1.f0.f2) == 0) || (!(((rd_T75 l0_1 x4_2).f1.f1.f0.f3) == 0) || (!(((rd_T75 l0_1 x4_2).f1.f1.f0.f4) == 0)))))) || ((!(((rd_T75 l0_1 x4_2).f1.f1.f1.f0) == 0) || (!(((rd_T75 l0_1 x4_2).f1.f1.f1.f1) == 0) || (!(((rd_T75 l0_1 x4_2).f1.f1.f1.f2) == 0) || (!(((rd_T75 l0_1 x4_2).f1.f1.f1.f3) == 0) || (!(((rd_T75 l0_1 x4_2).f1.f1.f1.f4) == 0)))))) || (!(((rd_T75 l0_1 x4_2).f1.f1.f2) == 0) || (!(((rd_T75 l0_1 x4_2).f1.f1.f3) == 0) || (!(((rd_T75 l0_1 x4_2).f1.f1.f4) == 0)))))))) || (!(((rd_T75 l0_1 x4_2).f2) == 0)))) = true then (some false) else (spec_TableOk.l0 k2 (l0_1.length : Int) (wrap64 (x4_2 + 1)) a0_0 l0_1))) = some r := by rw [← hbq28] at H; exact H
          have Nbq28 := Gv.a0 hbq28
          clear hbq28
          by_cases c29 : (bq28 = true)
          ·subst c29
           have H1 : ((spec_FlowKeyOk.f ((rd_T75 l0_1 x4_2).f1.f0) ((rd_T75 l0_1 x4_2).f1.f1.f0.f0) ((rd_T75 l0_1 x4_2).f1.f1.f0.f1) ((rd_T75 l0_1 x4_2).f1.f1.f0.f2) ((rd_T75 l0_1 x4_2).f1.f1.f0.f3) ((rd_T75 l0_1 x4_2).f1.f1.f0.f4) ((rd_T75 l0_1 x4_2).f1.f1.f1.f0) ((rd_T75 l0_1 x4_2).f1.f1.f1.f1) ((rd_T75 l0_1 x4_2).f1.f1.f1.f2) ((rd_T75 l0_1 x4_2).f1.f1.f1.f3) ((rd_T75 l0_1 x4_2).f1.f1.f1.f4) ((rd_T75 l0_1 x4_2).f1.f1.f2) ((rd_T75 l0_1 x4_2).f1.f1.f3) ((rd_T75 l0_1 x4_2).f1.f1.f4)).bind fun t228 => (if t228 = true then (if ((rd_T75 l0_1 x4_2).f2) < 0 then (spec_TableOk.j2 k2 (l0_1.length : Int) x4_2 true a0_0 l0_1 true ((rd_T75 l0_1 x4_2).f1.f0) ((rd_T75 l0_1 x4_2).f1.f1.f0.f0) ((rd_T75 l0_1 x4_2).f1.f1.f0.f1) ((rd_T75 l0_1 x4_2).f1.f1.f0.f2) ((rd_T75 l0_1 x4_2).f1.f1.f0.f3) ((rd_T75 l0_1 x4_2).f1.f1.f0.f4) ((rd_T75 l0_1 x4_2).f1.f1.f1.f0) ((rd_T75 l0_1 x4_2).f1.f1.f1.f1) ((rd_T75 l0_1 x4_2).f1.f1.f1.f2) ((rd_T75 l0_1 x4_2).f1.f1.f1.f3) ((rd_T75 l0_1 x4_2).f1.f1.f1.f4) ((rd_T75 l0_1 x4_2).f1.f1.f2) ((rd_T75 l0_1 x4_2).f1.f1.f3) ((rd_T75 l0_1 x4_2).f1.f1.f4) ((rd_T75 l0_1 x4_2).f2)) else (if ((rd_T75 l0_1 x4_2).f2) > 1000000000000 then (spec_TableOk.j2 k2 (l0_1.length : Int) x4_2 true a0_0 l0_1 true ((rd_T75 l0_1 x4_2).f1.f0) ((rd_T75 l0_1 x4_2).f1.f1.f0.f0) ((rd_T75 l0_1 x4_2).f1.f1.f0.f1) ((rd_T75 l0_1 x4_2).f1.f1.f0.f2) ((rd_T75 l0_1 x4_2).f1.f1.f0.f3) ((rd_T75 l0_1 x4_2).f1.f1.f0.f4) ((rd_T75 l0_1 x4_2).f1.f1.f1.f0) ((rd_T75 l0_1 x4_2).f1.f1.f1.f1) ((rd_T75 l0_1 x4_2).f1.f1.f1.f2) ((rd_T75 l0_1 x4_2).f1.f1.f1.f3) ((rd_T75 l0_1 x4_2).f1.f1.f1.f4) ((rd_T75 l0_1 x4_2).f1.f1.f2) ((rd_T75 l0_1 x4_2).f1.f1.f3) ((rd_T75 l0_1 x4_2).f1.f1.f4) ((rd_T75 l0_1 x4_2).f2)) else ((spec_l11Place.f k2 a0_0 l0_1 ((rd_T75 l0_1 x4_2).f1.f0) ((rd_T75 l0_1 x4_2).f1.f1.f0.f0) ((rd_T75 l0_1 x4_2).f1.f1.f0.f1) ((rd_T75 l0_1 x4_2).f1.f1.f0.f2) ((rd_T75 l0_1 x4_2).f1.f1.f0.f3) ((rd_T75 l0_1 x4_2).f1.f1.f0.f4) ((rd_T75 l0_1 x4_2).f1.f1.f1.f0) ((rd_T75 l0_1 x4_2).f1.f1.f1.f1) ((rd_T75 l0_1 x4_2).f1.f1.f1.f2) ((rd_T75 l0_1 x4_2).f1.f1.f1.f3) ((rd_T75 l0_1 x4_2).f1.f1.f1.f4) ((rd_T75 l0_1 x4_2).f1.f1.f2) ((rd_T75 l0_1 x4_2).f1.f1.f3) ((rd_T75 l0_1 x4_2).f1.f1.f4)).bind fun t229 => (spec_TableOk.j2 k2 (l0_1.length : Int) x4_2 (t229 != x4_2) a0_0 l0_1 true ((rd_T75 l0_1 x4_2).f1.f0) ((rd_T75 l0_1 x4_2).f1.f1.f0.f0) ((rd_T75 l0_1 x4_2).f1.f1.f0.f1) ((rd_T75 l0_1 x4_2).f1.f1.f0.f2) ((rd_T75 l0_1 x4_2).f1.f1.f0.f3) ((rd_T75 l0_1 x4_2).f1.f1.f0.f4) ((rd_T75 l0_1 x4_2).f1.f1.f1.f0) ((rd_T75 l0_1 x4_2).f1.f1.f1.f1) ((rd_T75 l0_1 x4_2).f1.f1.f1.f2) ((rd_T75 l0_1 x4_2).f1.f1.f1.f3) ((rd_T75 l0_1 x4_2).f1.f1.f1.f4) ((rd_T75 l0_1 x4_2).f1.f1.f2) ((rd_T75 l0_1 x4_2).f1.f1.f3) ((rd_T75 l0_1 x4_2).f1.f1.f4) ((rd_T75 l0_1 x4_2).f2))))) else (spec_TableOk.j2 k2 (l0_1.length : Int) x4_2 true a0_0 l0_1 true ((rd_T75 l0_1 x4_2).f1.f0) ((rd_T75 l0_1 x4_2).f1.f1.f0.f0) ((rd_T75 l0_1 x4_2).f1.f1.f0.f1) ((rd_T75 l0_1 x4_2).f1.f1.f0.f2) ((rd_T75 l0_1 x4_2).f1.f1.f0.f3) ((rd_T75 l0_1 x4_2).f1.f1.f0.f4) ((rd_T75 l0_1 x4_2).f1.f1.f1.f0) ((rd_T75 l0_1 x4_2).f1.f1.f1.f1) ((rd_T75 l0_1 x4_2).f1.f1.f1.f2) ((rd_T75 l0_1 x4_2).f1.f1.f1.f3) ((rd_T75 l0_1 x4_2).f1.f1.f1.f4) ((rd_T75 l0_1 x4_2).f1.f1.f2) ((rd_T75 l0_1 x4_2).f1.f1.f3) ((rd_T75 l0_1 x4_2).f1.f1.f4) ((rd_T75 l0_1 x4_2).f2)))) = some r := by rw [if_pos rfl] at H; exact H
           clear H
           have H := H1
           clear H1
           have HC30 := Gv.a0 H
           clear H
           have hcz31_0 : wr.cell? ⟨gb224, 0, none⟩ = some (.int .i64 a0_0) := (blk_cell BK224.out 0).trans rfl
           have hcz31_1 : wr.cell? ⟨gb224, 1, none⟩ = some (.slice A0_1 l0_1.length c0_1) := (blk_cell BK224.out 1).trans rfl
           have hfz31_0 := blk_frozen BK224.out 0
           have hfz31_1 := blk_frozen BK224.out 1
           have p226 : 0 ≤ (x4_2 : Int) := of_decide_eq_true (by first | (with_reducible assumption) | assumption)
           have q226 : x4_2 < (l0_1.length : Int) := of_decide_eq_true (by first | (with_reducible assumption) | assumption)
           obtain ⟨ad226, e226, hx226_0, hx226_1, hx226_2, hx226_3, hx226_4, hx226_5, hx226_6, hx226_7, hx226_8, hx226_9, hx226_10, hx226_11, hx226_12, hx226_13, hx226_14, hx226_15⟩ := at_T75 HR0_1.out x4_2 p226 q226
           (try rw [← Nbq28.out] at hx226_0)
           cases e226
           replace hx226_0 := Gv.bx HB.out hx226_0
           replace hx226_1 := Gv.bx HB.out hx226_1
           replace hx226_2 := Gv.bx HB.out hx226_2
           replace hx226_3 := Gv.bx HB.out hx226_3
           replace hx226_4 := Gv.bx HB.out hx226_4
           replace hx226_5 := Gv.bx HB.out hx226_5
           replace hx226_6 := Gv.bx HB.out hx226_6
           replace hx226_7 := Gv.bx HB.out hx226_7
           replace hx226_8 := Gv.bx HB.out hx226_8
           replace hx226_9 := Gv.bx HB.out hx226_9
           replace hx226_10 := Gv.bx HB.out hx226_10
           replace hx226_11 := Gv.bx HB.out hx226_11
           replace hx226_12 := Gv.bx HB.out hx226_12
           replace hx226_13 := Gv.bx HB.out hx226_13
           replace hx226_14 := Gv.bx HB.out hx226_14
           replace hx226_15 := Gv.bx HB.out hx226_15
           replace p226 := eq_true p226
           replace q226 := eq_true q226
           go_upto_region 13 with (first | ((with_reducible refine gate_dst (N := 5) rfl ?_); refine box_event ?hg (N := 5) ?hd (cs := #[.bool false, .int .i64 0, .int .i64 0, .int .i64 0, .int .i64 0, .int .i64 0, .int .i64 0, .int .i64 0, .int .i64 0, .int .i64 0, .int .i64 0, .int .i64 0, .int .i64 0, .int .i64 0, .int .i64 0, .int .i64 0]) (t := 75) ?hr ?_; (case hd => rfl); (case hg => rfl); (case hr => first | (go_simp; done) | (go_simp; rfl)); intro gb227 hg w32 hbox hb; have n0_ := Gv.a0 (Gv.bb BK224.out hb); have n1_ := Gv.a0 (below_step Gv.bw hb); have n2_ := Gv.a0 (hbox); have n3_ := Gv.a0 ((Gv.ble hg Gv.bw : w.heap.size ≤ gb227)); have n4_ := Gv.a0 ((Gv.ble hg Gv.bw : w.heap.size ≤ gb227)); have n5_ := Gv.a0 ((Gv.nlt hg (Gv.kb BK224.out) : gb224 ≠ gb227)); have n6_ := Gv.a0 ((Gv.ngt hg (Gv.kb BK224.out) : gb227 ≠ gb224)); clear BK224; clear HB; have BK224 := n0_; have HB := n1_; have BK227 := n2_; have GW227 := n3_; have GE227 := n4_; have NB224_227 := n5_; have NB227_224 := n6_; clear n0_ n1_ n2_ n3_ n4_ n5_ n6_; clear hb hbox hg; have hnb33 := NB227_224.out; have hnc33 := NB224_227.out; obtain ⟨hcz34_0, hcz34_1, hcz34_2, hcz34_3, hcz34_4, hcz34_5, hcz34_6, hcz34_7, hcz34_8, hcz34_9, hcz34_10, hcz34_11, hcz34_12, hcz34_13, hcz34_14, hcz34_15⟩ := Gv.c16 BK227.out; obtain ⟨hfz34_0, hfz34_1, hfz34_2, hfz34_3, hfz34_4, hfz34_5, hfz34_6, hfz34_7, hfz34_8, hfz34_9, hfz34_10, hfz34_11, hfz34_12, hfz34_13, hfz34_14, hfz34_15⟩ := Gv.f16 BK227.out) | ((with_reducible refine gate_store (t := 75) (p := 5) rfl ?_); refine Gv.store_event rfl rfl rfl rfl rfl (Gv.kb BK227.out) (by kernel_rfl) rfl (by simp; and_intros <;> rfl) ?_; intro w32s hbox hoth hbel; have n0_ := Gv.a0 (hbox); have n1_ := Gv.a0 (hbel w Gv.bw GE227.out); have n2_ := Gv.a0 ((hoth gb224 NB224_227.out).trans (Gv.kb BK224.out)); clear BK227 HB BK224; have BK227 := n0_; have HB := n1_; have BK224 := n2_; clear n0_ n1_ n2_ hbox hoth hbel; (try clear hcz34_0 hcz34_1 hcz34_2 hcz34_3 hcz34_4 hcz34_5 hcz34_6 hcz34_7 hcz34_8 hcz34_9 hcz34_10 hcz34_11 hcz34_12 hcz34_13 hcz34_14 hcz34_15 hfz34_0 hfz34_1 hfz34_2 hfz34_3 hfz34_4 hfz34_5 hfz34_6 hfz34_7 hfz34_8 hfz34_9 hfz34_10 hfz34_11 hfz34_12 hfz34_13 hfz34_14 hfz34_15); obtain ⟨hcz34_0, hcz34_1, hcz34_2, hcz34_3, hcz34_4, hcz34_5, hcz34_6, hcz34_7, hcz34_8, hcz34_9, hcz34_10, hcz34_11, hcz34_12, hcz34_13, hcz34_14, hcz34_15⟩ := Gv.c16 BK227.out; obtain ⟨hfz34_0, hfz34_1, hfz34_2, hfz34_3, hfz34_4, hfz34_5, hfz34_6, hfz34_7, hfz34_8, hfz34_9, hfz34_10, hfz34_11, hfz34_12, hfz34_13, hfz34_14, hfz34_15⟩ := Gv.f16 BK227.out) | ((with_reducible refine Gv.gate_load (t := 75) rfl ?_); (try (refine gate_guard (by rfl) ?_; dsimp only)); refine wpList_load_row rfl 75 _ rfl gb227 rfl 75 _ _ _ (Gv.kbp BK227.out) Try.underlying75 rfl (by kernel_rfl) ?_) | ((with_reducible refine Gv.gate_load (t := 75) rfl ?_); refine Gv.load_event (cs := [_, _, _, _, _, _, _, _, _, _, _, _, _, _, _, _]) rfl rfl rfl ⟨hx226_0, hx226_1, hx226_2, hx226_3, hx226_4, hx226_5, hx226_6, hx226_7, hx226_8, hx226_9, hx226_10, hx226_11, hx226_12, hx226_13, hx226_14, hx226_15, trivial⟩ Try.underlying75 rfl (by kernel_rfl) ?_))
           (try simp only [Act.put, List.setIfInBounds_toArray, List.set_cons_zero, List.set_cons_succ])
           go_cut [81] (fun v81 wc => ∃ (kq : Nat) (x81_29 : Bool), v81 = .bool x81_29 ∧ Aside0 (spec_TableOk.j2 kq (l0_1.length : Int) x4_2 x81_29 a0_0 l0_1 true ((rd_T75 l0_1 x4_2).f1.f0) ((rd_T75 l0_1 x4_2).f1.f1.f0.f0) ((rd_T75 l0_1 x4_2).f1.f1.f0.f1) ((rd_T75 l0_1 x4_2).f1.f1.f0.f2) ((rd_T75 l0_1 x4_2).f1.f1.f0.f3) ((rd_T75 l0_1 x4_2).f1.f1.f0.f4) ((rd_T75 l0_1 x4_2).f1.f1.f1.f0) ((rd_T75 l0_1 x4_2).f1.f1.f1.f1) ((rd_T75 l0_1 x4_2).f1.f1.f1.f2) ((rd_T75 l0_1 x4_2).f1.f1.f1.f3) ((rd_T75 l0_1 x4_2).f1.f1.f1.f4) ((rd_T75 l0_1 x4_2).f1.f1.f2) ((rd_T75 l0_1 x4_2).f1.f1.f3) ((rd_T75 l0_1 x4_2).f1.f1.f4) ((rd_T75 l0_1 x4_2).f2) = some r) ∧ Aside0 (kq ≤ k2) ∧ Aside0 (wc.heap[gb224]? = some (.cells #[.int .i64 a0_0, (.slice (some ad226) l0_1.length c0_1)] 40 (0, 0))) ∧ Aside0 (wc.heap[gb227]? = some (.cells #[.bool true, .int .i64 ((rd_T75 l0_1 x4_2).f1.f0), .int .i64 ((rd_T75 l0_1 x4_2).f1.f1.f0.f0), .int .i64 ((rd_T75 l0_1 x4_2).f1.f1.f0.f1), .int .i64 ((rd_T75 l0_1 x4_2).f1.f1.f0.f2), .int .i64 ((rd_T75 l0_1 x4_2).f1.f1.f0.f3), .int .i64 ((rd_T75 l0_1 x4_2).f1.f1.f0.f4), .int .i64 ((rd_T75 l0_1 x4_2).f1.f1.f1.f0), .int .i64 ((rd_T75 l0_1 x4_2).f1.f1.f1.f1), .int .i64 ((rd_T75 l0_1 x4_2).f1.f1.f1.f2), .int .i64 ((rd_T75 l0_1 x4_2).f1.f1.f1.f3), .int .i64 ((rd_T75 l0_1 x4_2).f1.f1.f1.f4), .int .i64 ((rd_T75 l0_1 x4_2).f1.f1.f2), .int .i64 ((rd_T75 l0_1 x4_2).f1.f1.f3), .int .i64 ((rd_T75 l0_1 x4_2).f1.f1.f4), .int .i64 ((rd_T75 l0_1 x4_2).f2)] 75 (0, 0))) ∧ Aside0 (Below w.heap.size w wc))
           case first =>
            have H := HC30.out
            clear HC30
            replace H := Option.bind_eq_some_iff.mp H
            obtain ⟨t228, A350, H⟩ := H
            replace H : (if t228 = true then (if ((rd_T75 l0_1 x4_2).f2) < 0 then (spec_TableOk.j2 k2 (l0_1.length : Int) x4_2 true a0_0 l0_1 true ((rd_T75 l0_1 x4_2).f1.f0) ((rd_T75 l0_1 x4_2).f1.f1.f0.f0) ((rd_T75 l0_1 x4_2).f1.f1.f0.f1) ((rd_T75 l0_1 x4_2).f1.f1.f0.f2) ((rd_T75 l0_1 x4_2).f1.f1.f0.f3) ((rd_T75 l0_1 x4_2).f1.f1.f0.f4) ((rd_T75 l0_1 x4_2).f1.f1.f1.f0) ((rd_T75 l0_1 x4_2).f1.f1.f1.f1) ((rd_T75 l0_1 x4_2).f1.f1.f1.f2) ((rd_T75 l0_1 x4_2).f1.f1.f1.f3) ((rd_T75 l0_1 x4_2).f1.f1.f1.f4) ((rd_T75 l0_1 x4_2).f1.f1.f2) ((rd_T75 l0_1 x4_2).f1.f1.f3) ((rd_T75 l0_1 x4_2).f1.f1.f4) ((rd_T75 l0_1 x4_2).f2)) else (if ((rd_T75 l0_1 x4_2).f2) > 1000000000000 then (spec_TableOk.j2 k2 (l0_1.length : Int) x4_2 true a0_0 l0_1 true ((rd_T75 l0_1 x4_2).f1.f0) ((rd_T75 l0_1 x4_2).f1.f1.f0.f0) ((rd_T75 l0_1 x4_2).f1.f1.f0.f1) ((rd_T75 l0_1 x4_2).f1.f1.f0.f2) ((rd_T75 l0_1 x4_2).f1.f1.f0.f3) ((rd_T75 l0_1 x4_2).f1.f1.f0.f4) ((rd_T75 l0_1 x4_2).f1.f1.f1.f0) ((rd_T75 l0_1 x4_2).f1.f1.f1.f1) ((rd_T75 l0_1 x4_2).f1.f1.f1.f2) ((rd_T75 l0_1 x4_2).f1.f1.f1.f3) ((rd_T75 l0_1 x4_2).f1.f1.f1.f4) ((rd_T75 l0_1 x4_2).f1.f1.f2) ((rd_T75 l0_1 x4_2).f1.f1.f3) ((rd_T75 l0_1 x4_2).f1.f1.f4) ((rd_T75 l0_1 x4_2).f2)) else ((spec_l11Place.f k2 a0_0 l0_1 ((rd_T75 l0_1 x4_2).f1.f0) ((rd_T75 l0_1 x4_2).f1.f1.f0.f0) ((rd_T75 l0_1 x4_2).f1.f1.f0.f1) ((rd_T75 l0_1 x4_2).f1.f1.f0.f2) ((rd_T75 l0_1 x4_2).f1.f1.f0.f3) ((rd_T75 l0_1 x4_2).f1.f1.f0.f4) ((rd_T75 l0_1 x4_2).f1.f1.f1.f0) ((rd_T75 l0_1 x4_2).f1.f1.f1.f1) ((rd_T75 l0_1 x4_2).f1.f1.f1.f2) ((rd_T75 l0_1 x4_2).f1.f1.f1.f3) ((rd_T75 l0_1 x4_2).f1.f1.f1.f4) ((rd_T75 l0_1 x4_2).f1.f1.f2) ((rd_T75 l0_1 x4_2).f1.f1.f3) ((rd_T75 l0_1 x4_2).f1.f1.f4)).bind fun t229 => (spec_TableOk.j2 k2 (l0_1.length : Int) x4_2 (t229 != x4_2) a0_0 l0_1 true ((rd_T75 l0_1 x4_2).f1.f0) ((rd_T75 l0_1 x4_2).f1.f1.f0.f0) ((rd_T75 l0_1 x4_2).f1.f1.f0.f1) ((rd_T75 l0_1 x4_2).f1.f1.f0.f2) ((rd_T75 l0_1 x4_2).f1.f1.f0.f3) ((rd_T75 l0_1 x4_2).f1.f1.f0.f4) ((rd_T75 l0_1 x4_2).f1.f1.f1.f0) ((rd_T75 l0_1 x4_2).f1.f1.f1.f1) ((rd_T75 l0_1 x4_2).f1.f1.f1.f2) ((rd_T75 l0_1 x4_2).f1.f1.f1.f3) ((rd_T75 l0_1 x4_2).f1.f1.f1.f4) ((rd_T75 l0_1 x4_2).f1.f1.f2) ((rd_T75 l0_1 x4_2).f1.f1.f3) ((rd_T75 l0_1 x4_2).f1.f1.f4) ((rd_T75 l0_1 x4_2).f2))))) else (spec_TableOk.j2 k2 (l0_1.length : Int) x4_2 true a0_0 l0_1 true ((rd_T75 l0_1 x4_2).f1.f0) ((rd_T75 l0_1 x4_2).f1.f1.f0.f0) ((rd_T75 l0_1 x4_2).f1.f1.f0.f1) ((rd_T75 l0_1 x4_2).f1.f1.f0.f2) ((rd_T75 l0_1 x4_2).f1.f1.f0.f3) ((rd_T75 l0_1 x4_2).f1.f1.f0.f4) ((rd_T75 l0_1 x4_2).f1.f1.f1.f0) ((rd_T75 l0_1 x4_2).f1.f1.f1.f1) ((rd_T75 l0_1 x4_2).f1.f1.f1.f2) ((rd_T75 l0_1 x4_2).f1.f1.f1.f3) ((rd_T75 l0_1 x4_2).f1.f1.f1.f4) ((rd_T75 l0_1 x4_2).f1.f1.f2) ((rd_T75 l0_1 x4_2).f1.f1.f3) ((rd_T75 l0_1 x4_2).f1.f1.f4) ((rd_T75 l0_1 x4_2).f2))) = some r := H
            have A35 := Gv.a0 A350
            clear A350
            by_cases c36 : t228 = true
            ·subst c36
             have H1 : (if ((rd_T75 l0_1 x4_2).f2) < 0 then (spec_TableOk.j2 k2 (l0_1.length : Int) x4_2 true a0_0 l0_1 true ((rd_T75 l0_1 x4_2).f1.f0) ((rd_T75 l0_1 x4_2).f1.f1.f0.f0) ((rd_T75 l0_1 x4_2).f1.f1.f0.f1) ((rd_T75 l0_1 x4_2).f1.f1.f0.f2) ((rd_T75 l0_1 x4_2).f1.f1.f0.f3) ((rd_T75 l0_1 x4_2).f1.f1.f0.f4) ((rd_T75 l0_1 x4_2).f1.f1.f1.f0) ((rd_T75 l0_1 x4_2).f1.f1.f1.f1) ((rd_T75 l0_1 x4_2).f1.f1.f1.f2) ((rd_T75 l0_1 x4_2).f1.f1.f1.f3) ((rd_T75 l0_1 x4_2).f1.f1.f1.f4) ((rd_T75 l0_1 x4_2).f1.f1.f2) ((rd_T75 l0_1 x4_2).f1.f1.f3) ((rd_T75 l0_1 x4_2).f1.f1.f4) ((rd_T75 l0_1 x4_2).f2)) else (if ((rd_T75 l0_1 x4_2).f2) > 1000000000000 then (spec_TableOk.j2 k2 (l0_1.length : Int) x4_2 true a0_0 l0_1 true ((rd_T75 l0_1 x4_2).f1.f0) ((rd_T75 l0_1 x4_2).f1.f1.f0.f0) ((rd_T75 l0_1 x4_2).f1.f1.f0.f1) ((rd_T75 l0_1 x4_2).f1.f1.f0.f2) ((rd_T75 l0_1 x4_2).f1.f1.f0.f3) ((rd_T75 l0_1 x4_2).f1.f1.f0.f4) ((rd_T75 l0_1 x4_2).f1.f1.f1.f0) ((rd_T75 l0_1 x4_2).f1.f1.f1.f1) ((rd_T75 l0_1 x4_2).f1.f1.f1.f2) ((rd_T75 l0_1 x4_2).f1.f1.f1.f3) ((rd_T75 l0_1 x4_2).f1.f1.f1.f4) ((rd_T75 l0_1 x4_2).f1.f1.f2) ((rd_T75 l0_1 x4_2).f1.f1.f3) ((rd_T75 l0_1 x4_2).f1.f1.f4) ((rd_T75 l0_1 x4_2).f2)) else ((spec_l11Place.f k2 a0_0 l0_1 ((rd_T75 l0_1 x4_2).f1.f0) ((rd_T75 l0_1 x4_2).f1.f1.f0.f0) ((rd_T75 l0_1 x4_2).f1.f1.f0.f1) ((rd_T75 l0_1 x4_2).f1.f1.f0.f2) ((rd_T75 l0_1 x4_2).f1.f1.f0.f3) ((rd_T75 l0_1 x4_2).f1.f1.f0.f4) ((rd_T75 l0_1 x4_2).f1.f1.f1.f0) ((rd_T75 l0_1 x4_2).f1.f1.f1.f1) ((rd_T75 l0_1 x4_2).f1.f1.f1.f2) ((rd_T75 l0_1 x4_2).f1.f1.f1.f3) ((rd_T75 l0_1 x4_2).f1.f1.f1.f4) ((rd_T75 l0_1 x4_2).f1.f1.f2) ((rd_T75 l0_1 x4_2).f1.f1.f3) ((rd_T75 l0_1 x4_2).f1.f1.f4)).bind fun t229 => (spec_TableOk.j2 k2 (l0_1.length : Int) x4_2 (t229 != x4_2) a0_0 l0_1 true ((rd_T75 l0_1 x4_2).f1.f0) ((rd_T75 l0_1 x4_2).f1.f1.f0.f0) ((rd_T75 l0_1 x4_2).f1.f1.f0.f1) ((rd_T75 l0_1 x4_2).f1.f1.f0.f2) ((rd_T75 l0_1 x4_2).f1.f1.f0.f3) ((rd_T75 l0_1 x4_2).f1.f1.f0.f4) ((rd_T75 l0_1 x4_2).f1.f1.f1.f0) ((rd_T75 l0_1 x4_2).f1.f1.f1.f1) ((rd_T75 l0_1 x4_2).f1.f1.f1.f2) ((rd_T75 l0_1 x4_2).f1.f1.f1.f3) ((rd_T75 l0_1 x4_2).f1.f1.f1.f4) ((rd_T75 l0_1 x4_2).f1.f1.f2) ((rd_T75 l0_1 x4_2).f1.f1.f3) ((rd_T75 l0_1 x4_2).f1.f1.f4) ((rd_T75 l0_1 x4_2).f2))))) = some r := by rw [if_pos rfl] at H; exact H
             clear H
             have H := H1
             clear H1
             by_cases c37 : ((rd_T75 l0_1 x4_2).f2) < 0
             ·rw [if_pos c37] at H
              have c37b0 : decide (((rd_T75 l0_1 x4_2).f2) < 0) = true := decide_eq_true c37
              clear c37
              (first | rw [c37b0] | (simp only [i64_w, i32_w]; rw [c37b0]) | skip)
              have H' := Gv.a0 H
              clear H
              have hnb38 := NB227_224.out
              have hnc38 := NB224_227.out
              obtain ⟨hcz39_0, hcz39_1, hcz39_2, hcz39_3, hcz39_4, hcz39_5, hcz39_6, hcz39_7, hcz39_8, hcz39_9, hcz39_10, hcz39_11, hcz39_12, hcz39_13, hcz39_14, hcz39_15⟩ := Gv.c16 BK227.out
              obtain ⟨hfz39_0, hfz39_1, hfz39_2, hfz39_3, hfz39_4, hfz39_5, hfz39_6, hfz39_7, hfz39_8, hfz39_9, hfz39_10, hfz39_11, hfz39_12, hfz39_13, hfz39_14, hfz39_15⟩ := Gv.f16 BK227.out
              go_wp2_with (first | ((with_reducible refine gate_callee (f := 13) rfl ?_); refine goesL_ (some 62) rfl rfl Try.func13 (by kernel_rfl) rfl #[.agg #[.int .i64 ((rd_T75 l0_1 x4_2).f1.f0), .int .i64 ((rd_T75 l0_1 x4_2).f1.f1.f0.f0), .int .i64 ((rd_T75 l0_1 x4_2).f1.f1.f0.f1), .int .i64 ((rd_T75 l0_1 x4_2).f1.f1.f0.f2), .int .i64 ((rd_T75 l0_1 x4_2).f1.f1.f0.f3), .int .i64 ((rd_T75 l0_1 x4_2).f1.f1.f0.f4), .int .i64 ((rd_T75 l0_1 x4_2).f1.f1.f1.f0), .int .i64 ((rd_T75 l0_1 x4_2).f1.f1.f1.f1), .int .i64 ((rd_T75 l0_1 x4_2).f1.f1.f1.f2), .int .i64 ((rd_T75 l0_1 x4_2).f1.f1.f1.f3), .int .i64 ((rd_T75 l0_1 x4_2).f1.f1.f1.f4), .int .i64 ((rd_T75 l0_1 x4_2).f1.f1.f2), .int .i64 ((rd_T75 l0_1 x4_2).f1.f1.f3), .int .i64 ((rd_T75 l0_1 x4_2).f1.f1.f4)]] rfl Gv.lm ?_; (with_reducible refine (spec_FlowKeyOk.calls _ _ _ _ _ _ _ _ _ _ _ _ _ _ true _ A35.out).mono ?_); rintro e w40 ⟨rfl, hb⟩; refine ⟨_, rfl, ?_⟩; have n0_ := Gv.a0 (blk_below (g := gb224) (o := .cells #[.int .i64 a0_0, .slice (some ad226) l0_1.length c0_1] 40 (0, 0)) Gv.bkf hb); have n1_ := Gv.a0 (blk_below (g := gb227) (o := .cells #[.bool true, .int .i64 ((rd_T75 l0_1 x4_2).f1.f0), .int .i64 ((rd_T75 l0_1 x4_2).f1.f1.f0.f0), .int .i64 ((rd_T75 l0_1 x4_2).f1.f1.f0.f1), .int .i64 ((rd_T75 l0_1 x4_2).f1.f1.f0.f2), .int .i64 ((rd_T75 l0_1 x4_2).f1.f1.f0.f3), .int .i64 ((rd_T75 l0_1 x4_2).f1.f1.f0.f4), .int .i64 ((rd_T75 l0_1 x4_2).f1.f1.f1.f0), .int .i64 ((rd_T75 l0_1 x4_2).f1.f1.f1.f1), .int .i64 ((rd_T75 l0_1 x4_2).f1.f1.f1.f2), .int .i64 ((rd_T75 l0_1 x4_2).f1.f1.f1.f3), .int .i64 ((rd_T75 l0_1 x4_2).f1.f1.f1.f4), .int .i64 ((rd_T75 l0_1 x4_2).f1.f1.f2), .int .i64 ((rd_T75 l0_1 x4_2).f1.f1.f3), .int .i64 ((rd_T75 l0_1 x4_2).f1.f1.f4), .int .i64 ((rd_T75 l0_1 x4_2).f2)] 75 (0, 0)) (by (with_reducible repeat (first | refine blk_drewN ?_ _ | refine blk_drew ?_ | refine blk_alloc ?_ _)); exact BK227.out) hb); have n2_ := Gv.a0 (below_step Gv.bw hb); clear BK224; clear BK227; clear HB; have BK224 := n0_; have BK227 := n1_; have HB := n2_; clear n0_ n1_ n2_; (try clear hb); (try clear hb2); (try clear hk); (try clear hi); obtain ⟨hcz41_0, hcz41_1, hcz41_2, hcz41_3, hcz41_4, hcz41_5, hcz41_6, hcz41_7, hcz41_8, hcz41_9, hcz41_10, hcz41_11, hcz41_12, hcz41_13, hcz41_14, hcz41_15⟩ := Gv.c16 BK227.out; obtain ⟨hfz41_0, hfz41_1, hfz41_2, hfz41_3, hfz41_4, hfz41_5, hfz41_6, hfz41_7, hfz41_8, hfz41_9, hfz41_10, hfz41_11, hfz41_12, hfz41_13, hfz41_14, hfz41_15⟩ := Gv.f16 BK227.out) | ((with_reducible refine Gv.gate_load (t := 75) rfl ?_); (try (refine gate_guard (by rfl) ?_; dsimp only)); refine wpList_load_row rfl 75 _ rfl gb227 rfl 75 _ _ _ (Gv.kbp BK227.out) Try.underlying75 rfl (by kernel_rfl) ?_))
              go_meet
              case rel => exact ⟨_, (true), (by first | rfl | (simp; done) | (simp [Int.tdiv_eq_ediv_of_nonneg]; done) | (simp [*]; done)), H', ⟨by have := HJ1.out; have := HK2.out; first | omega | exact Nat.le_refl _⟩, ⟨by (with_reducible repeat (first | refine blk_drewN ?_ _ | refine blk_drew ?_ | refine blk_alloc ?_ _)); exact BK224.out⟩, ⟨by (with_reducible repeat (first | refine blk_drewN ?_ _ | refine blk_drew ?_ | refine blk_alloc ?_ _)); exact BK227.out⟩, ⟨by repeat (first | (with_reducible first | exact HB.out | apply below_alloc | apply pw_below_drewN | apply below_drew1 | refine below_set ?_ GE224.out | refine below_set ?_ GE227.out) | exact HB.out)⟩⟩
             ·rw [if_neg c37] at H
              have c37b0 : decide (((rd_T75 l0_1 x4_2).f2) < 0) = false := decide_eq_false c37
              clear c37
              (first | rw [c37b0] | (simp only [i64_w, i32_w]; rw [c37b0]) | skip)
              by_cases c42 : ((rd_T75 l0_1 x4_2).f2) > 1000000000000
              ·rw [if_pos c42] at H
               have c42b0 : decide (1000000000000 < ((rd_T75 l0_1 x4_2).f2)) = true := decide_eq_true c42
               clear c42
               have H' := Gv.a0 H
               clear H
               have hnb43 := NB227_224.out
               have hnc43 := NB224_227.out
               obtain ⟨hcz44_0, hcz44_1, hcz44_2, hcz44_3, hcz44_4, hcz44_5, hcz44_6, hcz44_7, hcz44_8, hcz44_9, hcz44_10, hcz44_11, hcz44_12, hcz44_13, hcz44_14, hcz44_15⟩ := Gv.c16 BK227.out
               obtain ⟨hfz44_0, hfz44_1, hfz44_2, hfz44_3, hfz44_4, hfz44_5, hfz44_6, hfz44_7, hfz44_8, hfz44_9, hfz44_10, hfz44_11, hfz44_12, hfz44_13, hfz44_14, hfz44_15⟩ := Gv.f16 BK227.out
               go_wp2_with (first | ((with_reducible refine gate_callee (f := 13) rfl ?_); refine goesL_ (some 62) rfl rfl Try.func13 (by kernel_rfl) rfl #[.agg #[.int .i64 ((rd_T75 l0_1 x4_2).f1.f0), .int .i64 ((rd_T75 l0_1 x4_2).f1.f1.f0.f0), .int .i64 ((rd_T75 l0_1 x4_2).f1.f1.f0.f1), .int .i64 ((rd_T75 l0_1 x4_2).f1.f1.f0.f2), .int .i64 ((rd_T75 l0_1 x4_2).f1.f1.f0.f3), .int .i64 ((rd_T75 l0_1 x4_2).f1.f1.f0.f4), .int .i64 ((rd_T75 l0_1 x4_2).f1.f1.f1.f0), .int .i64 ((rd_T75 l0_1 x4_2).f1.f1.f1.f1), .int .i64 ((rd_T75 l0_1 x4_2).f1.f1.f1.f2), .int .i64 ((rd_T75 l0_1 x4_2).f1.f1.f1.f3), .int .i64 ((rd_T75 l0_1 x4_2).f1.f1.f1.f4), .int .i64 ((rd_T75 l0_1 x4_2).f1.f1.f2), .int .i64 ((rd_T75 l0_1 x4_2).f1.f1.f3), .int .i64 ((rd_T75 l0_1 x4_2).f1.f1.f4)]] rfl Gv.lm ?_; (with_reducible refine (spec_FlowKeyOk.calls _ _ _ _ _ _ _ _ _ _ _ _ _ _ true _ A35.out).mono ?_); rintro e w45 ⟨rfl, hb⟩; refine ⟨_, rfl, ?_⟩; have n0_ := Gv.a0 (blk_below (g := gb224) (o := .cells #[.int .i64 a0_0, .slice (some ad226) l0_1.length c0_1] 40 (0, 0)) Gv.bkf hb); have n1_ := Gv.a0 (blk_below (g := gb227) (o := .cells #[.bool true, .int .i64 ((rd_T75 l0_1 x4_2).f1.f0), .int .i64 ((rd_T75 l0_1 x4_2).f1.f1.f0.f0), .int .i64 ((rd_T75 l0_1 x4_2).f1.f1.f0.f1), .int .i64 ((rd_T75 l0_1 x4_2).f1.f1.f0.f2), .int .i64 ((rd_T75 l0_1 x4_2).f1.f1.f0.f3), .int .i64 ((rd_T75 l0_1 x4_2).f1.f1.f0.f4), .int .i64 ((rd_T75 l0_1 x4_2).f1.f1.f1.f0), .int .i64 ((rd_T75 l0_1 x4_2).f1.f1.f1.f1), .int .i64 ((rd_T75 l0_1 x4_2).f1.f1.f1.f2), .int .i64 ((rd_T75 l0_1 x4_2).f1.f1.f1.f3), .int .i64 ((rd_T75 l0_1 x4_2).f1.f1.f1.f4), .int .i64 ((rd_T75 l0_1 x4_2).f1.f1.f2), .int .i64 ((rd_T75 l0_1 x4_2).f1.f1.f3), .int .i64 ((rd_T75 l0_1 x4_2).f1.f1.f4), .int .i64 ((rd_T75 l0_1 x4_2).f2)] 75 (0, 0)) (by (with_reducible repeat (first | refine blk_drewN ?_ _ | refine blk_drew ?_ | refine blk_alloc ?_ _)); exact BK227.out) hb); have n2_ := Gv.a0 (below_step Gv.bw hb); clear BK224; clear BK227; clear HB; have BK224 := n0_; have BK227 := n1_; have HB := n2_; clear n0_ n1_ n2_; (try clear hb); (try clear hb2); (try clear hk); (try clear hi); obtain ⟨hcz46_0, hcz46_1, hcz46_2, hcz46_3, hcz46_4, hcz46_5, hcz46_6, hcz46_7, hcz46_8, hcz46_9, hcz46_10, hcz46_11, hcz46_12, hcz46_13, hcz46_14, hcz46_15⟩ := Gv.c16 BK227.out; obtain ⟨hfz46_0, hfz46_1, hfz46_2, hfz46_3, hfz46_4, hfz46_5, hfz46_6, hfz46_7, hfz46_8, hfz46_9, hfz46_10, hfz46_11, hfz46_12, hfz46_13, hfz46_14, hfz46_15⟩ := Gv.f16 BK227.out) | ((with_reducible refine Gv.gate_load (t := 75) rfl ?_); (try (refine gate_guard (by rfl) ?_; dsimp only)); refine wpList_load_row rfl 75 _ rfl gb227 rfl 75 _ _ _ (Gv.kbp BK227.out) Try.underlying75 rfl (by kernel_rfl) ?_))
               go_meet
               case rel => exact ⟨_, (true), (by first | rfl | (simp; done) | (simp [Int.tdiv_eq_ediv_of_nonneg]; done) | (simp [*]; done)), H', ⟨by have := HJ1.out; have := HK2.out; first | omega | exact Nat.le_refl _⟩, ⟨by (with_reducible repeat (first | refine blk_drewN ?_ _ | refine blk_drew ?_ | refine blk_alloc ?_ _)); exact BK224.out⟩, ⟨by (with_reducible repeat (first | refine blk_drewN ?_ _ | refine blk_drew ?_ | refine blk_alloc ?_ _)); exact BK227.out⟩, ⟨by repeat (first | (with_reducible first | exact HB.out | apply below_alloc | apply pw_below_drewN | apply below_drew1 | refine below_set ?_ GE224.out | refine below_set ?_ GE227.out) | exact HB.out)⟩⟩
              ·rw [if_neg c42] at H
               have c42b0 : decide (1000000000000 < ((rd_T75 l0_1 x4_2).f2)) = false := decide_eq_false c42
               clear c42
               replace H := Option.bind_eq_some_iff.mp H
               obtain ⟨t229, A470, H⟩ := H
               replace H : (spec_TableOk.j2 k2 (l0_1.length : Int) x4_2 (t229 != x4_2) a0_0 l0_1 true ((rd_T75 l0_1 x4_2).f1.f0) ((rd_T75 l0_1 x4_2).f1.f1.f0.f0) ((rd_T75 l0_1 x4_2).f1.f1.f0.f1) ((rd_T75 l0_1 x4_2).f1.f1.f0.f2) ((rd_T75 l0_1 x4_2).f1.f1.f0.f3) ((rd_T75 l0_1 x4_2).f1.f1.f0.f4) ((rd_T75 l0_1 x4_2).f1.f1.f1.f0) ((rd_T75 l0_1 x4_2).f1.f1.f1.f1) ((rd_T75 l0_1 x4_2).f1.f1.f1.f2) ((rd_T75 l0_1 x4_2).f1.f1.f1.f3) ((rd_T75 l0_1 x4_2).f1.f1.f1.f4) ((rd_T75 l0_1 x4_2).f1.f1.f2) ((rd_T75 l0_1 x4_2).f1.f1.f3) ((rd_T75 l0_1 x4_2).f1.f1.f4) ((rd_T75 l0_1 x4_2).f2)) = some r := H
               have A47 := Gv.a0 A470
               clear A470
               have H' := Gv.a0 H
               clear H
               have hnb48 := NB227_224.out
               have hnc48 := NB224_227.out
               obtain ⟨hcz49_0, hcz49_1, hcz49_2, hcz49_3, hcz49_4, hcz49_5, hcz49_6, hcz49_7, hcz49_8, hcz49_9, hcz49_10, hcz49_11, hcz49_12, hcz49_13, hcz49_14, hcz49_15⟩ := Gv.c16 BK227.out
               obtain ⟨hfz49_0, hfz49_1, hfz49_2, hfz49_3, hfz49_4, hfz49_5, hfz49_6, hfz49_7, hfz49_8, hfz49_9, hfz49_10, hfz49_11, hfz49_12, hfz49_13, hfz49_14, hfz49_15⟩ := Gv.f16 BK227.out
               go_wp2_with (first | ((with_reducible refine gate_callee (f := 13) rfl ?_); refine goesL_ (some 62) rfl rfl Try.func13 (by kernel_rfl) rfl #[.agg #[.int .i64 ((rd_T75 l0_1 x4_2).f1.f0), .int .i64 ((rd_T75 l0_1 x4_2).f1.f1.f0.f0), .int .i64 ((rd_T75 l0_1 x4_2).f1.f1.f0.f1), .int .i64 ((rd_T75 l0_1 x4_2).f1.f1.f0.f2), .int .i64 ((rd_T75 l0_1 x4_2).f1.f1.f0.f3), .int .i64 ((rd_T75 l0_1 x4_2).f1.f1.f0.f4), .int .i64 ((rd_T75 l0_1 x4_2).f1.f1.f1.f0), .int .i64 ((rd_T75 l0_1 x4_2).f1.f1.f1.f1), .int .i64 ((rd_T75 l0_1 x4_2).f1.f1.f1.f2), .int .i64 ((rd_T75 l0_1 x4_2).f1.f1.f1.f3), .int .i64 ((rd_T75 l0_1 x4_2).f1.f1.f1.f4), .int .i64 ((rd_T75 l0_1 x4_2).f1.f1.f2), .int .i64 ((rd_T75 l0_1 x4_2).f1.f1.f3), .int .i64 ((rd_T75 l0_1 x4_2).f1.f1.f4)]] rfl Gv.lm ?_; (with_reducible refine (spec_FlowKeyOk.calls _ _ _ _ _ _ _ _ _ _ _ _ _ _ true _ A35.out).mono ?_); rintro e w50 ⟨rfl, hb⟩; refine ⟨_, rfl, ?_⟩; have n0_ := Gv.a0 (blk_below (g := gb224) (o := .cells #[.int .i64 a0_0, .slice (some ad226) l0_1.length c0_1] 40 (0, 0)) Gv.bkf hb); have n1_ := Gv.a0 (blk_below (g := gb227) (o := .cells #[.bool true, .int .i64 ((rd_T75 l0_1 x4_2).f1.f0), .int .i64 ((rd_T75 l0_1 x4_2).f1.f1.f0.f0), .int .i64 ((rd_T75 l0_1 x4_2).f1.f1.f0.f1), .int .i64 ((rd_T75 l0_1 x4_2).f1.f1.f0.f2), .int .i64 ((rd_T75 l0_1 x4_2).f1.f1.f0.f3), .int .i64 ((rd_T75 l0_1 x4_2).f1.f1.f0.f4), .int .i64 ((rd_T75 l0_1 x4_2).f1.f1.f1.f0), .int .i64 ((rd_T75 l0_1 x4_2).f1.f1.f1.f1), .int .i64 ((rd_T75 l0_1 x4_2).f1.f1.f1.f2), .int .i64 ((rd_T75 l0_1 x4_2).f1.f1.f1.f3), .int .i64 ((rd_T75 l0_1 x4_2).f1.f1.f1.f4), .int .i64 ((rd_T75 l0_1 x4_2).f1.f1.f2), .int .i64 ((rd_T75 l0_1 x4_2).f1.f1.f3), .int .i64 ((rd_T75 l0_1 x4_2).f1.f1.f4), .int .i64 ((rd_T75 l0_1 x4_2).f2)] 75 (0, 0)) (by (with_reducible repeat (first | refine blk_drewN ?_ _ | refine blk_drew ?_ | refine blk_alloc ?_ _)); exact BK227.out) hb); have n2_ := Gv.a0 (below_step Gv.bw hb); clear BK224; clear BK227; clear HB; have BK224 := n0_; have BK227 := n1_; have HB := n2_; clear n0_ n1_ n2_; (try clear hb); (try clear hb2); (try clear hk); (try clear hi); obtain ⟨hcz51_0, hcz51_1, hcz51_2, hcz51_3, hcz51_4, hcz51_5, hcz51_6, hcz51_7, hcz51_8, hcz51_9, hcz51_10, hcz51_11, hcz51_12, hcz51_13, hcz51_14, hcz51_15⟩ := Gv.c16 BK227.out; obtain ⟨hfz51_0, hfz51_1, hfz51_2, hfz51_3, hfz51_4, hfz51_5, hfz51_6, hfz51_7, hfz51_8, hfz51_9, hfz51_10, hfz51_11, hfz51_12, hfz51_13, hfz51_14, hfz51_15⟩ := Gv.f16 BK227.out; have hcz52_0 : w50.cell? ⟨gb224, 0, none⟩ = some (.int .i64 a0_0) := (blk_cell BK224.out 0).trans rfl; have hcz52_1 : w50.cell? ⟨gb224, 1, none⟩ = some (.slice (some ad226) l0_1.length c0_1) := (blk_cell BK224.out 1).trans rfl; have hfz52_0 := blk_frozen BK224.out 0; have hfz52_1 := blk_frozen BK224.out 1) | (go_at_call 54; (with_reducible refine (spec_l11Place.calls k2 a0_0 _ _ l0_1 _ _ _ _ _ _ _ _ _ _ _ _ _ _ t229 _ ?side1 ?side2 A47.out).mono ?_); (case side1 => repeat (first | exact (Kd.C_below HR0_1.out HB.out) | (with_reducible refine Kd.C_alloc ?_ _) | (with_reducible refine Kd.C_drewN ?_ _) | (with_reducible refine Kd.C_drew ?_))); (case side2 => exact HC0_1.out); rintro e w53 ⟨rfl, hb⟩; have n0_ := Gv.a0 (Gv.bb BK224.out hb); have n1_ := Gv.a0 (Gv.bb BK227.out hb); have n2_ := Gv.a0 (below_step Gv.bw hb); clear BK224; clear BK227; clear HB; have BK224 := n0_; have BK227 := n1_; have HB := n2_; clear n0_ n1_ n2_; (try clear hb); (try clear hb2); (try clear hk); (try clear hi)) | ((with_reducible refine Gv.gate_load (t := 75) rfl ?_); (try (refine gate_guard (by rfl) ?_; dsimp only)); refine wpList_load_row rfl 75 _ rfl gb227 rfl 75 _ _ _ (Gv.kbp BK227.out) Try.underlying75 rfl (by kernel_rfl) ?_))
               go_meet
               case rel => exact ⟨_, ((t229 != x4_2)), (by first | rfl | (simp; done) | (simp [Int.tdiv_eq_ediv_of_nonneg]; done) | (simp [*]; done)), H', ⟨by have := HJ1.out; have := HK2.out; first | omega | exact Nat.le_refl _⟩, ⟨by (with_reducible repeat (first | refine blk_drewN ?_ _ | refine blk_drew ?_ | refine blk_alloc ?_ _)); exact BK224.out⟩, ⟨by (with_reducible repeat (first | refine blk_drewN ?_ _ | refine blk_drew ?_ | refine blk_alloc ?_ _)); exact BK227.out⟩, ⟨by repeat (first | (with_reducible first | exact HB.out | apply below_alloc | apply pw_below_drewN | apply below_drew1 | refine below_set ?_ GE224.out | refine below_set ?_ GE227.out) | exact HB.out)⟩⟩
            ·replace c36 := Bool.eq_false_iff.mpr c36
             subst c36
             have H1 : (spec_TableOk.j2 k2 (l0_1.length : Int) x4_2 true a0_0 l0_1 true ((rd_T75 l0_1 x4_2).f1.f0) ((rd_T75 l0_1 x4_2).f1.f1.f0.f0) ((rd_T75 l0_1 x4_2).f1.f1.f0.f1) ((rd_T75 l0_1 x4_2).f1.f1.f0.f2) ((rd_T75 l0_1 x4_2).f1.f1.f0.f3) ((rd_T75 l0_1 x4_2).f1.f1.f0.f4) ((rd_T75 l0_1 x4_2).f1.f1.f1.f0) ((rd_T75 l0_1 x4_2).f1.f1.f1.f1) ((rd_T75 l0_1 x4_2).f1.f1.f1.f2) ((rd_T75 l0_1 x4_2).f1.f1.f1.f3) ((rd_T75 l0_1 x4_2).f1.f1.f1.f4) ((rd_T75 l0_1 x4_2).f1.f1.f2) ((rd_T75 l0_1 x4_2).f1.f1.f3) ((rd_T75 l0_1 x4_2).f1.f1.f4) ((rd_T75 l0_1 x4_2).f2)) = some r := by rw [if_neg (show ¬ (false = true) by decide)] at H; exact H
             clear H
             have H := H1
             clear H1
             have H' := Gv.a0 H
             clear H
             have hnb54 := NB227_224.out
             have hnc54 := NB224_227.out
             obtain ⟨hcz55_0, hcz55_1, hcz55_2, hcz55_3, hcz55_4, hcz55_5, hcz55_6, hcz55_7, hcz55_8, hcz55_9, hcz55_10, hcz55_11, hcz55_12, hcz55_13, hcz55_14, hcz55_15⟩ := Gv.c16 BK227.out
             obtain ⟨hfz55_0, hfz55_1, hfz55_2, hfz55_3, hfz55_4, hfz55_5, hfz55_6, hfz55_7, hfz55_8, hfz55_9, hfz55_10, hfz55_11, hfz55_12, hfz55_13, hfz55_14, hfz55_15⟩ := Gv.f16 BK227.out
             go_wp2_with (first | ((with_reducible refine gate_callee (f := 13) rfl ?_); refine goesL_ (some 62) rfl rfl Try.func13 (by kernel_rfl) rfl #[.agg #[.int .i64 ((rd_T75 l0_1 x4_2).f1.f0), .int .i64 ((rd_T75 l0_1 x4_2).f1.f1.f0.f0), .int .i64 ((rd_T75 l0_1 x4_2).f1.f1.f0.f1), .int .i64 ((rd_T75 l0_1 x4_2).f1.f1.f0.f2), .int .i64 ((rd_T75 l0_1 x4_2).f1.f1.f0.f3), .int .i64 ((rd_T75 l0_1 x4_2).f1.f1.f0.f4), .int .i64 ((rd_T75 l0_1 x4_2).f1.f1.f1.f0), .int .i64 ((rd_T75 l0_1 x4_2).f1.f1.f1.f1), .int .i64 ((rd_T75 l0_1 x4_2).f1.f1.f1.f2), .int .i64 ((rd_T75 l0_1 x4_2).f1.f1.f1.f3), .int .i64 ((rd_T75 l0_1 x4_2).f1.f1.f1.f4), .int .i64 ((rd_T75 l0_1 x4_2).f1.f1.f2), .int .i64 ((rd_T75 l0_1 x4_2).f1.f1.f3), .int .i64 ((rd_T75 l0_1 x4_2).f1.f1.f4)]] rfl Gv.lm ?_; (with_reducible refine (spec_FlowKeyOk.calls _ _ _ _ _ _ _ _ _ _ _ _ _ _ false _ A35.out).mono ?_); rintro e w56 ⟨rfl, hb⟩; refine ⟨_, rfl, ?_⟩; have n0_ := Gv.a0 (blk_below (g := gb224) (o := .cells #[.int .i64 a0_0, .slice (some ad226) l0_1.length c0_1] 40 (0, 0)) Gv.bkf hb); have n1_ := Gv.a0 (blk_below (g := gb227) (o := .cells #[.bool true, .int .i64 ((rd_T75 l0_1 x4_2).f1.f0), .int .i64 ((rd_T75 l0_1 x4_2).f1.f1.f0.f0), .int .i64 ((rd_T75 l0_1 x4_2).f1.f1.f0.f1), .int .i64 ((rd_T75 l0_1 x4_2).f1.f1.f0.f2), .int .i64 ((rd_T75 l0_1 x4_2).f1.f1.f0.f3), .int .i64 ((rd_T75 l0_1 x4_2).f1.f1.f0.f4), .int .i64 ((rd_T75 l0_1 x4_2).f1.f1.f1.f0), .int .i64 ((rd_T75 l0_1 x4_2).f1.f1.f1.f1), .int .i64 ((rd_T75 l0_1 x4_2).f1.f1.f1.f2), .int .i64 ((rd_T75 l0_1 x4_2).f1.f1.f1.f3), .int .i64 ((rd_T75 l0_1 x4_2).f1.f1.f1.f4), .int .i64 ((rd_T75 l0_1 x4_2).f1.f1.f2), .int .i64 ((rd_T75 l0_1 x4_2).f1.f1.f3), .int .i64 ((rd_T75 l0_1 x4_2).f1.f1.f4), .int .i64 ((rd_T75 l0_1 x4_2).f2)] 75 (0, 0)) (by (with_reducible repeat (first | refine blk_drewN ?_ _ | refine blk_drew ?_ | refine blk_alloc ?_ _)); exact BK227.out) hb); have n2_ := Gv.a0 (below_step Gv.bw hb); clear BK224; clear BK227; clear HB; have BK224 := n0_; have BK227 := n1_; have HB := n2_; clear n0_ n1_ n2_; (try clear hb); (try clear hb2); (try clear hk); (try clear hi)) | ((with_reducible refine Gv.gate_load (t := 75) rfl ?_); (try (refine gate_guard (by rfl) ?_; dsimp only)); refine wpList_load_row rfl 75 _ rfl gb227 rfl 75 _ _ _ (Gv.kbp BK227.out) Try.underlying75 rfl (by kernel_rfl) ?_))
             go_meet
             case rel => exact ⟨_, (true), (by first | rfl | (simp; done) | (simp [Int.tdiv_eq_ediv_of_nonneg]; done) | (simp [*]; done)), H', ⟨by have := HJ1.out; have := HK2.out; first | omega | exact Nat.le_refl _⟩, ⟨by (with_reducible repeat (first | refine blk_drewN ?_ _ | refine blk_drew ?_ | refine blk_alloc ?_ _)); exact BK224.out⟩, ⟨by (with_reducible repeat (first | refine blk_drewN ?_ _ | refine blk_drew ?_ | refine blk_alloc ?_ _)); exact BK227.out⟩, ⟨by repeat (first | (with_reducible first | exact HB.out | apply below_alloc | apply pw_below_drewN | apply below_drew1 | refine below_set ?_ GE224.out | refine below_set ?_ GE227.out) | exact HB.out)⟩⟩
           case rest =>
            clear HC30
            try clear c1
            try clear c2
            try clear p2
            try clear q2
            try clear hx2
            try clear c3
            try clear c4
            try clear c5
            try clear c5b0
            try clear p6
            try clear c7
            try clear c7b0
            try clear c9
            try clear c9b0
            try clear c9b1
            try clear c11
            try clear c11b0
            try clear c11b1
            try clear c13
            try clear c13b0
            try clear c13b1
            try clear c15
            try clear c15b0
            try clear c15b1
            try clear c18
            try clear c20
            try clear c20b0
            try clear p22
            try clear q22
            try clear hx22
            try clear c24
            try clear c25
            try clear c25b0
            try clear c26
            try clear c26b0
            try clear c27
            try clear c27b0
            try clear q28
            try clear c29
            try clear c33
            try clear c36
            try clear c37
            try clear c37b0
            try clear c38
            try clear c42
            try clear c42b0
            try clear c43
            try clear c48
            try clear c53
            try clear c54
            try clear hcz10_0 hcz10_1
            try clear hcz12_0 hcz12_1
            try clear hcz14_0 hcz14_1
            try clear hcz16_0 hcz16_1
            try clear hcz17_0 hcz17_1
            try clear hcz21_0 hcz21_1
            try clear hcz23_0 hcz23_1
            try clear hcz31_0 hcz31_1
            try clear hcz34_0 hcz34_1
            try clear hcz34_10 hcz34_11 hcz34_12 hcz34_13 hcz34_14 hcz34_15
            try clear hcz34_2 hcz34_3 hcz34_4 hcz34_5 hcz34_6 hcz34_7 hcz34_8 hcz34_9
            try clear hcz39_0 hcz39_1
            try clear hcz39_10 hcz39_11 hcz39_12 hcz39_13 hcz39_14 hcz39_15
            try clear hcz39_2 hcz39_3 hcz39_4 hcz39_5 hcz39_6 hcz39_7 hcz39_8 hcz39_9
            try clear hcz41_0 hcz41_1
            try clear hcz41_10 hcz41_11 hcz41_12 hcz41_13 hcz41_14 hcz41_15
            try clear hcz41_2 hcz41_3 hcz41_4 hcz41_5 hcz41_6 hcz41_7 hcz41_8 hcz41_9
            try clear hcz44_0 hcz44_1
            try clear hcz44_10 hcz44_11 hcz44_12 hcz44_13 hcz44_14 hcz44_15
            try clear hcz44_2 hcz44_3 hcz44_4 hcz44_5 hcz44_6 hcz44_7 hcz44_8 hcz44_9
            try clear hcz46_0 hcz46_1
            try clear hcz46_10 hcz46_11 hcz46_12 hcz46_13 hcz46_14 hcz46_15
            try clear hcz46_2 hcz46_3 hcz46_4 hcz46_5 hcz46_6 hcz46_7 hcz46_8 hcz46_9
            try clear hcz49_0 hcz49_1
            try clear hcz49_10 hcz49_11 hcz49_12 hcz49_13 hcz49_14 hcz49_15
            try clear hcz49_2 hcz49_3 hcz49_4 hcz49_5 hcz49_6 hcz49_7 hcz49_8 hcz49_9
            try clear hcz4_0 hcz4_1
            try clear hcz51_0 hcz51_1
            try clear hcz51_10 hcz51_11 hcz51_12 hcz51_13 hcz51_14 hcz51_15
            try clear hcz51_2 hcz51_3 hcz51_4 hcz51_5 hcz51_6 hcz51_7 hcz51_8 hcz51_9
            try clear hcz52_0 hcz52_1
            try clear hcz55_0 hcz55_1
            try clear hcz55_10 hcz55_11 hcz55_12 hcz55_13 hcz55_14 hcz55_15
            try clear hcz55_2 hcz55_3 hcz55_4 hcz55_5 hcz55_6 hcz55_7 hcz55_8 hcz55_9
            try clear hcz6_0 hcz6_1
            try clear hcz8_0 hcz8_1
            try clear hfz10_0 hfz10_1
            try clear hfz12_0 hfz12_1
            try clear hfz14_0 hfz14_1
            try clear hfz16_0 hfz16_1
            try clear hfz17_0 hfz17_1
            try clear hfz21_0 hfz21_1
            try clear hfz23_0 hfz23_1
            try clear hfz31_0 hfz31_1
            try clear hfz34_0 hfz34_1
            try clear hfz34_10 hfz34_11 hfz34_12 hfz34_13 hfz34_14 hfz34_15
            try clear hfz34_2 hfz34_3 hfz34_4 hfz34_5 hfz34_6 hfz34_7 hfz34_8 hfz34_9
            try clear hfz39_0 hfz39_1
            try clear hfz39_10 hfz39_11 hfz39_12 hfz39_13 hfz39_14 hfz39_15
            try clear hfz39_2 hfz39_3 hfz39_4 hfz39_5 hfz39_6 hfz39_7 hfz39_8 hfz39_9
            try clear hfz41_0 hfz41_1
            try clear hfz41_10 hfz41_11 hfz41_12 hfz41_13 hfz41_14 hfz41_15
            try clear hfz41_2 hfz41_3 hfz41_4 hfz41_5 hfz41_6 hfz41_7 hfz41_8 hfz41_9
            try clear hfz44_0 hfz44_1
            try clear hfz44_10 hfz44_11 hfz44_12 hfz44_13 hfz44_14 hfz44_15
            try clear hfz44_2 hfz44_3 hfz44_4 hfz44_5 hfz44_6 hfz44_7 hfz44_8 hfz44_9
            try clear hfz46_0 hfz46_1
            try clear hfz46_10 hfz46_11 hfz46_12 hfz46_13 hfz46_14 hfz46_15
            try clear hfz46_2 hfz46_3 hfz46_4 hfz46_5 hfz46_6 hfz46_7 hfz46_8 hfz46_9
            try clear hfz49_0 hfz49_1
            try clear hfz49_10 hfz49_11 hfz49_12 hfz49_13 hfz49_14 hfz49_15
            try clear hfz49_2 hfz49_3 hfz49_4 hfz49_5 hfz49_6 hfz49_7 hfz49_8 hfz49_9
            try clear hfz4_0 hfz4_1
            try clear hfz51_0 hfz51_1
            try clear hfz51_10 hfz51_11 hfz51_12 hfz51_13 hfz51_14 hfz51_15
            try clear hfz51_2 hfz51_3 hfz51_4 hfz51_5 hfz51_6 hfz51_7 hfz51_8 hfz51_9
            try clear hfz52_0 hfz52_1
            try clear hfz55_0 hfz55_1
            try clear hfz55_10 hfz55_11 hfz55_12 hfz55_13 hfz55_14 hfz55_15
            try clear hfz55_2 hfz55_3 hfz55_4 hfz55_5 hfz55_6 hfz55_7 hfz55_8 hfz55_9
            try clear hfz6_0 hfz6_1
            try clear hfz8_0 hfz8_1
            try clear hx226_0
            try clear hx226_1
            try clear hx226_10
            try clear hx226_11
            try clear hx226_12
            try clear hx226_13
            try clear hx226_14
            try clear hx226_15
            try clear hx226_2
            try clear hx226_3
            try clear hx226_4
            try clear hx226_5
            try clear hx226_6
            try clear hx226_7
            try clear hx226_8
            try clear hx226_9
            try clear p2
            try clear p226
            try clear p6
            try clear q226
            obtain ⟨kq, x81_29, rfl, HA, HJ29, BK224, BK227, HB⟩ := hcut
            cases kq with
            | zero => exact absurd HA.out (by simp [spec_TableOk.j2])
            | succ kj29 =>
             have H := HA.out
             clear HA
             simp only [spec_TableOk.j2] at H
             by_cases c57 : x81_29 = true
             ·subst c57
              have H1 : (some false) = some r := by rw [if_pos rfl] at H; exact H
              clear H
              have H := H1
              clear H1
              obtain rfl := Option.some.inj H
              go_wp2_with (first | ((with_reducible refine Gv.gate_load (t := 75) rfl ?_); (try (refine gate_guard (by rfl) ?_; dsimp only)); refine wpList_load_row rfl 75 _ rfl gb227 rfl 75 _ _ _ (Gv.kbp BK227.out) Try.underlying75 rfl (by kernel_rfl) ?_))
              go_ret
              exact ⟨by first | rfl | (simp [errW_none, errW_some] <;> rfl) | (simp [*, errW_none, errW_some] <;> rfl), by repeat (first | (with_reducible first | exact HB.out | apply below_alloc | apply pw_below_drewN | apply below_drew1 | refine below_set ?_ GE224.out | refine below_set ?_ GE227.out) | exact HB.out)⟩
             ·replace c57 := Bool.eq_false_iff.mpr c57
              subst c57
              have H1 : ((spec_l11Home.f kj29 a0_0 l0_1 ((rd_T75 l0_1 x4_2).f1.f0) ((rd_T75 l0_1 x4_2).f1.f1.f0.f0) ((rd_T75 l0_1 x4_2).f1.f1.f0.f1) ((rd_T75 l0_1 x4_2).f1.f1.f0.f2) ((rd_T75 l0_1 x4_2).f1.f1.f0.f3) ((rd_T75 l0_1 x4_2).f1.f1.f0.f4) ((rd_T75 l0_1 x4_2).f1.f1.f1.f0) ((rd_T75 l0_1 x4_2).f1.f1.f1.f1) ((rd_T75 l0_1 x4_2).f1.f1.f1.f2) ((rd_T75 l0_1 x4_2).f1.f1.f1.f3) ((rd_T75 l0_1 x4_2).f1.f1.f1.f4) ((rd_T75 l0_1 x4_2).f1.f1.f2) ((rd_T75 l0_1 x4_2).f1.f1.f3) ((rd_T75 l0_1 x4_2).f1.f1.f4)).bind fun t230 => (spec_TableOk.l1 kj29 (l0_1.length : Int) x4_2 t230 a0_0 l0_1)) = some r := by rw [if_neg (show ¬ (false = true) by decide)] at H; exact H
              clear H
              have H := H1
              clear H1
              replace H := Option.bind_eq_some_iff.mp H
              obtain ⟨t230, A580, H⟩ := H
              replace H : (spec_TableOk.l1 kj29 (l0_1.length : Int) x4_2 t230 a0_0 l0_1) = some r := H
              have A58 := Gv.a0 A580
              clear A580
              have H' := Gv.a0 H
              clear H
              have hnb59 := NB224_227.out
              have hnc59 := NB227_224.out
              have hcz60_0 : wc.cell? ⟨gb224, 0, none⟩ = some (.int .i64 a0_0) := (blk_cell BK224.out 0).trans rfl
              have hcz60_1 : wc.cell? ⟨gb224, 1, none⟩ = some (.slice (some ad226) l0_1.length c0_1) := (blk_cell BK224.out 1).trans rfl
              have hfz60_0 := blk_frozen BK224.out 0
              have hfz60_1 := blk_frozen BK224.out 1
              obtain ⟨hcz61_0, hcz61_1, hcz61_2, hcz61_3, hcz61_4, hcz61_5, hcz61_6, hcz61_7, hcz61_8, hcz61_9, hcz61_10, hcz61_11, hcz61_12, hcz61_13, hcz61_14, hcz61_15⟩ := Gv.c16 BK227.out
              obtain ⟨hfz61_0, hfz61_1, hfz61_2, hfz61_3, hfz61_4, hfz61_5, hfz61_6, hfz61_7, hfz61_8, hfz61_9, hfz61_10, hfz61_11, hfz61_12, hfz61_13, hfz61_14, hfz61_15⟩ := Gv.f16 BK227.out
              go_wp2_with (first | ((with_reducible refine gate_callee (f := 55) rfl ?_); refine goesL_ (some 85) rfl rfl Try.func55 (by kernel_rfl) rfl #[.agg #[.int .i64 a0_0, .slice (some ad226) l0_1.length c0_1], .agg #[.int .i64 ((rd_T75 l0_1 x4_2).f1.f0), .int .i64 ((rd_T75 l0_1 x4_2).f1.f1.f0.f0), .int .i64 ((rd_T75 l0_1 x4_2).f1.f1.f0.f1), .int .i64 ((rd_T75 l0_1 x4_2).f1.f1.f0.f2), .int .i64 ((rd_T75 l0_1 x4_2).f1.f1.f0.f3), .int .i64 ((rd_T75 l0_1 x4_2).f1.f1.f0.f4), .int .i64 ((rd_T75 l0_1 x4_2).f1.f1.f1.f0), .int .i64 ((rd_T75 l0_1 x4_2).f1.f1.f1.f1), .int .i64 ((rd_T75 l0_1 x4_2).f1.f1.f1.f2), .int .i64 ((rd_T75 l0_1 x4_2).f1.f1.f1.f3), .int .i64 ((rd_T75 l0_1 x4_2).f1.f1.f1.f4), .int .i64 ((rd_T75 l0_1 x4_2).f1.f1.f2), .int .i64 ((rd_T75 l0_1 x4_2).f1.f1.f3), .int .i64 ((rd_T75 l0_1 x4_2).f1.f1.f4)]] rfl Gv.lm ?_; (with_reducible refine (spec_l11Home.calls kj29 a0_0 _ _ l0_1 _ _ _ _ _ _ _ _ _ _ _ _ _ _ t230 _ ?side1 ?side2 A58.out).mono ?_); (case side1 => repeat (first | exact (Kd.C_below HR0_1.out HB.out) | (with_reducible refine Kd.C_alloc ?_ _) | (with_reducible refine Kd.C_drewN ?_ _) | (with_reducible refine Kd.C_drew ?_))); (case side2 => exact HC0_1.out); rintro e w62 ⟨rfl, hb⟩; refine ⟨_, rfl, ?_⟩; have n0_ := Gv.a0 (Gv.bb BK224.out hb); have n1_ := Gv.a0 (Gv.bb BK227.out hb); have n2_ := Gv.a0 (below_step Gv.bw hb); clear BK224; clear BK227; clear HB; have BK224 := n0_; have BK227 := n1_; have HB := n2_; clear n0_ n1_ n2_; (try clear hb); (try clear hb2); (try clear hk); (try clear hi)) | ((with_reducible refine Gv.gate_load (t := 75) rfl ?_); (try (refine gate_guard (by rfl) ?_; dsimp only)); refine wpList_load_row rfl 75 _ rfl gb227 rfl 75 _ _ _ (Gv.kbp BK227.out) Try.underlying75 rfl (by kernel_rfl) ?_))
              go_loopg [6] kj29 (fun kq v6 w' => ∃ (x6_4 : Int), v6 = .int .i64 x6_4 ∧ Aside0 (spec_TableOk.l1 kq (l0_1.length : Int) x4_2 x6_4 a0_0 l0_1 = some r) ∧ Aside0 (kq ≤ kj29) ∧ Aside0 (w'.heap[gb224]? = some (.cells #[.int .i64 a0_0, (.slice (some ad226) l0_1.length c0_1)] 40 (0, 0))) ∧ Aside0 (w'.heap[gb227]? = some (.cells #[.bool true, .int .i64 ((rd_T75 l0_1 x4_2).f1.f0), .int .i64 ((rd_T75 l0_1 x4_2).f1.f1.f0.f0), .int .i64 ((rd_T75 l0_1 x4_2).f1.f1.f0.f1), .int .i64 ((rd_T75 l0_1 x4_2).f1.f1.f0.f2), .int .i64 ((rd_T75 l0_1 x4_2).f1.f1.f0.f3), .int .i64 ((rd_T75 l0_1 x4_2).f1.f1.f0.f4), .int .i64 ((rd_T75 l0_1 x4_2).f1.f1.f1.f0), .int .i64 ((rd_T75 l0_1 x4_2).f1.f1.f1.f1), .int .i64 ((rd_T75 l0_1 x4_2).f1.f1.f1.f2), .int .i64 ((rd_T75 l0_1 x4_2).f1.f1.f1.f3), .int .i64 ((rd_T75 l0_1 x4_2).f1.f1.f1.f4), .int .i64 ((rd_T75 l0_1 x4_2).f1.f1.f2), .int .i64 ((rd_T75 l0_1 x4_2).f1.f1.f3), .int .i64 ((rd_T75 l0_1 x4_2).f1.f1.f4), .int .i64 ((rd_T75 l0_1 x4_2).f2)] 75 (0, 0))) ∧ Aside0 (Below w.heap.size w w'))
              case atStart => exact ⟨(t230), (by first | rfl | (simp; done) | (simp [Int.tdiv_eq_ediv_of_nonneg]; done) | (simp [*]; done)), H', ⟨Nat.le_refl _⟩, ⟨by (with_reducible repeat (first | refine blk_drewN ?_ _ | refine blk_drew ?_ | refine blk_alloc ?_ _)); exact BK224.out⟩, ⟨by (with_reducible repeat (first | refine blk_drewN ?_ _ | refine blk_drew ?_ | refine blk_alloc ?_ _)); exact BK227.out⟩, ⟨by repeat (first | (with_reducible first | exact HB.out | apply below_alloc | apply pw_below_drewN | apply below_drew1 | refine below_set ?_ GE224.out | refine below_set ?_ GE227.out) | exact HB.out)⟩⟩
              case round =>
               clear H'
               try clear c1
               try clear c2
               try clear p2
               try clear q2
               try clear hx2
               try clear c3
               try clear c4
               try clear c5
               try clear c5b0
               try clear p6
               try clear c7
               try clear c7b0
               try clear c9
               try clear c9b0
               try clear c9b1
               try clear c11
               try clear c11b0
               try clear c11b1
               try clear c13
               try clear c13b0
               try clear c13b1
               try clear c15
               try clear c15b0
               try clear c15b1
               try clear c18
               try clear c20
               try clear c20b0
               try clear p22
               try clear q22
               try clear hx22
               try clear c24
               try clear c25
               try clear c25b0
               try clear c26
               try clear c26b0
               try clear c27
               try clear c27b0
               try clear q28
               try clear c29
               try clear c33
               try clear c36
               try clear c37
               try clear c37b0
               try clear c38
               try clear c42
               try clear c42b0
               try clear c43
               try clear c48
               try clear c53
               try clear c54
               try clear c55
               try clear c57
               try clear c59
               try clear hcz10_0 hcz10_1
               try clear hcz12_0 hcz12_1
               try clear hcz14_0 hcz14_1
               try clear hcz16_0 hcz16_1
               try clear hcz17_0 hcz17_1
               try clear hcz21_0 hcz21_1
               try clear hcz23_0 hcz23_1
               try clear hcz31_0 hcz31_1
               try clear hcz34_0 hcz34_1
               try clear hcz34_10 hcz34_11 hcz34_12 hcz34_13 hcz34_14 hcz34_15
               try clear hcz34_2 hcz34_3 hcz34_4 hcz34_5 hcz34_6 hcz34_7 hcz34_8 hcz34_9
               try clear hcz39_0 hcz39_1
               try clear hcz39_10 hcz39_11 hcz39_12 hcz39_13 hcz39_14 hcz39_15
               try clear hcz39_2 hcz39_3 hcz39_4 hcz39_5 hcz39_6 hcz39_7 hcz39_8 hcz39_9
               try clear hcz41_0 hcz41_1
               try clear hcz41_10 hcz41_11 hcz41_12 hcz41_13 hcz41_14 hcz41_15
               try clear hcz41_2 hcz41_3 hcz41_4 hcz41_5 hcz41_6 hcz41_7 hcz41_8 hcz41_9
               try clear hcz44_0 hcz44_1
               try clear hcz44_10 hcz44_11 hcz44_12 hcz44_13 hcz44_14 hcz44_15
               try clear hcz44_2 hcz44_3 hcz44_4 hcz44_5 hcz44_6 hcz44_7 hcz44_8 hcz44_9
               try clear hcz46_0 hcz46_1
               try clear hcz46_10 hcz46_11 hcz46_12 hcz46_13 hcz46_14 hcz46_15
               try clear hcz46_2 hcz46_3 hcz46_4 hcz46_5 hcz46_6 hcz46_7 hcz46_8 hcz46_9
               try clear hcz49_0 hcz49_1
               try clear hcz49_10 hcz49_11 hcz49_12 hcz49_13 hcz49_14 hcz49_15
               try clear hcz49_2 hcz49_3 hcz49_4 hcz49_5 hcz49_6 hcz49_7 hcz49_8 hcz49_9
               try clear hcz4_0 hcz4_1
               try clear hcz51_0 hcz51_1
               try clear hcz51_10 hcz51_11 hcz51_12 hcz51_13 hcz51_14 hcz51_15
               try clear hcz51_2 hcz51_3 hcz51_4 hcz51_5 hcz51_6 hcz51_7 hcz51_8 hcz51_9
               try clear hcz52_0 hcz52_1
               try clear hcz55_0 hcz55_1
               try clear hcz55_10 hcz55_11 hcz55_12 hcz55_13 hcz55_14 hcz55_15
               try clear hcz55_2 hcz55_3 hcz55_4 hcz55_5 hcz55_6 hcz55_7 hcz55_8 hcz55_9
               try clear hcz60_0 hcz60_1
               try clear hcz61_0 hcz61_1
               try clear hcz61_10 hcz61_11 hcz61_12 hcz61_13 hcz61_14 hcz61_15
               try clear hcz61_2 hcz61_3 hcz61_4 hcz61_5 hcz61_6 hcz61_7 hcz61_8 hcz61_9
               try clear hcz6_0 hcz6_1
               try clear hcz8_0 hcz8_1
               try clear hfz10_0 hfz10_1
               try clear hfz12_0 hfz12_1
               try clear hfz14_0 hfz14_1
               try clear hfz16_0 hfz16_1
               try clear hfz17_0 hfz17_1
               try clear hfz21_0 hfz21_1
               try clear hfz23_0 hfz23_1
               try clear hfz31_0 hfz31_1
               try clear hfz34_0 hfz34_1
               try clear hfz34_10 hfz34_11 hfz34_12 hfz34_13 hfz34_14 hfz34_15
               try clear hfz34_2 hfz34_3 hfz34_4 hfz34_5 hfz34_6 hfz34_7 hfz34_8 hfz34_9
               try clear hfz39_0 hfz39_1
               try clear hfz39_10 hfz39_11 hfz39_12 hfz39_13 hfz39_14 hfz39_15
               try clear hfz39_2 hfz39_3 hfz39_4 hfz39_5 hfz39_6 hfz39_7 hfz39_8 hfz39_9
               try clear hfz41_0 hfz41_1
               try clear hfz41_10 hfz41_11 hfz41_12 hfz41_13 hfz41_14 hfz41_15
               try clear hfz41_2 hfz41_3 hfz41_4 hfz41_5 hfz41_6 hfz41_7 hfz41_8 hfz41_9
               try clear hfz44_0 hfz44_1
               try clear hfz44_10 hfz44_11 hfz44_12 hfz44_13 hfz44_14 hfz44_15
               try clear hfz44_2 hfz44_3 hfz44_4 hfz44_5 hfz44_6 hfz44_7 hfz44_8 hfz44_9
               try clear hfz46_0 hfz46_1
               try clear hfz46_10 hfz46_11 hfz46_12 hfz46_13 hfz46_14 hfz46_15
               try clear hfz46_2 hfz46_3 hfz46_4 hfz46_5 hfz46_6 hfz46_7 hfz46_8 hfz46_9
               try clear hfz49_0 hfz49_1
               try clear hfz49_10 hfz49_11 hfz49_12 hfz49_13 hfz49_14 hfz49_15
               try clear hfz49_2 hfz49_3 hfz49_4 hfz49_5 hfz49_6 hfz49_7 hfz49_8 hfz49_9
               try clear hfz4_0 hfz4_1
               try clear hfz51_0 hfz51_1
               try clear hfz51_10 hfz51_11 hfz51_12 hfz51_13 hfz51_14 hfz51_15
               try clear hfz51_2 hfz51_3 hfz51_4 hfz51_5 hfz51_6 hfz51_7 hfz51_8 hfz51_9
               try clear hfz52_0 hfz52_1
               try clear hfz55_0 hfz55_1
               try clear hfz55_10 hfz55_11 hfz55_12 hfz55_13 hfz55_14 hfz55_15
               try clear hfz55_2 hfz55_3 hfz55_4 hfz55_5 hfz55_6 hfz55_7 hfz55_8 hfz55_9
               try clear hfz60_0 hfz60_1
               try clear hfz61_0 hfz61_1
               try clear hfz61_10 hfz61_11 hfz61_12 hfz61_13 hfz61_14 hfz61_15
               try clear hfz61_2 hfz61_3 hfz61_4 hfz61_5 hfz61_6 hfz61_7 hfz61_8 hfz61_9
               try clear hfz6_0 hfz6_1
               try clear hfz8_0 hfz8_1
               try clear hx226_0
               try clear hx226_1
               try clear hx226_10
               try clear hx226_11
               try clear hx226_12
               try clear hx226_13
               try clear hx226_14
               try clear hx226_15
               try clear hx226_2
               try clear hx226_3
               try clear hx226_4
               try clear hx226_5
               try clear hx226_6
               try clear hx226_7
               try clear hx226_8
               try clear hx226_9
               try clear p2
               try clear p22
               try clear p226
               try clear p6
               try clear q2
               try clear q22
               try clear q226
               try clear q28
               obtain ⟨x6_4, rfl, HA, HK4, BK224, BK227, HB⟩ := hrel
               cases gk with
               | zero => exact absurd HA.out (by simp [spec_TableOk.l1])
               | succ k4 =>
                have H := HA.out
                clear HA
                simp only [spec_TableOk.l1] at H
                by_cases c63 : x6_4 = x4_2
                ·rw [if_pos c63] at H
                 have c63b0 : (x6_4 == x4_2) = true := beq_iff_eq.mpr c63
                 have c63b1 : (x6_4 != x4_2) = false := bne_eq_false_iff_eq.mpr c63
                 clear c63
                 have H' := Gv.a0 H
                 clear H
                 go_wp2_with (first | ((with_reducible refine Gv.gate_load (t := 75) rfl ?_); (try (refine gate_guard (by rfl) ?_; dsimp only)); refine wpList_load_row rfl 75 _ rfl gb227 rfl 75 _ _ _ (Gv.kbp BK227.out) Try.underlying75 rfl (by kernel_rfl) ?_))
                 go_roundg k4
                 case measure => have := HJ1.out; have := HK2.out; have := HJ29.out; have := HK4.out; omega
                 case rel => exact ⟨(wrap64 (x4_2 + 1)), (by first | rfl | (simp; done) | (simp [Int.tdiv_eq_ediv_of_nonneg]; done) | (simp [*]; done)), H', ⟨by have := HJ1.out; have := HK2.out; have := HJ29.out; have := HK4.out; omega⟩, ⟨by (with_reducible repeat (first | refine blk_drewN ?_ _ | refine blk_drew ?_ | refine blk_alloc ?_ _)); exact BK224.out⟩, ⟨by repeat (first | (with_reducible first | exact HB.out | apply below_alloc | apply pw_below_drewN | apply below_drew1 | refine below_set ?_ GE224.out | refine below_set ?_ GE227.out) | exact HB.out)⟩⟩
                ·rw [if_neg c63] at H
                 have c63b0 : (x6_4 == x4_2) = false := beq_eq_false_iff_ne.mpr c63
                 have c63b1 : (x6_4 != x4_2) = true := bne_iff_ne.mpr c63
                 by_cases c64 : 0 ≤ x6_4
                 ·rw [if_pos c64] at H
                  have c64b0 : decide (0 ≤ x6_4) = true := decide_eq_true c64
                  clear c64
                  by_cases c65 : x6_4 < (l0_1.length : Int)
                  ·rw [if_pos c65] at H
                   have c65b0 : decide (x6_4 < (l0_1.length : Int)) = true := decide_eq_true c65
                   clear c65
                   obtain ⟨bq66, hbq66⟩ : ∃ b_ : Bool, b_ = ((rd_T75 l0_1 x6_4).f0) := ⟨_, rfl⟩
                   replace H : (if (bq66 = true) then (if (l0_1.length : Int) = 0 then (none) else (spec_TableOk.l1 k4 (l0_1.length : Int) x4_2 (Int.tmod (wrap64 (x6_4 + 1)) (l0_1.length : Int)) a0_0 l0_1)) else (some false)) = some r := by rw [← hbq66] at H; exact H
                   have Nbq66 := Gv.a0 hbq66
                   clear hbq66
                   by_cases c67 : (bq66 = true)
                   ·subst c67
                    have H1 : (if (l0_1.length : Int) = 0 then (none) else (spec_TableOk.l1 k4 (l0_1.length : Int) x4_2 (Int.tmod (wrap64 (x6_4 + 1)) (l0_1.length : Int)) a0_0 l0_1)) = some r := by rw [if_pos rfl] at H; exact H
                    clear H
                    have H := H1
                    clear H1
                    by_cases c68 : (l0_1.length : Int) = 0
                    ·rw [if_pos c68] at H
                     exact absurd H (by simp)
                    ·rw [if_neg c68] at H
                     have c68b0 : ((l0_1.length : Int) == 0) = false := beq_eq_false_iff_ne.mpr c68
                     have c68b1 : ((l0_1.length : Int) != 0) = true := bne_iff_ne.mpr c68
                     have c68b2 : ¬ (l0_1 = []) := fun h_ => c68 (by rw [h_]; rfl)
                     have H' := Gv.a0 H
                     clear H
                     have hnb69 := NB224_227.out
                     have hnc69 := NB227_224.out
                     have hcz70_0 : wr.cell? ⟨gb224, 0, none⟩ = some (.int .i64 a0_0) := (blk_cell BK224.out 0).trans rfl
                     have hcz70_1 : wr.cell? ⟨gb224, 1, none⟩ = some (.slice (some ad226) l0_1.length c0_1) := (blk_cell BK224.out 1).trans rfl
                     have hfz70_0 := blk_frozen BK224.out 0
                     have hfz70_1 := blk_frozen BK224.out 1
                     have p231 : 0 ≤ (x6_4 : Int) := of_decide_eq_true (by first | (with_reducible assumption) | assumption)
                     have q231 : x6_4 < (l0_1.length : Int) := of_decide_eq_true (by first | (with_reducible assumption) | assumption)
                     obtain ⟨ad231, e231, hx231_0, hx231_1, hx231_2, hx231_3, hx231_4, hx231_5, hx231_6, hx231_7, hx231_8, hx231_9, hx231_10, hx231_11, hx231_12, hx231_13, hx231_14, hx231_15⟩ := at_T75 HR0_1.out x6_4 p231 q231
                     (try rw [← Nbq28.out] at hx231_0)
                     (try rw [← Nbq66.out] at hx231_0)
                     obtain rfl : ad226 = ad231 := (by injection e231)
                     replace hx231_0 := Gv.bx HB.out hx231_0
                     replace hx231_1 := Gv.bx HB.out hx231_1
                     replace hx231_2 := Gv.bx HB.out hx231_2
                     replace hx231_3 := Gv.bx HB.out hx231_3
                     replace hx231_4 := Gv.bx HB.out hx231_4
                     replace hx231_5 := Gv.bx HB.out hx231_5
                     replace hx231_6 := Gv.bx HB.out hx231_6
                     replace hx231_7 := Gv.bx HB.out hx231_7
                     replace hx231_8 := Gv.bx HB.out hx231_8
                     replace hx231_9 := Gv.bx HB.out hx231_9
                     replace hx231_10 := Gv.bx HB.out hx231_10
                     replace hx231_11 := Gv.bx HB.out hx231_11
                     replace hx231_12 := Gv.bx HB.out hx231_12
                     replace hx231_13 := Gv.bx HB.out hx231_13
                     replace hx231_14 := Gv.bx HB.out hx231_14
                     replace hx231_15 := Gv.bx HB.out hx231_15
                     replace p231 := eq_true p231
                     replace q231 := eq_true q231
                     go_wp2_with (first | ((with_reducible refine Gv.gate_load (t := 75) rfl ?_); (try (refine gate_guard (by rfl) ?_; dsimp only)); refine wpList_load_row rfl 75 _ rfl gb227 rfl 75 _ _ _ (Gv.kbp BK227.out) Try.underlying75 rfl (by kernel_rfl) ?_))
                     go_roundg k4
                     case measure => have := HJ1.out; have := HK2.out; have := HJ29.out; have := HK4.out; omega
                     case rel => exact ⟨(Int.tmod (wrap64 (x6_4 + 1)) (l0_1.length : Int)), (by first | rfl | (simp; done) | (simp [Int.tdiv_eq_ediv_of_nonneg]; done) | (simp [*]; done)), H', ⟨by have := HJ1.out; have := HK2.out; have := HJ29.out; have := HK4.out; omega⟩, ⟨by (with_reducible repeat (first | refine blk_drewN ?_ _ | refine blk_drew ?_ | refine blk_alloc ?_ _)); exact BK224.out⟩, ⟨by (with_reducible repeat (first | refine blk_drewN ?_ _ | refine blk_drew ?_ | refine blk_alloc ?_ _)); exact BK227.out⟩, ⟨by repeat (first | (with_reducible first | exact HB.out | apply below_alloc | apply pw_below_drewN | apply below_drew1 | refine below_set ?_ GE224.out | refine below_set ?_ GE227.out) | exact HB.out)⟩⟩
                   ·replace c67 := Bool.eq_false_iff.mpr c67
                    subst c67
                    have H1 : (some false) = some r := by rw [if_neg (show ¬ (false = true) by decide)] at H; exact H
                    clear H
                    have H := H1
                    clear H1
                    obtain rfl := Option.some.inj H
                    have hnb71 := NB224_227.out
                    have hnc71 := NB227_224.out
                    have hcz72_0 : wr.cell? ⟨gb224, 0, none⟩ = some (.int .i64 a0_0) := (blk_cell BK224.out 0).trans rfl
                    have hcz72_1 : wr.cell? ⟨gb224, 1, none⟩ = some (.slice (some ad226) l0_1.length c0_1) := (blk_cell BK224.out 1).trans rfl
                    have hfz72_0 := blk_frozen BK224.out 0
                    have hfz72_1 := blk_frozen BK224.out 1
                    have p231 : 0 ≤ (x6_4 : Int) := of_decide_eq_true (by first | (with_reducible assumption) | assumption)
                    have q231 : x6_4 < (l0_1.length : Int) := of_decide_eq_true (by first | (with_reducible assumption) | assumption)
                    obtain ⟨ad231, e231, hx231_0, hx231_1, hx231_2, hx231_3, hx231_4, hx231_5, hx231_6, hx231_7, hx231_8, hx231_9, hx231_10, hx231_11, hx231_12, hx231_13, hx231_14, hx231_15⟩ := at_T75 HR0_1.out x6_4 p231 q231
                    (try rw [← Nbq28.out] at hx231_0)
                    (try rw [← Nbq66.out] at hx231_0)
                    obtain rfl : ad226 = ad231 := (by injection e231)
                    replace hx231_0 := Gv.bx HB.out hx231_0
                    replace hx231_1 := Gv.bx HB.out hx231_1
                    replace hx231_2 := Gv.bx HB.out hx231_2
                    replace hx231_3 := Gv.bx HB.out hx231_3
                    replace hx231_4 := Gv.bx HB.out hx231_4
                    replace hx231_5 := Gv.bx HB.out hx231_5
                    replace hx231_6 := Gv.bx HB.out hx231_6
                    replace hx231_7 := Gv.bx HB.out hx231_7
                    replace hx231_8 := Gv.bx HB.out hx231_8
                    replace hx231_9 := Gv.bx HB.out hx231_9
                    replace hx231_10 := Gv.bx HB.out hx231_10
                    replace hx231_11 := Gv.bx HB.out hx231_11
                    replace hx231_12 := Gv.bx HB.out hx231_12
                    replace hx231_13 := Gv.bx HB.out hx231_13
                    replace hx231_14 := Gv.bx HB.out hx231_14
                    replace hx231_15 := Gv.bx HB.out hx231_15
                    replace p231 := eq_true p231
                    replace q231 := eq_true q231
                    go_wp2_with (first | ((with_reducible refine Gv.gate_load (t := 75) rfl ?_); (try (refine gate_guard (by rfl) ?_; dsimp only)); refine wpList_load_row rfl 75 _ rfl gb227 rfl 75 _ _ _ (Gv.kbp BK227.out) Try.underlying75 rfl (by kernel_rfl) ?_))
                    go_ret
                    exact ⟨by first | rfl | (simp [errW_none, errW_some] <;> rfl) | (simp [*, errW_none, errW_some] <;> rfl), by repeat (first | (with_reducible first | exact HB.out | apply below_alloc | apply pw_below_drewN | apply below_drew1 | refine below_set ?_ GE224.out | refine below_set ?_ GE227.out) | exact HB.out)⟩
                  ·rw [if_neg c65] at H
                   exact absurd H (by simp)
                 ·rw [if_neg c64] at H
                  exact absurd H (by simp)
          ·replace c29 := Bool.eq_false_iff.mpr c29
           subst c29
           have H1 : (if (((!(((rd_T75 l0_1 x4_2).f1.f0) == 0) || (((!(((rd_T75 l0_1 x4_2).f1.f1.f0.f0) == 0) || (!(((rd_T75 l0_1 x4_2).f1.f1.f0.f1) == 0) || (!(((rd_T75 l0_1 x4_2).f1.f1.f0.f2) == 0) || (!(((rd_T75 l0_1 x4_2).f1.f1.f0.f3) == 0) || (!(((rd_T75 l0_1 x4_2).f1.f1.f0.f4) == 0)))))) || ((!(((rd_T75 l0_1 x4_2).f1.f1.f1.f0) == 0) || (!(((rd_T75 l0_1 x4_2).f1.f1.f1.f1) == 0) || (!(((rd_T75 l0_1 x4_2).f1.f1.f1.f2) == 0) || (!(((rd_T75 l0_1 x4_2).f1.f1.f1.f3) == 0) || (!(((rd_T75 l0_1 x4_2).f1.f1.f1.f4) == 0)))))) || (!(((rd_T75 l0_1 x4_2).f1.f1.f2) == 0) || (!(((rd_T75 l0_1 x4_2).f1.f1.f3) == 0) || (!(((rd_T75 l0_1 x4_2).f1.f1.f4) == 0)))))))) || (!(((rd_T75 l0_1 x4_2).f2) == 0)))) = true then (some false) else (spec_TableOk.l0 k2 (l0_1.length : Int) (wrap64 (x4_2 + 1)) a0_0 l0_1)) = some r := by rw [if_neg (show ¬ (false = true) by decide)] at H; exact H
           clear H
           have H := H1
           clear H1
           by_cases c73 : (((!(((rd_T75 l0_1 x4_2).f1.f0) == 0) || (((!(((rd_T75 l0_1 x4_2).f1.f1.f0.f0) == 0) || (!(((rd_T75 l0_1 x4_2).f1.f1.f0.f1) == 0) || (!(((rd_T75 l0_1 x4_2).f1.f1.f0.f2) == 0) || (!(((rd_T75 l0_1 x4_2).f1.f1.f0.f3) == 0) || (!(((rd_T75 l0_1 x4_2).f1.f1.f0.f4) == 0)))))) || ((!(((rd_T75 l0_1 x4_2).f1.f1.f1.f0) == 0) || (!(((rd_T75 l0_1 x4_2).f1.f1.f1.f1) == 0) || (!(((rd_T75 l0_1 x4_2).f1.f1.f1.f2) == 0) || (!(((rd_T75 l0_1 x4_2).f1.f1.f1.f3) == 0) || (!(((rd_T75 l0_1 x4_2).f1.f1.f1.f4) == 0)))))) || (!(((rd_T75 l0_1 x4_2).f1.f1.f2) == 0) || (!(((rd_T75 l0_1 x4_2).f1.f1.f3) == 0) || (!(((rd_T75 l0_1 x4_2).f1.f1.f4) == 0)))))))) || (!(((rd_T75 l0_1 x4_2).f2) == 0)))) = true
           ·rw [if_pos c73] at H
            have c73b0 : (((!(((rd_T75 l0_1 x4_2).f1.f0) == 0) || (((!(((rd_T75 l0_1 x4_2).f1.f1.f0.f0) == 0) || (!(((rd_T75 l0_1 x4_2).f1.f1.f0.f1) == 0) || (!(((rd_T75 l0_1 x4_2).f1.f1.f0.f2) == 0) || (!(((rd_T75 l0_1 x4_2).f1.f1.f0.f3) == 0) || (!(((rd_T75 l0_1 x4_2).f1.f1.f0.f4) == 0)))))) || ((!(((rd_T75 l0_1 x4_2).f1.f1.f1.f0) == 0) || (!(((rd_T75 l0_1 x4_2).f1.f1.f1.f1) == 0) || (!(((rd_T75 l0_1 x4_2).f1.f1.f1.f2) == 0) || (!(((rd_T75 l0_1 x4_2).f1.f1.f1.f3) == 0) || (!(((rd_T75 l0_1 x4_2).f1.f1.f1.f4) == 0)))))) || (!(((rd_T75 l0_1 x4_2).f1.f1.f2) == 0) || (!(((rd_T75 l0_1 x4_2).f1.f1.f3) == 0) || (!(((rd_T75 l0_1 x4_2).f1.f1.f4) == 0)))))))) || (!(((rd_T75 l0_1 x4_2).f2) == 0)))) = true := c73
            clear c73
            obtain rfl := Option.some.inj H
            have hcz74_0 : wr.cell? ⟨gb224, 0, none⟩ = some (.int .i64 a0_0) := (blk_cell BK224.out 0).trans rfl
            have hcz74_1 : wr.cell? ⟨gb224, 1, none⟩ = some (.slice A0_1 l0_1.length c0_1) := (blk_cell BK224.out 1).trans rfl
            have hfz74_0 := blk_frozen BK224.out 0
            have hfz74_1 := blk_frozen BK224.out 1
            have p226 : 0 ≤ (x4_2 : Int) := of_decide_eq_true (by first | (with_reducible assumption) | assumption)
            have q226 : x4_2 < (l0_1.length : Int) := of_decide_eq_true (by first | (with_reducible assumption) | assumption)
            obtain ⟨ad226, e226, hx226_0, hx226_1, hx226_2, hx226_3, hx226_4, hx226_5, hx226_6, hx226_7, hx226_8, hx226_9, hx226_10, hx226_11, hx226_12, hx226_13, hx226_14, hx226_15⟩ := at_T75 HR0_1.out x4_2 p226 q226
            (try rw [← Nbq28.out] at hx226_0)
            cases e226
            replace hx226_0 := Gv.bx HB.out hx226_0
            replace hx226_1 := Gv.bx HB.out hx226_1
            replace hx226_2 := Gv.bx HB.out hx226_2
            replace hx226_3 := Gv.bx HB.out hx226_3
            replace hx226_4 := Gv.bx HB.out hx226_4
            replace hx226_5 := Gv.bx HB.out hx226_5
            replace hx226_6 := Gv.bx HB.out hx226_6
            replace hx226_7 := Gv.bx HB.out hx226_7
            replace hx226_8 := Gv.bx HB.out hx226_8
            replace hx226_9 := Gv.bx HB.out hx226_9
            replace hx226_10 := Gv.bx HB.out hx226_10
            replace hx226_11 := Gv.bx HB.out hx226_11
            replace hx226_12 := Gv.bx HB.out hx226_12
            replace hx226_13 := Gv.bx HB.out hx226_13
            replace hx226_14 := Gv.bx HB.out hx226_14
            replace hx226_15 := Gv.bx HB.out hx226_15
            replace p226 := eq_true p226
            replace q226 := eq_true q226
            go_wp2_with (first | ((with_reducible refine gate_dst (N := 5) rfl ?_); refine box_event ?hg (N := 5) ?hd (cs := #[.bool false, .int .i64 0, .int .i64 0, .int .i64 0, .int .i64 0, .int .i64 0, .int .i64 0, .int .i64 0, .int .i64 0, .int .i64 0, .int .i64 0, .int .i64 0, .int .i64 0, .int .i64 0, .int .i64 0, .int .i64 0]) (t := 75) ?hr ?_; (case hd => rfl); (case hg => rfl); (case hr => first | (go_simp; done) | (go_simp; rfl)); intro gb227 hg w75 hbox hb; have n0_ := Gv.a0 (Gv.bb BK224.out hb); have n1_ := Gv.a0 (below_step Gv.bw hb); have n2_ := Gv.a0 (hbox); have n3_ := Gv.a0 ((Gv.ble hg Gv.bw : w.heap.size ≤ gb227)); have n4_ := Gv.a0 ((Gv.ble hg Gv.bw : w.heap.size ≤ gb227)); have n5_ := Gv.a0 ((Gv.nlt hg (Gv.kb BK224.out) : gb224 ≠ gb227)); have n6_ := Gv.a0 ((Gv.ngt hg (Gv.kb BK224.out) : gb227 ≠ gb224)); clear BK224; clear HB; have BK224 := n0_; have HB := n1_; have BK227 := n2_; have GW227 := n3_; have GE227 := n4_; have NB224_227 := n5_; have NB227_224 := n6_; clear n0_ n1_ n2_ n3_ n4_ n5_ n6_; clear hb hbox hg; have hnb76 := NB227_224.out; have hnc76 := NB224_227.out; obtain ⟨hcz77_0, hcz77_1, hcz77_2, hcz77_3, hcz77_4, hcz77_5, hcz77_6, hcz77_7, hcz77_8, hcz77_9, hcz77_10, hcz77_11, hcz77_12, hcz77_13, hcz77_14, hcz77_15⟩ := Gv.c16 BK227.out; obtain ⟨hfz77_0, hfz77_1, hfz77_2, hfz77_3, hfz77_4, hfz77_5, hfz77_6, hfz77_7, hfz77_8, hfz77_9, hfz77_10, hfz77_11, hfz77_12, hfz77_13, hfz77_14, hfz77_15⟩ := Gv.f16 BK227.out) | ((with_reducible refine gate_store (t := 75) (p := 5) rfl ?_); refine Gv.store_event rfl rfl rfl rfl rfl (Gv.kb BK227.out) (by kernel_rfl) rfl (by simp; and_intros <;> rfl) ?_; intro w75s hbox hoth hbel; have n0_ := Gv.a0 (hbox); have n1_ := Gv.a0 (hbel w Gv.bw GE227.out); have n2_ := Gv.a0 ((hoth gb224 NB224_227.out).trans (Gv.kb BK224.out)); clear BK227 HB BK224; have BK227 := n0_; have HB := n1_; have BK224 := n2_; clear n0_ n1_ n2_ hbox hoth hbel; (try clear hcz77_0 hcz77_1 hcz77_2 hcz77_3 hcz77_4 hcz77_5 hcz77_6 hcz77_7 hcz77_8 hcz77_9 hcz77_10 hcz77_11 hcz77_12 hcz77_13 hcz77_14 hcz77_15 hfz77_0 hfz77_1 hfz77_2 hfz77_3 hfz77_4 hfz77_5 hfz77_6 hfz77_7 hfz77_8 hfz77_9 hfz77_10 hfz77_11 hfz77_12 hfz77_13 hfz77_14 hfz77_15); obtain ⟨hcz77_0, hcz77_1, hcz77_2, hcz77_3, hcz77_4, hcz77_5, hcz77_6, hcz77_7, hcz77_8, hcz77_9, hcz77_10, hcz77_11, hcz77_12, hcz77_13, hcz77_14, hcz77_15⟩ := Gv.c16 BK227.out; obtain ⟨hfz77_0, hfz77_1, hfz77_2, hfz77_3, hfz77_4, hfz77_5, hfz77_6, hfz77_7, hfz77_8, hfz77_9, hfz77_10, hfz77_11, hfz77_12, hfz77_13, hfz77_14, hfz77_15⟩ := Gv.f16 BK227.out) | ((with_reducible refine Gv.gate_load (t := 75) rfl ?_); (try (refine gate_guard (by rfl) ?_; dsimp only)); refine wpList_load_row rfl 75 _ rfl gb227 rfl 75 _ _ _ (Gv.kbp BK227.out) Try.underlying75 rfl (by kernel_rfl) ?_) | ((with_reducible refine Gv.gate_load (t := 75) rfl ?_); refine Gv.load_event (cs := [_, _, _, _, _, _, _, _, _, _, _, _, _, _, _, _]) rfl rfl rfl ⟨hx226_0, hx226_1, hx226_2, hx226_3, hx226_4, hx226_5, hx226_6, hx226_7, hx226_8, hx226_9, hx226_10, hx226_11, hx226_12, hx226_13, hx226_14, hx226_15, trivial⟩ Try.underlying75 rfl (by kernel_rfl) ?_))
            go_ret
            exact ⟨by first | rfl | (simp [errW_none, errW_some] <;> rfl) | (simp [*, errW_none, errW_some] <;> rfl), by repeat (first | (with_reducible first | exact HB.out | apply below_alloc | apply pw_below_drewN | apply below_drew1 | refine below_set ?_ GE224.out | refine below_set ?_ GE227.out) | exact HB.out)⟩
           ·rw [if_neg c73] at H
            have c73b0 : (((!(((rd_T75 l0_1 x4_2).f1.f0) == 0) || (((!(((rd_T75 l0_1 x4_2).f1.f1.f0.f0) == 0) || (!(((rd_T75 l0_1 x4_2).f1.f1.f0.f1) == 0) || (!(((rd_T75 l0_1 x4_2).f1.f1.f0.f2) == 0) || (!(((rd_T75 l0_1 x4_2).f1.f1.f0.f3) == 0) || (!(((rd_T75 l0_1 x4_2).f1.f1.f0.f4) == 0)))))) || ((!(((rd_T75 l0_1 x4_2).f1.f1.f1.f0) == 0) || (!(((rd_T75 l0_1 x4_2).f1.f1.f1.f1) == 0) || (!(((rd_T75 l0_1 x4_2).f1.f1.f1.f2) == 0) || (!(((rd_T75 l0_1 x4_2).f1.f1.f1.f3) == 0) || (!(((rd_T75 l0_1 x4_2).f1.f1.f1.f4) == 0)))))) || (!(((rd_T75 l0_1 x4_2).f1.f1.f2) == 0) || (!(((rd_T75 l0_1 x4_2).f1.f1.f3) == 0) || (!(((rd_T75 l0_1 x4_2).f1.f1.f4) == 0)))))))) || (!(((rd_T75 l0_1 x4_2).f2) == 0)))) = false := by simpa using c73
            clear c73
            have H' := Gv.a0 H
            clear H
            have hcz78_0 : wr.cell? ⟨gb224, 0, none⟩ = some (.int .i64 a0_0) := (blk_cell BK224.out 0).trans rfl
            have hcz78_1 : wr.cell? ⟨gb224, 1, none⟩ = some (.slice A0_1 l0_1.length c0_1) := (blk_cell BK224.out 1).trans rfl
            have hfz78_0 := blk_frozen BK224.out 0
            have hfz78_1 := blk_frozen BK224.out 1
            have p226 : 0 ≤ (x4_2 : Int) := of_decide_eq_true (by first | (with_reducible assumption) | assumption)
            have q226 : x4_2 < (l0_1.length : Int) := of_decide_eq_true (by first | (with_reducible assumption) | assumption)
            obtain ⟨ad226, e226, hx226_0, hx226_1, hx226_2, hx226_3, hx226_4, hx226_5, hx226_6, hx226_7, hx226_8, hx226_9, hx226_10, hx226_11, hx226_12, hx226_13, hx226_14, hx226_15⟩ := at_T75 HR0_1.out x4_2 p226 q226
            (try rw [← Nbq28.out] at hx226_0)
            cases e226
            replace hx226_0 := Gv.bx HB.out hx226_0
            replace hx226_1 := Gv.bx HB.out hx226_1
            replace hx226_2 := Gv.bx HB.out hx226_2
            replace hx226_3 := Gv.bx HB.out hx226_3
            replace hx226_4 := Gv.bx HB.out hx226_4
            replace hx226_5 := Gv.bx HB.out hx226_5
            replace hx226_6 := Gv.bx HB.out hx226_6
            replace hx226_7 := Gv.bx HB.out hx226_7
            replace hx226_8 := Gv.bx HB.out hx226_8
            replace hx226_9 := Gv.bx HB.out hx226_9
            replace hx226_10 := Gv.bx HB.out hx226_10
            replace hx226_11 := Gv.bx HB.out hx226_11
            replace hx226_12 := Gv.bx HB.out hx226_12
            replace hx226_13 := Gv.bx HB.out hx226_13
            replace hx226_14 := Gv.bx HB.out hx226_14
            replace hx226_15 := Gv.bx HB.out hx226_15
            replace p226 := eq_true p226
            replace q226 := eq_true q226
            go_wp2_with (first | ((with_reducible refine gate_dst (N := 5) rfl ?_); refine box_event ?hg (N := 5) ?hd (cs := #[.bool false, .int .i64 0, .int .i64 0, .int .i64 0, .int .i64 0, .int .i64 0, .int .i64 0, .int .i64 0, .int .i64 0, .int .i64 0, .int .i64 0, .int .i64 0, .int .i64 0, .int .i64 0, .int .i64 0, .int .i64 0]) (t := 75) ?hr ?_; (case hd => rfl); (case hg => rfl); (case hr => first | (go_simp; done) | (go_simp; rfl)); intro gb227 hg w79 hbox hb; have n0_ := Gv.a0 (Gv.bb BK224.out hb); have n1_ := Gv.a0 (below_step Gv.bw hb); have n2_ := Gv.a0 (hbox); have n3_ := Gv.a0 ((Gv.ble hg Gv.bw : w.heap.size ≤ gb227)); have n4_ := Gv.a0 ((Gv.ble hg Gv.bw : w.heap.size ≤ gb227)); have n5_ := Gv.a0 ((Gv.nlt hg (Gv.kb BK224.out) : gb224 ≠ gb227)); have n6_ := Gv.a0 ((Gv.ngt hg (Gv.kb BK224.out) : gb227 ≠ gb224)); clear BK224; clear HB; have BK224 := n0_; have HB := n1_; have BK227 := n2_; have GW227 := n3_; have GE227 := n4_; have NB224_227 := n5_; have NB227_224 := n6_; clear n0_ n1_ n2_ n3_ n4_ n5_ n6_; clear hb hbox hg; have hnb80 := NB227_224.out; have hnc80 := NB224_227.out; obtain ⟨hcz81_0, hcz81_1, hcz81_2, hcz81_3, hcz81_4, hcz81_5, hcz81_6, hcz81_7, hcz81_8, hcz81_9, hcz81_10, hcz81_11, hcz81_12, hcz81_13, hcz81_14, hcz81_15⟩ := Gv.c16 BK227.out; obtain ⟨hfz81_0, hfz81_1, hfz81_2, hfz81_3, hfz81_4, hfz81_5, hfz81_6, hfz81_7, hfz81_8, hfz81_9, hfz81_10, hfz81_11, hfz81_12, hfz81_13, hfz81_14, hfz81_15⟩ := Gv.f16 BK227.out) | ((with_reducible refine gate_store (t := 75) (p := 5) rfl ?_); refine Gv.store_event rfl rfl rfl rfl rfl (Gv.kb BK227.out) (by kernel_rfl) rfl (by simp; and_intros <;> rfl) ?_; intro w79s hbox hoth hbel; have n0_ := Gv.a0 (hbox); have n1_ := Gv.a0 (hbel w Gv.bw GE227.out); have n2_ := Gv.a0 ((hoth gb224 NB224_227.out).trans (Gv.kb BK224.out)); clear BK227 HB BK224; have BK227 := n0_; have HB := n1_; have BK224 := n2_; clear n0_ n1_ n2_ hbox hoth hbel; (try clear hcz81_0 hcz81_1 hcz81_2 hcz81_3 hcz81_4 hcz81_5 hcz81_6 hcz81_7 hcz81_8 hcz81_9 hcz81_10 hcz81_11 hcz81_12 hcz81_13 hcz81_14 hcz81_15 hfz81_0 hfz81_1 hfz81_2 hfz81_3 hfz81_4 hfz81_5 hfz81_6 hfz81_7 hfz81_8 hfz81_9 hfz81_10 hfz81_11 hfz81_12 hfz81_13 hfz81_14 hfz81_15); obtain ⟨hcz81_0, hcz81_1, hcz81_2, hcz81_3, hcz81_4, hcz81_5, hcz81_6, hcz81_7, hcz81_8, hcz81_9, hcz81_10, hcz81_11, hcz81_12, hcz81_13, hcz81_14, hcz81_15⟩ := Gv.c16 BK227.out; obtain ⟨hfz81_0, hfz81_1, hfz81_2, hfz81_3, hfz81_4, hfz81_5, hfz81_6, hfz81_7, hfz81_8, hfz81_9, hfz81_10, hfz81_11, hfz81_12, hfz81_13, hfz81_14, hfz81_15⟩ := Gv.f16 BK227.out) | ((with_reducible refine Gv.gate_load (t := 75) rfl ?_); (try (refine gate_guard (by rfl) ?_; dsimp only)); refine wpList_load_row rfl 75 _ rfl gb227 rfl 75 _ _ _ (Gv.kbp BK227.out) Try.underlying75 rfl (by kernel_rfl) ?_) | ((with_reducible refine Gv.gate_load (t := 75) rfl ?_); refine Gv.load_event (cs := [_, _, _, _, _, _, _, _, _, _, _, _, _, _, _, _]) rfl rfl rfl ⟨hx226_0, hx226_1, hx226_2, hx226_3, hx226_4, hx226_5, hx226_6, hx226_7, hx226_8, hx226_9, hx226_10, hx226_11, hx226_12, hx226_13, hx226_14, hx226_15, trivial⟩ Try.underlying75 rfl (by kernel_rfl) ?_))
            go_roundg k2
            case measure => have := HJ1.out; have := HK2.out; omega
            case rel => exact ⟨(wrap64 (x4_2 + 1)), (by first | rfl | (simp; done) | (simp [Int.tdiv_eq_ediv_of_nonneg]; done) | (simp [*]; done)), H', ⟨by have := HJ1.out; have := HK2.out; omega⟩, ⟨by (with_reducible repeat (first | refine blk_drewN ?_ _ | refine blk_drew ?_ | refine blk_alloc ?_ _)); (repeat (refine blk_far ?_ NB224_227.out _; (with_reducible repeat (first | refine blk_drewN ?_ _ | refine blk_drew ?_ | refine blk_alloc ?_ _)))); (with_reducible repeat (first | refine blk_drewN ?_ _ | refine blk_drew ?_ | refine blk_alloc ?_ _)); exact BK224.out⟩, ⟨by repeat (first | (with_reducible first | exact HB.out | apply below_alloc | apply pw_below_drewN | apply below_drew1 | refine below_set ?_ GE224.out | refine below_set ?_ GE227.out) | exact HB.out)⟩⟩
         ·rw [if_neg c27] at H
          exact absurd H (by simp)
        ·rw [if_neg c26] at H
         exact absurd H (by simp)
       ·rw [if_neg c25] at H
        have c25b0 : decide (x4_2 < (l0_1.length : Int)) = false := decide_eq_false c25
        clear c25
        obtain rfl := Option.some.inj H
        go_wp2_with (first | ((with_reducible refine Gv.gate_load (t := 75) rfl ?_); (try (refine gate_guard (by rfl) ?_; dsimp only)); refine wpList_load_row rfl 75 _ rfl gb227 rfl 75 _ _ _ (Gv.kbp BK227.out) Try.underlying75 rfl (by kernel_rfl) ?_))
        go_ret
        exact ⟨by first | rfl | (simp [errW_none, errW_some] <;> rfl) | (simp [*, errW_none, errW_some] <;> rfl), by repeat (first | (with_reducible first | exact HB.out | apply below_alloc | apply pw_below_drewN | apply below_drew1 | refine below_set ?_ GE224.out) | exact HB.out)⟩

/-! ### laws_toAddr: function 67 -/
def laws_toAddr.f (a0_0 : Int) (a0_1 : Int) (a0_2 : Int) (a0_3 : Int) (a0_4 : Int) : Option (Int × Int × Int × Int × Int) := some (a0_0, a0_1, a0_2, a0_3, a0_4)
set_option maxHeartbeats 8000000 in
set_option maxRecDepth 100000 in
theorem laws_toAddr.calls (a0_0 : Int) (a0_1 : Int) (a0_2 : Int) (a0_3 : Int) (a0_4 : Int) (r1 : Int) (r2 : Int) (r3 : Int) (r4 : Int) (r5 : Int) (w : World) (h : laws_toAddr.f a0_0 a0_1 a0_2 a0_3 a0_4 = some (r1, r2, r3, r4, r5)) :
  Calls Try.prog 67 #[.agg #[.int .i64 a0_0, .int .i64 a0_1, .int .i64 a0_2, .int .i64 a0_3, .int .i64 a0_4]] w fun e w' => e = .returned (.agg #[.int .i64 r1, .int .i64 r2, .int .i64 r3, .int .i64 r4, .int .i64 r5]) ∧ Below w.heap.size w w' := by
 have hu23 := Try.underlying23
 have hu29 := Try.underlying29
 have HB := Gv.a0 (Below.refl w.heap.size w)
 have H : (some (a0_0, a0_1, a0_2, a0_3, a0_4)) = some (r1, r2, r3, r4, r5) := h
 clear h
 simp only [Option.some.injEq, Prod.mk.injEq] at H
 obtain ⟨rfl, rfl, rfl, rfl, rfl⟩ := H
 go_enter Try.func67, Try.ntmps67
 go_wp2_with (first | ((with_reducible refine gate_dst (N := 1) rfl ?_); refine box_event ?hg (N := 1) ?hd (cs := #[.int .i64 a0_0, .int .i64 a0_1, .int .i64 a0_2, .int .i64 a0_3, .int .i64 a0_4]) (t := 23) ?hr ?_; (case hd => rfl); (case hg => rfl); (case hr => first | (go_simp; done) | (go_simp; rfl)); intro gb232 hg w2 hbox hb; have n0_ := Gv.a0 (below_step Gv.bw hb); have n1_ := Gv.a0 (hbox); have n2_ := Gv.a0 ((Gv.ble hg Gv.bw : w.heap.size ≤ gb232)); have n3_ := Gv.a0 ((Gv.ble hg Gv.bw : w.heap.size ≤ gb232)); clear HB; have HB := n0_; have BK232 := n1_; have GW232 := n2_; have GE232 := n3_; clear n0_ n1_ n2_ n3_; clear hb hbox hg) | ((with_reducible refine gate_dst (N := 2) rfl ?_); refine box_event ?hg (N := 2) ?hd (cs := #[.int .i64 0, .int .i64 0, .int .i64 0, .int .i64 0, .int .i64 0]) (t := 29) ?hr ?_; (case hd => rfl); (case hg => rfl); (case hr => first | (go_simp; done) | (go_simp; rfl)); intro gb233 hg w3 hbox hb; have n0_ := Gv.a0 (Gv.bb BK232.out hb); have n1_ := Gv.a0 (below_step Gv.bw hb); have n2_ := Gv.a0 (hbox); have n3_ := Gv.a0 ((Gv.ble hg Gv.bw : w.heap.size ≤ gb233)); have n4_ := Gv.a0 ((Gv.ble hg Gv.bw : w.heap.size ≤ gb233)); have n5_ := Gv.a0 ((Gv.nlt hg (Gv.kb BK232.out) : gb232 ≠ gb233)); have n6_ := Gv.a0 ((Gv.ngt hg (Gv.kb BK232.out) : gb233 ≠ gb232)); clear BK232; clear HB; have BK232 := n0_; have HB := n1_; have BK233 := n2_; have GW233 := n3_; have GE233 := n4_; have NB232_233 := n5_; have NB233_232 := n6_; clear n0_ n1_ n2_ n3_ n4_ n5_ n6_; clear hb hbox hg) | ((with_reducible refine gate_dst (N := 3) rfl ?_); refine box_event ?hg (N := 3) ?hd (cs := #[.int .i64 0, .int .i64 0, .int .i64 0, .int .i64 0, .int .i64 0]) (t := 29) ?hr ?_; (case hd => rfl); (case hg => rfl); (case hr => first | (go_simp; done) | (go_simp; rfl)); intro gb234 hg w4 hbox hb; have n0_ := Gv.a0 (Gv.bb BK232.out hb); have n1_ := Gv.a0 (Gv.bb BK233.out hb); have n2_ := Gv.a0 (below_step Gv.bw hb); have n3_ := Gv.a0 (hbox); have n4_ := Gv.a0 ((Gv.ble hg Gv.bw : w.heap.size ≤ gb234)); have n5_ := Gv.a0 ((Gv.ble hg Gv.bw : w.heap.size ≤ gb234)); have n6_ := Gv.a0 ((Gv.nlt hg (Gv.kb BK232.out) : gb232 ≠ gb234)); have n7_ := Gv.a0 ((Gv.ngt hg (Gv.kb BK232.out) : gb234 ≠ gb232)); have n8_ := Gv.a0 ((Gv.nlt hg (Gv.kb BK233.out) : gb233 ≠ gb234)); have n9_ := Gv.a0 ((Gv.ngt hg (Gv.kb BK233.out) : gb234 ≠ gb233)); clear BK232; clear BK233; clear HB; have BK232 := n0_; have BK233 := n1_; have HB := n2_; have BK234 := n3_; have GW234 := n4_; have GE234 := n5_; have NB232_234 := n6_; have NB234_232 := n7_; have NB233_234 := n8_; have NB234_233 := n9_; clear n0_ n1_ n2_ n3_ n4_ n5_ n6_ n7_ n8_ n9_; clear hb hbox hg; have hnb5 := NB232_233.out; have hnc5 := NB233_232.out; have hnb6 := NB232_234.out; have hnc6 := NB234_232.out; obtain ⟨hcz7_0, hcz7_1, hcz7_2, hcz7_3, hcz7_4⟩ := Gv.c5 BK232.out; obtain ⟨hfz7_0, hfz7_1, hfz7_2, hfz7_3, hfz7_4⟩ := Gv.f5 BK232.out; have hnb8 := NB234_233.out; have hnc8 := NB233_234.out; obtain ⟨hcz9_0, hcz9_1, hcz9_2, hcz9_3, hcz9_4⟩ := Gv.c5 BK234.out; obtain ⟨hfz9_0, hfz9_1, hfz9_2, hfz9_3, hfz9_4⟩ := Gv.f5 BK234.out; obtain ⟨hcz10_0, hcz10_1, hcz10_2, hcz10_3, hcz10_4⟩ := Gv.c5 BK233.out; obtain ⟨hfz10_0, hfz10_1, hfz10_2, hfz10_3, hfz10_4⟩ := Gv.f5 BK233.out))
 refine bodyPost_ret (results_cell_row rfl _ _ gb233 29 #[.int .i64 a0_0, .int .i64 a0_1, .int .i64 a0_2, .int .i64 a0_3, .int .i64 a0_4] (0, 0) _ rfl (by (with_reducible repeat (first | refine blk_drewN ?_ _ | refine blk_drew ?_ | refine blk_alloc ?_ _)); refine blk_put (cs := #[.int .i64 a0_0, .int .i64 a0_1, .int .i64 a0_2, .int .i64 a0_3, .int .i64 0]) ?_ 4 _ rfl; (with_reducible repeat (first | refine blk_drewN ?_ _ | refine blk_drew ?_ | refine blk_alloc ?_ _)); refine blk_put (cs := #[.int .i64 a0_0, .int .i64 a0_1, .int .i64 a0_2, .int .i64 0, .int .i64 0]) ?_ 3 _ rfl; (with_reducible repeat (first | refine blk_drewN ?_ _ | refine blk_drew ?_ | refine blk_alloc ?_ _)); refine blk_put (cs := #[.int .i64 a0_0, .int .i64 a0_1, .int .i64 0, .int .i64 0, .int .i64 0]) ?_ 2 _ rfl; (with_reducible repeat (first | refine blk_drewN ?_ _ | refine blk_drew ?_ | refine blk_alloc ?_ _)); refine blk_put (cs := #[.int .i64 a0_0, .int .i64 0, .int .i64 0, .int .i64 0, .int .i64 0]) ?_ 1 _ rfl; (with_reducible repeat (first | refine blk_drewN ?_ _ | refine blk_drew ?_ | refine blk_alloc ?_ _)); refine blk_put (cs := #[.int .i64 0, .int .i64 0, .int .i64 0, .int .i64 0, .int .i64 0]) ?_ 0 _ rfl; (with_reducible repeat (first | refine blk_drewN ?_ _ | refine blk_drew ?_ | refine blk_alloc ?_ _)); refine blk_far ?_ NB233_234.out _; (with_reducible repeat (first | refine blk_drewN ?_ _ | refine blk_drew ?_ | refine blk_alloc ?_ _)); refine blk_far ?_ NB233_234.out _; (with_reducible repeat (first | refine blk_drewN ?_ _ | refine blk_drew ?_ | refine blk_alloc ?_ _)); refine blk_far ?_ NB233_234.out _; (with_reducible repeat (first | refine blk_drewN ?_ _ | refine blk_drew ?_ | refine blk_alloc ?_ _)); refine blk_far ?_ NB233_234.out _; (with_reducible repeat (first | refine blk_drewN ?_ _ | refine blk_drew ?_ | refine blk_alloc ?_ _)); refine blk_far ?_ NB233_234.out _; (with_reducible repeat (first | refine blk_drewN ?_ _ | refine blk_drew ?_ | refine blk_alloc ?_ _)); exact BK233.out) Try.underlying29 rfl (by kernel_rfl)) rfl ?_
 exact ⟨by first | rfl | (simp [errW_none, errW_some] <;> rfl) | (simp [*, errW_none, errW_some] <;> rfl), by repeat (first | (with_reducible first | exact HB.out | apply below_alloc | apply pw_below_drewN | apply below_drew1 | refine below_set ?_ GE232.out | refine below_set ?_ GE233.out | refine below_set ?_ GE234.out) | exact HB.out)⟩

/-! ### laws_toKey: function 43 -/
def laws_toKey.f (a0_0 : Int) (a0_1 : Int) (a0_2 : Int) (a0_3 : Int) (a0_4 : Int) (a0_5 : Int) (a0_6 : Int) (a0_7 : Int) (a0_8 : Int) (a0_9 : Int) (a0_10 : Int) (a0_11 : Int) (a0_12 : Int) : Option (Int × Int × Int × Int × Int × Int × Int × Int × Int × Int × Int × Int × Int) := (laws_toAddr.f a0_0 a0_1 a0_2 a0_3 a0_4).bind fun bt238 => ((laws_toAddr.f a0_5 a0_6 a0_7 a0_8 a0_9).bind fun bt243 => (some (bt238.1, bt238.2.1, bt238.2.2.1, bt238.2.2.2.1, bt238.2.2.2.2, bt243.1, bt243.2.1, bt243.2.2.1, bt243.2.2.2.1, bt243.2.2.2.2, a0_10, a0_11, a0_12)))
set_option maxHeartbeats 8000000 in
set_option maxRecDepth 100000 in
theorem laws_toKey.calls (a0_0 : Int) (a0_1 : Int) (a0_2 : Int) (a0_3 : Int) (a0_4 : Int) (a0_5 : Int) (a0_6 : Int) (a0_7 : Int) (a0_8 : Int) (a0_9 : Int) (a0_10 : Int) (a0_11 : Int) (a0_12 : Int) (r1 : Int) (r2 : Int) (r3 : Int) (r4 : Int) (r5 : Int) (r6 : Int) (r7 : Int) (r8 : Int) (r9 : Int) (r10 : Int) (r11 : Int) (r12 : Int) (r13 : Int) (w : World) (h : laws_toKey.f a0_0 a0_1 a0_2 a0_3 a0_4 a0_5 a0_6 a0_7 a0_8 a0_9 a0_10 a0_11 a0_12 = some (r1, r2, r3, r4, r5, r6, r7, r8, r9, r10, r11, r12, r13)) :
  Calls Try.prog 43 #[.agg #[.int .i64 a0_0, .int .i64 a0_1, .int .i64 a0_2, .int .i64 a0_3, .int .i64 a0_4, .int .i64 a0_5, .int .i64 a0_6, .int .i64 a0_7, .int .i64 a0_8, .int .i64 a0_9, .int .i64 a0_10, .int .i64 a0_11, .int .i64 a0_12]] w fun e w' => e = .returned (.agg #[.int .i64 r1, .int .i64 r2, .int .i64 r3, .int .i64 r4, .int .i64 r5, .int .i64 r6, .int .i64 r7, .int .i64 r8, .int .i64 r9, .int .i64 r10, .int .i64 r11, .int .i64 r12, .int .i64 r13]) ∧ Below w.heap.size w w' := by
 have hu25 := Try.underlying25
 have hu31 := Try.underlying31
 have hu23 := Try.underlying23
 have hu29 := Try.underlying29
 have HB := Gv.a0 (Below.refl w.heap.size w)
 have H : ((laws_toAddr.f a0_0 a0_1 a0_2 a0_3 a0_4).bind fun bt238 => ((laws_toAddr.f a0_5 a0_6 a0_7 a0_8 a0_9).bind fun bt243 => (some (bt238.1, bt238.2.1, bt238.2.2.1, bt238.2.2.2.1, bt238.2.2.2.2, bt243.1, bt243.2.1, bt243.2.2.1, bt243.2.2.2.1, bt243.2.2.2.2, a0_10, a0_11, a0_12)))) = some (r1, r2, r3, r4, r5, r6, r7, r8, r9, r10, r11, r12, r13) := h
 clear h
 replace H := Option.bind_eq_some_iff.mp H
 obtain ⟨⟨t238, t239, t240, t241, t242⟩, A20, H⟩ := H
 replace H : ((laws_toAddr.f a0_5 a0_6 a0_7 a0_8 a0_9).bind fun bt243 => (some (t238, t239, t240, t241, t242, bt243.1, bt243.2.1, bt243.2.2.1, bt243.2.2.2.1, bt243.2.2.2.2, a0_10, a0_11, a0_12))) = some (r1, r2, r3, r4, r5, r6, r7, r8, r9, r10, r11, r12, r13) := H
 have A2 := Gv.a0 A20
 clear A20
 replace H := Option.bind_eq_some_iff.mp H
 obtain ⟨⟨t243, t244, t245, t246, t247⟩, A30, H⟩ := H
 replace H : (some (t238, t239, t240, t241, t242, t243, t244, t245, t246, t247, a0_10, a0_11, a0_12)) = some (r1, r2, r3, r4, r5, r6, r7, r8, r9, r10, r11, r12, r13) := H
 have A3 := Gv.a0 A30
 clear A30
 simp only [Option.some.injEq, Prod.mk.injEq] at H
 obtain ⟨rfl, rfl, rfl, rfl, rfl, rfl, rfl, rfl, rfl, rfl, rfl, rfl, rfl⟩ := H
 go_enter Try.func43, Try.ntmps43
 go_wp2_with (first | ((with_reducible refine gate_dst (N := 1) rfl ?_); refine box_event ?hg (N := 1) ?hd (cs := #[.int .i64 a0_0, .int .i64 a0_1, .int .i64 a0_2, .int .i64 a0_3, .int .i64 a0_4, .int .i64 a0_5, .int .i64 a0_6, .int .i64 a0_7, .int .i64 a0_8, .int .i64 a0_9, .int .i64 a0_10, .int .i64 a0_11, .int .i64 a0_12]) (t := 25) ?hr ?_; (case hd => rfl); (case hg => rfl); (case hr => first | (go_simp; done) | (go_simp; rfl)); intro gb235 hg w4 hbox hb; have n0_ := Gv.a0 (below_step Gv.bw hb); have n1_ := Gv.a0 (hbox); have n2_ := Gv.a0 ((Gv.ble hg Gv.bw : w.heap.size ≤ gb235)); have n3_ := Gv.a0 ((Gv.ble hg Gv.bw : w.heap.size ≤ gb235)); clear HB; have HB := n0_; have BK235 := n1_; have GW235 := n2_; have GE235 := n3_; clear n0_ n1_ n2_ n3_; clear hb hbox hg) | ((with_reducible refine gate_dst (N := 2) rfl ?_); refine box_event ?hg (N := 2) ?hd (cs := #[.int .i64 0, .int .i64 0, .int .i64 0, .int .i64 0, .int .i64 0, .int .i64 0, .int .i64 0, .int .i64 0, .int .i64 0, .int .i64 0, .int .i64 0, .int .i64 0, .int .i64 0]) (t := 31) ?hr ?_; (case hd => rfl); (case hg => rfl); (case hr => first | (go_simp; done) | (go_simp; rfl)); intro gb236 hg w5 hbox hb; have n0_ := Gv.a0 (Gv.bb BK235.out hb); have n1_ := Gv.a0 (below_step Gv.bw hb); have n2_ := Gv.a0 (hbox); have n3_ := Gv.a0 ((Gv.ble hg Gv.bw : w.heap.size ≤ gb236)); have n4_ := Gv.a0 ((Gv.ble hg Gv.bw : w.heap.size ≤ gb236)); have n5_ := Gv.a0 ((Gv.nlt hg (Gv.kb BK235.out) : gb235 ≠ gb236)); have n6_ := Gv.a0 ((Gv.ngt hg (Gv.kb BK235.out) : gb236 ≠ gb235)); clear BK235; clear HB; have BK235 := n0_; have HB := n1_; have BK236 := n2_; have GW236 := n3_; have GE236 := n4_; have NB235_236 := n5_; have NB236_235 := n6_; clear n0_ n1_ n2_ n3_ n4_ n5_ n6_; clear hb hbox hg) | ((with_reducible refine gate_dst (N := 3) rfl ?_); refine box_event ?hg (N := 3) ?hd (cs := #[.int .i64 0, .int .i64 0, .int .i64 0, .int .i64 0, .int .i64 0, .int .i64 0, .int .i64 0, .int .i64 0, .int .i64 0, .int .i64 0, .int .i64 0, .int .i64 0, .int .i64 0]) (t := 31) ?hr ?_; (case hd => rfl); (case hg => rfl); (case hr => first | (go_simp; done) | (go_simp; rfl)); intro gb237 hg w6 hbox hb; have n0_ := Gv.a0 (Gv.bb BK235.out hb); have n1_ := Gv.a0 (Gv.bb BK236.out hb); have n2_ := Gv.a0 (below_step Gv.bw hb); have n3_ := Gv.a0 (hbox); have n4_ := Gv.a0 ((Gv.ble hg Gv.bw : w.heap.size ≤ gb237)); have n5_ := Gv.a0 ((Gv.ble hg Gv.bw : w.heap.size ≤ gb237)); have n6_ := Gv.a0 ((Gv.nlt hg (Gv.kb BK235.out) : gb235 ≠ gb237)); have n7_ := Gv.a0 ((Gv.ngt hg (Gv.kb BK235.out) : gb237 ≠ gb235)); have n8_ := Gv.a0 ((Gv.nlt hg (Gv.kb BK236.out) : gb236 ≠ gb237)); have n9_ := Gv.a0 ((Gv.ngt hg (Gv.kb BK236.out) : gb237 ≠ gb236)); clear BK235; clear BK236; clear HB; have BK235 := n0_; have BK236 := n1_; have HB := n2_; have BK237 := n3_; have GW237 := n4_; have GE237 := n5_; have NB235_237 := n6_; have NB237_235 := n7_; have NB236_237 := n8_; have NB237_236 := n9_; clear n0_ n1_ n2_ n3_ n4_ n5_ n6_ n7_ n8_ n9_; clear hb hbox hg; have hnb7 := NB235_236.out; have hnc7 := NB236_235.out; have hnb8 := NB235_237.out; have hnc8 := NB237_235.out; obtain ⟨hcz9_0, hcz9_1, hcz9_2, hcz9_3, hcz9_4, hcz9_5, hcz9_6, hcz9_7, hcz9_8, hcz9_9, hcz9_10, hcz9_11, hcz9_12⟩ := Gv.c13 BK235.out; obtain ⟨hfz9_0, hfz9_1, hfz9_2, hfz9_3, hfz9_4, hfz9_5, hfz9_6, hfz9_7, hfz9_8, hfz9_9, hfz9_10, hfz9_11, hfz9_12⟩ := Gv.f13 BK235.out) | ((with_reducible refine gate_callee (f := 67) rfl ?_); refine goesL_ (some 6) rfl rfl Try.func67 (by kernel_rfl) rfl #[.agg #[.int .i64 a0_0, .int .i64 a0_1, .int .i64 a0_2, .int .i64 a0_3, .int .i64 a0_4]] rfl Gv.lm ?_; (with_reducible refine (laws_toAddr.calls a0_0 a0_1 a0_2 a0_3 a0_4 t238 t239 t240 t241 t242 _ A2.out).mono ?_); rintro e w10 ⟨rfl, hb⟩; refine ⟨_, rfl, ?_⟩; have n0_ := Gv.a0 (Gv.bb BK235.out hb); have n1_ := Gv.a0 (Gv.bb BK236.out hb); have n2_ := Gv.a0 (Gv.bb BK237.out hb); have n3_ := Gv.a0 (below_step Gv.bw hb); clear BK235; clear BK236; clear BK237; clear HB; have BK235 := n0_; have BK236 := n1_; have BK237 := n2_; have HB := n3_; clear n0_ n1_ n2_ n3_; (try clear hb); (try clear hb2); (try clear hk); (try clear hi); have hnb11 := NB237_236.out; have hnc11 := NB236_237.out; obtain ⟨hcz12_0, hcz12_1, hcz12_2, hcz12_3, hcz12_4, hcz12_5, hcz12_6, hcz12_7, hcz12_8, hcz12_9, hcz12_10, hcz12_11, hcz12_12⟩ := Gv.c13 BK237.out; obtain ⟨hfz12_0, hfz12_1, hfz12_2, hfz12_3, hfz12_4, hfz12_5, hfz12_6, hfz12_7, hfz12_8, hfz12_9, hfz12_10, hfz12_11, hfz12_12⟩ := Gv.f13 BK237.out; obtain ⟨hcz13_0, hcz13_1, hcz13_2, hcz13_3, hcz13_4, hcz13_5, hcz13_6, hcz13_7, hcz13_8, hcz13_9, hcz13_10, hcz13_11, hcz13_12⟩ := Gv.c13 BK235.out; obtain ⟨hfz13_0, hfz13_1, hfz13_2, hfz13_3, hfz13_4, hfz13_5, hfz13_6, hfz13_7, hfz13_8, hfz13_9, hfz13_10, hfz13_11, hfz13_12⟩ := Gv.f13 BK235.out) | ((with_reducible refine gate_callee (f := 67) rfl ?_); refine goesL_ (some 10) rfl rfl Try.func67 (by kernel_rfl) rfl #[.agg #[.int .i64 a0_5, .int .i64 a0_6, .int .i64 a0_7, .int .i64 a0_8, .int .i64 a0_9]] rfl Gv.lm ?_; (with_reducible refine (laws_toAddr.calls a0_5 a0_6 a0_7 a0_8 a0_9 t243 t244 t245 t246 t247 _ A3.out).mono ?_); rintro e w14 ⟨rfl, hb⟩; refine ⟨_, rfl, ?_⟩; have n0_ := Gv.a0 (blk_below (g := gb235) (o := .cells #[.int .i64 a0_0, .int .i64 a0_1, .int .i64 a0_2, .int .i64 a0_3, .int .i64 a0_4, .int .i64 a0_5, .int .i64 a0_6, .int .i64 a0_7, .int .i64 a0_8, .int .i64 a0_9, .int .i64 a0_10, .int .i64 a0_11, .int .i64 a0_12] 25 (0, 0)) Gv.bkf hb); have n1_ := Gv.a0 (blk_below (g := gb236) (o := .cells #[.int .i64 0, .int .i64 0, .int .i64 0, .int .i64 0, .int .i64 0, .int .i64 0, .int .i64 0, .int .i64 0, .int .i64 0, .int .i64 0, .int .i64 0, .int .i64 0, .int .i64 0] 31 (0, 0)) Gv.bkf hb); have n2_ := Gv.a0 (blk_below (g := gb237) (o := .cells #[.int .i64 t238, .int .i64 t239, .int .i64 t240, .int .i64 t241, .int .i64 t242, .int .i64 0, .int .i64 0, .int .i64 0, .int .i64 0, .int .i64 0, .int .i64 0, .int .i64 0, .int .i64 0] 31 (0, 0)) (by (with_reducible repeat (first | refine blk_drewN ?_ _ | refine blk_drew ?_ | refine blk_alloc ?_ _)); refine blk_put (cs := #[.int .i64 t238, .int .i64 t239, .int .i64 t240, .int .i64 t241, .int .i64 0, .int .i64 0, .int .i64 0, .int .i64 0, .int .i64 0, .int .i64 0, .int .i64 0, .int .i64 0, .int .i64 0]) ?_ 4 _ rfl; (with_reducible repeat (first | refine blk_drewN ?_ _ | refine blk_drew ?_ | refine blk_alloc ?_ _)); refine blk_put (cs := #[.int .i64 t238, .int .i64 t239, .int .i64 t240, .int .i64 0, .int .i64 0, .int .i64 0, .int .i64 0, .int .i64 0, .int .i64 0, .int .i64 0, .int .i64 0, .int .i64 0, .int .i64 0]) ?_ 3 _ rfl; (with_reducible repeat (first | refine blk_drewN ?_ _ | refine blk_drew ?_ | refine blk_alloc ?_ _)); refine blk_put (cs := #[.int .i64 t238, .int .i64 t239, .int .i64 0, .int .i64 0, .int .i64 0, .int .i64 0, .int .i64 0, .int .i64 0, .int .i64 0, .int .i64 0, .int .i64 0, .int .i64 0, .int .i64 0]) ?_ 2 _ rfl; (with_reducible repeat (first | refine blk_drewN ?_ _ | refine blk_drew ?_ | refine blk_alloc ?_ _)); refine blk_put (cs := #[.int .i64 t238, .int .i64 0, .int .i64 0, .int .i64 0, .int .i64 0, .int .i64 0, .int .i64 0, .int .i64 0, .int .i64 0, .int .i64 0, .int .i64 0, .int .i64 0, .int .i64 0]) ?_ 1 _ rfl; (with_reducible repeat (first | refine blk_drewN ?_ _ | refine blk_drew ?_ | refine blk_alloc ?_ _)); refine blk_put (cs := #[.int .i64 0, .int .i64 0, .int .i64 0, .int .i64 0, .int .i64 0, .int .i64 0, .int .i64 0, .int .i64 0, .int .i64 0, .int .i64 0, .int .i64 0, .int .i64 0, .int .i64 0]) ?_ 0 _ rfl; (with_reducible repeat (first | refine blk_drewN ?_ _ | refine blk_drew ?_ | refine blk_alloc ?_ _)); exact BK237.out) hb); have n3_ := Gv.a0 (below_step Gv.bw hb); clear BK235; clear BK236; clear BK237; clear HB; have BK235 := n0_; have BK236 := n1_; have BK237 := n2_; have HB := n3_; clear n0_ n1_ n2_ n3_; (try clear hb); (try clear hb2); (try clear hk); (try clear hi); obtain ⟨hcz15_0, hcz15_1, hcz15_2, hcz15_3, hcz15_4, hcz15_5, hcz15_6, hcz15_7, hcz15_8, hcz15_9, hcz15_10, hcz15_11, hcz15_12⟩ := Gv.c13 BK237.out; obtain ⟨hfz15_0, hfz15_1, hfz15_2, hfz15_3, hfz15_4, hfz15_5, hfz15_6, hfz15_7, hfz15_8, hfz15_9, hfz15_10, hfz15_11, hfz15_12⟩ := Gv.f13 BK237.out; obtain ⟨hcz16_0, hcz16_1, hcz16_2, hcz16_3, hcz16_4, hcz16_5, hcz16_6, hcz16_7, hcz16_8, hcz16_9, hcz16_10, hcz16_11, hcz16_12⟩ := Gv.c13 BK235.out; obtain ⟨hfz16_0, hfz16_1, hfz16_2, hfz16_3, hfz16_4, hfz16_5, hfz16_6, hfz16_7, hfz16_8, hfz16_9, hfz16_10, hfz16_11, hfz16_12⟩ := Gv.f13 BK235.out; obtain ⟨hcz17_0, hcz17_1, hcz17_2, hcz17_3, hcz17_4, hcz17_5, hcz17_6, hcz17_7, hcz17_8, hcz17_9, hcz17_10, hcz17_11, hcz17_12⟩ := Gv.c13 BK236.out; obtain ⟨hfz17_0, hfz17_1, hfz17_2, hfz17_3, hfz17_4, hfz17_5, hfz17_6, hfz17_7, hfz17_8, hfz17_9, hfz17_10, hfz17_11, hfz17_12⟩ := Gv.f13 BK236.out))
 refine bodyPost_ret (results_cell_row rfl _ _ gb236 31 #[.int .i64 t238, .int .i64 t239, .int .i64 t240, .int .i64 t241, .int .i64 t242, .int .i64 t243, .int .i64 t244, .int .i64 t245, .int .i64 t246, .int .i64 t247, .int .i64 a0_10, .int .i64 a0_11, .int .i64 a0_12] (0, 0) _ rfl (by (with_reducible repeat (first | refine blk_drewN ?_ _ | refine blk_drew ?_ | refine blk_alloc ?_ _)); refine blk_put (cs := #[.int .i64 t238, .int .i64 t239, .int .i64 t240, .int .i64 t241, .int .i64 t242, .int .i64 t243, .int .i64 t244, .int .i64 t245, .int .i64 t246, .int .i64 t247, .int .i64 a0_10, .int .i64 a0_11, .int .i64 0]) ?_ 12 _ rfl; (with_reducible repeat (first | refine blk_drewN ?_ _ | refine blk_drew ?_ | refine blk_alloc ?_ _)); refine blk_put (cs := #[.int .i64 t238, .int .i64 t239, .int .i64 t240, .int .i64 t241, .int .i64 t242, .int .i64 t243, .int .i64 t244, .int .i64 t245, .int .i64 t246, .int .i64 t247, .int .i64 a0_10, .int .i64 0, .int .i64 0]) ?_ 11 _ rfl; (with_reducible repeat (first | refine blk_drewN ?_ _ | refine blk_drew ?_ | refine blk_alloc ?_ _)); refine blk_put (cs := #[.int .i64 t238, .int .i64 t239, .int .i64 t240, .int .i64 t241, .int .i64 t242, .int .i64 t243, .int .i64 t244, .int .i64 t245, .int .i64 t246, .int .i64 t247, .int .i64 0, .int .i64 0, .int .i64 0]) ?_ 10 _ rfl; (with_reducible repeat (first | refine blk_drewN ?_ _ | refine blk_drew ?_ | refine blk_alloc ?_ _)); refine blk_put (cs := #[.int .i64 t238, .int .i64 t239, .int .i64 t240, .int .i64 t241, .int .i64 t242, .int .i64 t243, .int .i64 t244, .int .i64 t245, .int .i64 t246, .int .i64 0, .int .i64 0, .int .i64 0, .int .i64 0]) ?_ 9 _ rfl; (with_reducible repeat (first | refine blk_drewN ?_ _ | refine blk_drew ?_ | refine blk_alloc ?_ _)); refine blk_put (cs := #[.int .i64 t238, .int .i64 t239, .int .i64 t240, .int .i64 t241, .int .i64 t242, .int .i64 t243, .int .i64 t244, .int .i64 t245, .int .i64 0, .int .i64 0, .int .i64 0, .int .i64 0, .int .i64 0]) ?_ 8 _ rfl; (with_reducible repeat (first | refine blk_drewN ?_ _ | refine blk_drew ?_ | refine blk_alloc ?_ _)); refine blk_put (cs := #[.int .i64 t238, .int .i64 t239, .int .i64 t240, .int .i64 t241, .int .i64 t242, .int .i64 t243, .int .i64 t244, .int .i64 0, .int .i64 0, .int .i64 0, .int .i64 0, .int .i64 0, .int .i64 0]) ?_ 7 _ rfl; (with_reducible repeat (first | refine blk_drewN ?_ _ | refine blk_drew ?_ | refine blk_alloc ?_ _)); refine blk_put (cs := #[.int .i64 t238, .int .i64 t239, .int .i64 t240, .int .i64 t241, .int .i64 t242, .int .i64 t243, .int .i64 0, .int .i64 0, .int .i64 0, .int .i64 0, .int .i64 0, .int .i64 0, .int .i64 0]) ?_ 6 _ rfl; (with_reducible repeat (first | refine blk_drewN ?_ _ | refine blk_drew ?_ | refine blk_alloc ?_ _)); refine blk_put (cs := #[.int .i64 t238, .int .i64 t239, .int .i64 t240, .int .i64 t241, .int .i64 t242, .int .i64 0, .int .i64 0, .int .i64 0, .int .i64 0, .int .i64 0, .int .i64 0, .int .i64 0, .int .i64 0]) ?_ 5 _ rfl; (with_reducible repeat (first | refine blk_drewN ?_ _ | refine blk_drew ?_ | refine blk_alloc ?_ _)); refine blk_put (cs := #[.int .i64 t238, .int .i64 t239, .int .i64 t240, .int .i64 t241, .int .i64 0, .int .i64 0, .int .i64 0, .int .i64 0, .int .i64 0, .int .i64 0, .int .i64 0, .int .i64 0, .int .i64 0]) ?_ 4 _ rfl; (with_reducible repeat (first | refine blk_drewN ?_ _ | refine blk_drew ?_ | refine blk_alloc ?_ _)); refine blk_put (cs := #[.int .i64 t238, .int .i64 t239, .int .i64 t240, .int .i64 0, .int .i64 0, .int .i64 0, .int .i64 0, .int .i64 0, .int .i64 0, .int .i64 0, .int .i64 0, .int .i64 0, .int .i64 0]) ?_ 3 _ rfl; (with_reducible repeat (first | refine blk_drewN ?_ _ | refine blk_drew ?_ | refine blk_alloc ?_ _)); refine blk_put (cs := #[.int .i64 t238, .int .i64 t239, .int .i64 0, .int .i64 0, .int .i64 0, .int .i64 0, .int .i64 0, .int .i64 0, .int .i64 0, .int .i64 0, .int .i64 0, .int .i64 0, .int .i64 0]) ?_ 2 _ rfl; (with_reducible repeat (first | refine blk_drewN ?_ _ | refine blk_drew ?_ | refine blk_alloc ?_ _)); refine blk_put (cs := #[.int .i64 t238, .int .i64 0, .int .i64 0, .int .i64 0, .int .i64 0, .int .i64 0, .int .i64 0, .int .i64 0, .int .i64 0, .int .i64 0, .int .i64 0, .int .i64 0, .int .i64 0]) ?_ 1 _ rfl; (with_reducible repeat (first | refine blk_drewN ?_ _ | refine blk_drew ?_ | refine blk_alloc ?_ _)); refine blk_put (cs := #[.int .i64 0, .int .i64 0, .int .i64 0, .int .i64 0, .int .i64 0, .int .i64 0, .int .i64 0, .int .i64 0, .int .i64 0, .int .i64 0, .int .i64 0, .int .i64 0, .int .i64 0]) ?_ 0 _ rfl; (with_reducible repeat (first | refine blk_drewN ?_ _ | refine blk_drew ?_ | refine blk_alloc ?_ _)); refine blk_far ?_ NB236_237.out _; (with_reducible repeat (first | refine blk_drewN ?_ _ | refine blk_drew ?_ | refine blk_alloc ?_ _)); refine blk_far ?_ NB236_237.out _; (with_reducible repeat (first | refine blk_drewN ?_ _ | refine blk_drew ?_ | refine blk_alloc ?_ _)); refine blk_far ?_ NB236_237.out _; (with_reducible repeat (first | refine blk_drewN ?_ _ | refine blk_drew ?_ | refine blk_alloc ?_ _)); refine blk_far ?_ NB236_237.out _; (with_reducible repeat (first | refine blk_drewN ?_ _ | refine blk_drew ?_ | refine blk_alloc ?_ _)); refine blk_far ?_ NB236_237.out _; (with_reducible repeat (first | refine blk_drewN ?_ _ | refine blk_drew ?_ | refine blk_alloc ?_ _)); refine blk_far ?_ NB236_237.out _; (with_reducible repeat (first | refine blk_drewN ?_ _ | refine blk_drew ?_ | refine blk_alloc ?_ _)); refine blk_far ?_ NB236_237.out _; (with_reducible repeat (first | refine blk_drewN ?_ _ | refine blk_drew ?_ | refine blk_alloc ?_ _)); refine blk_far ?_ NB236_237.out _; (with_reducible repeat (first | refine blk_drewN ?_ _ | refine blk_drew ?_ | refine blk_alloc ?_ _)); exact BK236.out) Try.underlying31 rfl (by kernel_rfl)) rfl ?_
 exact ⟨by first | rfl | (simp [errW_none, errW_some] <;> rfl) | (simp [*, errW_none, errW_some] <;> rfl), by repeat (first | (with_reducible first | exact HB.out | apply below_alloc | apply pw_below_drewN | apply below_drew1 | refine below_set ?_ GE235.out | refine below_set ?_ GE236.out | refine below_set ?_ GE237.out) | exact HB.out)⟩

/-! ### laws_toFlowKey: function 14 -/
def laws_toFlowKey.f (a0_0 : Int) (a0_1 : Int) (a0_2 : Int) (a0_3 : Int) (a0_4 : Int) (a0_5 : Int) (a0_6 : Int) (a0_7 : Int) (a0_8 : Int) (a0_9 : Int) (a0_10 : Int) (a0_11 : Int) (a0_12 : Int) (a0_13 : Int) : Option (Int × Int × Int × Int × Int × Int × Int × Int × Int × Int × Int × Int × Int × Int) := (laws_toKey.f a0_1 a0_2 a0_3 a0_4 a0_5 a0_6 a0_7 a0_8 a0_9 a0_10 a0_11 a0_12 a0_13).bind fun bt251 => (some (a0_0, bt251.1, bt251.2.1, bt251.2.2.1, bt251.2.2.2.1, bt251.2.2.2.2.1, bt251.2.2.2.2.2.1, bt251.2.2.2.2.2.2.1, bt251.2.2.2.2.2.2.2.1, bt251.2.2.2.2.2.2.2.2.1, bt251.2.2.2.2.2.2.2.2.2.1, bt251.2.2.2.2.2.2.2.2.2.2.1, bt251.2.2.2.2.2.2.2.2.2.2.2.1, bt251.2.2.2.2.2.2.2.2.2.2.2.2))
set_option maxHeartbeats 8000000 in
set_option maxRecDepth 100000 in
theorem laws_toFlowKey.calls (a0_0 : Int) (a0_1 : Int) (a0_2 : Int) (a0_3 : Int) (a0_4 : Int) (a0_5 : Int) (a0_6 : Int) (a0_7 : Int) (a0_8 : Int) (a0_9 : Int) (a0_10 : Int) (a0_11 : Int) (a0_12 : Int) (a0_13 : Int) (r1 : Int) (r2 : Int) (r3 : Int) (r4 : Int) (r5 : Int) (r6 : Int) (r7 : Int) (r8 : Int) (r9 : Int) (r10 : Int) (r11 : Int) (r12 : Int) (r13 : Int) (r14 : Int) (w : World) (h : laws_toFlowKey.f a0_0 a0_1 a0_2 a0_3 a0_4 a0_5 a0_6 a0_7 a0_8 a0_9 a0_10 a0_11 a0_12 a0_13 = some (r1, r2, r3, r4, r5, r6, r7, r8, r9, r10, r11, r12, r13, r14)) :
  Calls Try.prog 14 #[.agg #[.int .i64 a0_0, .int .i64 a0_1, .int .i64 a0_2, .int .i64 a0_3, .int .i64 a0_4, .int .i64 a0_5, .int .i64 a0_6, .int .i64 a0_7, .int .i64 a0_8, .int .i64 a0_9, .int .i64 a0_10, .int .i64 a0_11, .int .i64 a0_12, .int .i64 a0_13]] w fun e w' => e = .returned (.agg #[.int .i64 r1, .int .i64 r2, .int .i64 r3, .int .i64 r4, .int .i64 r5, .int .i64 r6, .int .i64 r7, .int .i64 r8, .int .i64 r9, .int .i64 r10, .int .i64 r11, .int .i64 r12, .int .i64 r13, .int .i64 r14]) ∧ Below w.heap.size w w' := by
 have hu27 := Try.underlying27
 have hu33 := Try.underlying33
 have hu25 := Try.underlying25
 have hu31 := Try.underlying31
 have HB := Gv.a0 (Below.refl w.heap.size w)
 have H : ((laws_toKey.f a0_1 a0_2 a0_3 a0_4 a0_5 a0_6 a0_7 a0_8 a0_9 a0_10 a0_11 a0_12 a0_13).bind fun bt251 => (some (a0_0, bt251.1, bt251.2.1, bt251.2.2.1, bt251.2.2.2.1, bt251.2.2.2.2.1, bt251.2.2.2.2.2.1, bt251.2.2.2.2.2.2.1, bt251.2.2.2.2.2.2.2.1, bt251.2.2.2.2.2.2.2.2.1, bt251.2.2.2.2.2.2.2.2.2.1, bt251.2.2.2.2.2.2.2.2.2.2.1, bt251.2.2.2.2.2.2.2.2.2.2.2.1, bt251.2.2.2.2.2.2.2.2.2.2.2.2))) = some (r1, r2, r3, r4, r5, r6, r7, r8, r9, r10, r11, r12, r13, r14) := h
 clear h
 replace H := Option.bind_eq_some_iff.mp H
 obtain ⟨⟨t251, t252, t253, t254, t255, t256, t257, t258, t259, t260, t261, t262, t263⟩, A20, H⟩ := H
 replace H : (some (a0_0, t251, t252, t253, t254, t255, t256, t257, t258, t259, t260, t261, t262, t263)) = some (r1, r2, r3, r4, r5, r6, r7, r8, r9, r10, r11, r12, r13, r14) := H
 have A2 := Gv.a0 A20
 clear A20
 simp only [Option.some.injEq, Prod.mk.injEq] at H
 obtain ⟨rfl, rfl, rfl, rfl, rfl, rfl, rfl, rfl, rfl, rfl, rfl, rfl, rfl, rfl⟩ := H
 go_enter Try.func14, Try.ntmps14
 go_wp2_with (first | ((with_reducible refine gate_dst (N := 1) rfl ?_); refine box_event ?hg (N := 1) ?hd (cs := #[.int .i64 a0_0, .int .i64 a0_1, .int .i64 a0_2, .int .i64 a0_3, .int .i64 a0_4, .int .i64 a0_5, .int .i64 a0_6, .int .i64 a0_7, .int .i64 a0_8, .int .i64 a0_9, .int .i64 a0_10, .int .i64 a0_11, .int .i64 a0_12, .int .i64 a0_13]) (t := 27) ?hr ?_; (case hd => rfl); (case hg => rfl); (case hr => first | (go_simp; done) | (go_simp; rfl)); intro gb248 hg w3 hbox hb; have n0_ := Gv.a0 (below_step Gv.bw hb); have n1_ := Gv.a0 (hbox); have n2_ := Gv.a0 ((Gv.ble hg Gv.bw : w.heap.size ≤ gb248)); have n3_ := Gv.a0 ((Gv.ble hg Gv.bw : w.heap.size ≤ gb248)); clear HB; have HB := n0_; have BK248 := n1_; have GW248 := n2_; have GE248 := n3_; clear n0_ n1_ n2_ n3_; clear hb hbox hg) | ((with_reducible refine gate_dst (N := 2) rfl ?_); refine box_event ?hg (N := 2) ?hd (cs := #[.int .i64 0, .int .i64 0, .int .i64 0, .int .i64 0, .int .i64 0, .int .i64 0, .int .i64 0, .int .i64 0, .int .i64 0, .int .i64 0, .int .i64 0, .int .i64 0, .int .i64 0, .int .i64 0]) (t := 33) ?hr ?_; (case hd => rfl); (case hg => rfl); (case hr => first | (go_simp; done) | (go_simp; rfl)); intro gb249 hg w4 hbox hb; have n0_ := Gv.a0 (Gv.bb BK248.out hb); have n1_ := Gv.a0 (below_step Gv.bw hb); have n2_ := Gv.a0 (hbox); have n3_ := Gv.a0 ((Gv.ble hg Gv.bw : w.heap.size ≤ gb249)); have n4_ := Gv.a0 ((Gv.ble hg Gv.bw : w.heap.size ≤ gb249)); have n5_ := Gv.a0 ((Gv.nlt hg (Gv.kb BK248.out) : gb248 ≠ gb249)); have n6_ := Gv.a0 ((Gv.ngt hg (Gv.kb BK248.out) : gb249 ≠ gb248)); clear BK248; clear HB; have BK248 := n0_; have HB := n1_; have BK249 := n2_; have GW249 := n3_; have GE249 := n4_; have NB248_249 := n5_; have NB249_248 := n6_; clear n0_ n1_ n2_ n3_ n4_ n5_ n6_; clear hb hbox hg) | ((with_reducible refine gate_dst (N := 3) rfl ?_); refine box_event ?hg (N := 3) ?hd (cs := #[.int .i64 0, .int .i64 0, .int .i64 0, .int .i64 0, .int .i64 0, .int .i64 0, .int .i64 0, .int .i64 0, .int .i64 0, .int .i64 0, .int .i64 0, .int .i64 0, .int .i64 0, .int .i64 0]) (t := 33) ?hr ?_; (case hd => rfl); (case hg => rfl); (case hr => first | (go_simp; done) | (go_simp; rfl)); intro gb250 hg w5 hbox hb; have n0_ := Gv.a0 (Gv.bb BK248.out hb); have n1_ := Gv.a0 (Gv.bb BK249.out hb); have n2_ := Gv.a0 (below_step Gv.bw hb); have n3_ := Gv.a0 (hbox); have n4_ := Gv.a0 ((Gv.ble hg Gv.bw : w.heap.size ≤ gb250)); have n5_ := Gv.a0 ((Gv.ble hg Gv.bw : w.heap.size ≤ gb250)); have n6_ := Gv.a0 ((Gv.nlt hg (Gv.kb BK248.out) : gb248 ≠ gb250)); have n7_ := Gv.a0 ((Gv.ngt hg (Gv.kb BK248.out) : gb250 ≠ gb248)); have n8_ := Gv.a0 ((Gv.nlt hg (Gv.kb BK249.out) : gb249 ≠ gb250)); have n9_ := Gv.a0 ((Gv.ngt hg (Gv.kb BK249.out) : gb250 ≠ gb249)); clear BK248; clear BK249; clear HB; have BK248 := n0_; have BK249 := n1_; have HB := n2_; have BK250 := n3_; have GW250 := n4_; have GE250 := n5_; have NB248_250 := n6_; have NB250_248 := n7_; have NB249_250 := n8_; have NB250_249 := n9_; clear n0_ n1_ n2_ n3_ n4_ n5_ n6_ n7_ n8_ n9_; clear hb hbox hg; have hnb6 := NB248_249.out; have hnc6 := NB249_248.out; have hnb7 := NB248_250.out; have hnc7 := NB250_248.out; obtain ⟨hcz8_0, hcz8_1, hcz8_2, hcz8_3, hcz8_4, hcz8_5, hcz8_6, hcz8_7, hcz8_8, hcz8_9, hcz8_10, hcz8_11, hcz8_12, hcz8_13⟩ := Gv.c14 BK248.out; obtain ⟨hfz8_0, hfz8_1, hfz8_2, hfz8_3, hfz8_4, hfz8_5, hfz8_6, hfz8_7, hfz8_8, hfz8_9, hfz8_10, hfz8_11, hfz8_12, hfz8_13⟩ := Gv.f14 BK248.out; have hnb9 := NB250_249.out; have hnc9 := NB249_250.out; obtain ⟨hcz10_0, hcz10_1, hcz10_2, hcz10_3, hcz10_4, hcz10_5, hcz10_6, hcz10_7, hcz10_8, hcz10_9, hcz10_10, hcz10_11, hcz10_12, hcz10_13⟩ := Gv.c14 BK250.out; obtain ⟨hfz10_0, hfz10_1, hfz10_2, hfz10_3, hfz10_4, hfz10_5, hfz10_6, hfz10_7, hfz10_8, hfz10_9, hfz10_10, hfz10_11, hfz10_12, hfz10_13⟩ := Gv.f14 BK250.out) | ((with_reducible refine gate_callee (f := 43) rfl ?_); refine goesL_ (some 9) rfl rfl Try.func43 (by kernel_rfl) rfl #[.agg #[.int .i64 a0_1, .int .i64 a0_2, .int .i64 a0_3, .int .i64 a0_4, .int .i64 a0_5, .int .i64 a0_6, .int .i64 a0_7, .int .i64 a0_8, .int .i64 a0_9, .int .i64 a0_10, .int .i64 a0_11, .int .i64 a0_12, .int .i64 a0_13]] rfl Gv.lm ?_; (with_reducible refine (laws_toKey.calls a0_1 a0_2 a0_3 a0_4 a0_5 a0_6 a0_7 a0_8 a0_9 a0_10 a0_11 a0_12 a0_13 t251 t252 t253 t254 t255 t256 t257 t258 t259 t260 t261 t262 t263 _ A2.out).mono ?_); rintro e w11 ⟨rfl, hb⟩; refine ⟨_, rfl, ?_⟩; have n0_ := Gv.a0 (blk_below (g := gb248) (o := .cells #[.int .i64 a0_0, .int .i64 a0_1, .int .i64 a0_2, .int .i64 a0_3, .int .i64 a0_4, .int .i64 a0_5, .int .i64 a0_6, .int .i64 a0_7, .int .i64 a0_8, .int .i64 a0_9, .int .i64 a0_10, .int .i64 a0_11, .int .i64 a0_12, .int .i64 a0_13] 27 (0, 0)) Gv.bkf hb); have n1_ := Gv.a0 (blk_below (g := gb249) (o := .cells #[.int .i64 0, .int .i64 0, .int .i64 0, .int .i64 0, .int .i64 0, .int .i64 0, .int .i64 0, .int .i64 0, .int .i64 0, .int .i64 0, .int .i64 0, .int .i64 0, .int .i64 0, .int .i64 0] 33 (0, 0)) Gv.bkf hb); have n2_ := Gv.a0 (blk_below (g := gb250) (o := .cells #[.int .i64 a0_0, .int .i64 0, .int .i64 0, .int .i64 0, .int .i64 0, .int .i64 0, .int .i64 0, .int .i64 0, .int .i64 0, .int .i64 0, .int .i64 0, .int .i64 0, .int .i64 0, .int .i64 0] 33 (0, 0)) (by (with_reducible repeat (first | refine blk_drewN ?_ _ | refine blk_drew ?_ | refine blk_alloc ?_ _)); refine blk_put (cs := #[.int .i64 0, .int .i64 0, .int .i64 0, .int .i64 0, .int .i64 0, .int .i64 0, .int .i64 0, .int .i64 0, .int .i64 0, .int .i64 0, .int .i64 0, .int .i64 0, .int .i64 0, .int .i64 0]) ?_ 0 _ rfl; (with_reducible repeat (first | refine blk_drewN ?_ _ | refine blk_drew ?_ | refine blk_alloc ?_ _)); exact BK250.out) hb); have n3_ := Gv.a0 (below_step Gv.bw hb); clear BK248; clear BK249; clear BK250; clear HB; have BK248 := n0_; have BK249 := n1_; have BK250 := n2_; have HB := n3_; clear n0_ n1_ n2_ n3_; (try clear hb); (try clear hb2); (try clear hk); (try clear hi); obtain ⟨hcz12_0, hcz12_1, hcz12_2, hcz12_3, hcz12_4, hcz12_5, hcz12_6, hcz12_7, hcz12_8, hcz12_9, hcz12_10, hcz12_11, hcz12_12, hcz12_13⟩ := Gv.c14 BK250.out; obtain ⟨hfz12_0, hfz12_1, hfz12_2, hfz12_3, hfz12_4, hfz12_5, hfz12_6, hfz12_7, hfz12_8, hfz12_9, hfz12_10, hfz12_11, hfz12_12, hfz12_13⟩ := Gv.f14 BK250.out; obtain ⟨hcz13_0, hcz13_1, hcz13_2, hcz13_3, hcz13_4, hcz13_5, hcz13_6, hcz13_7, hcz13_8, hcz13_9, hcz13_10, hcz13_11, hcz13_12, hcz13_13⟩ := Gv.c14 BK249.out; obtain ⟨hfz13_0, hfz13_1, hfz13_2, hfz13_3, hfz13_4, hfz13_5, hfz13_6, hfz13_7, hfz13_8, hfz13_9, hfz13_10, hfz13_11, hfz13_12, hfz13_13⟩ := Gv.f14 BK249.out))
 refine bodyPost_ret (results_cell_row rfl _ _ gb249 33 #[.int .i64 a0_0, .int .i64 t251, .int .i64 t252, .int .i64 t253, .int .i64 t254, .int .i64 t255, .int .i64 t256, .int .i64 t257, .int .i64 t258, .int .i64 t259, .int .i64 t260, .int .i64 t261, .int .i64 t262, .int .i64 t263] (0, 0) _ rfl (by (with_reducible repeat (first | refine blk_drewN ?_ _ | refine blk_drew ?_ | refine blk_alloc ?_ _)); refine blk_put (cs := #[.int .i64 a0_0, .int .i64 t251, .int .i64 t252, .int .i64 t253, .int .i64 t254, .int .i64 t255, .int .i64 t256, .int .i64 t257, .int .i64 t258, .int .i64 t259, .int .i64 t260, .int .i64 t261, .int .i64 t262, .int .i64 0]) ?_ 13 _ rfl; (with_reducible repeat (first | refine blk_drewN ?_ _ | refine blk_drew ?_ | refine blk_alloc ?_ _)); refine blk_put (cs := #[.int .i64 a0_0, .int .i64 t251, .int .i64 t252, .int .i64 t253, .int .i64 t254, .int .i64 t255, .int .i64 t256, .int .i64 t257, .int .i64 t258, .int .i64 t259, .int .i64 t260, .int .i64 t261, .int .i64 0, .int .i64 0]) ?_ 12 _ rfl; (with_reducible repeat (first | refine blk_drewN ?_ _ | refine blk_drew ?_ | refine blk_alloc ?_ _)); refine blk_put (cs := #[.int .i64 a0_0, .int .i64 t251, .int .i64 t252, .int .i64 t253, .int .i64 t254, .int .i64 t255, .int .i64 t256, .int .i64 t257, .int .i64 t258, .int .i64 t259, .int .i64 t260, .int .i64 0, .int .i64 0, .int .i64 0]) ?_ 11 _ rfl; (with_reducible repeat (first | refine blk_drewN ?_ _ | refine blk_drew ?_ | refine blk_alloc ?_ _)); refine blk_put (cs := #[.int .i64 a0_0, .int .i64 t251, .int .i64 t252, .int .i64 t253, .int .i64 t254, .int .i64 t255, .int .i64 t256, .int .i64 t257, .int .i64 t258, .int .i64 t259, .int .i64 0, .int .i64 0, .int .i64 0, .int .i64 0]) ?_ 10 _ rfl; (with_reducible repeat (first | refine blk_drewN ?_ _ | refine blk_drew ?_ | refine blk_alloc ?_ _)); refine blk_put (cs := #[.int .i64 a0_0, .int .i64 t251, .int .i64 t252, .int .i64 t253, .int .i64 t254, .int .i64 t255, .int .i64 t256, .int .i64 t257, .int .i64 t258, .int .i64 0, .int .i64 0, .int .i64 0, .int .i64 0, .int .i64 0]) ?_ 9 _ rfl; (with_reducible repeat (first | refine blk_drewN ?_ _ | refine blk_drew ?_ | refine blk_alloc ?_ _)); refine blk_put (cs := #[.int .i64 a0_0, .int .i64 t251, .int .i64 t252, .int .i64 t253, .int .i64 t254, .int .i64 t255, .int .i64 t256, .int .i64 t257, .int .i64 0, .int .i64 0, .int .i64 0, .int .i64 0, .int .i64 0, .int .i64 0]) ?_ 8 _ rfl; (with_reducible repeat (first | refine blk_drewN ?_ _ | refine blk_drew ?_ | refine blk_alloc ?_ _)); refine blk_put (cs := #[.int .i64 a0_0, .int .i64 t251, .int .i64 t252, .int .i64 t253, .int .i64 t254, .int .i64 t255, .int .i64 t256, .int .i64 0, .int .i64 0, .int .i64 0, .int .i64 0, .int .i64 0, .int .i64 0, .int .i64 0]) ?_ 7 _ rfl; (with_reducible repeat (first | refine blk_drewN ?_ _ | refine blk_drew ?_ | refine blk_alloc ?_ _)); refine blk_put (cs := #[.int .i64 a0_0, .int .i64 t251, .int .i64 t252, .int .i64 t253, .int .i64 t254, .int .i64 t255, .int .i64 0, .int .i64 0, .int .i64 0, .int .i64 0, .int .i64 0, .int .i64 0, .int .i64 0, .int .i64 0]) ?_ 6 _ rfl; (with_reducible repeat (first | refine blk_drewN ?_ _ | refine blk_drew ?_ | refine blk_alloc ?_ _)); refine blk_put (cs := #[.int .i64 a0_0, .int .i64 t251, .int .i64 t252, .int .i64 t253, .int .i64 t254, .int .i64 0, .int .i64 0, .int .i64 0, .int .i64 0, .int .i64 0, .int .i64 0, .int .i64 0, .int .i64 0, .int .i64 0]) ?_ 5 _ rfl; (with_reducible repeat (first | refine blk_drewN ?_ _ | refine blk_drew ?_ | refine blk_alloc ?_ _)); refine blk_put (cs := #[.int .i64 a0_0, .int .i64 t251, .int .i64 t252, .int .i64 t253, .int .i64 0, .int .i64 0, .int .i64 0, .int .i64 0, .int .i64 0, .int .i64 0, .int .i64 0, .int .i64 0, .int .i64 0, .int .i64 0]) ?_ 4 _ rfl; (with_reducible repeat (first | refine blk_drewN ?_ _ | refine blk_drew ?_ | refine blk_alloc ?_ _)); refine blk_put (cs := #[.int .i64 a0_0, .int .i64 t251, .int .i64 t252, .int .i64 0, .int .i64 0, .int .i64 0, .int .i64 0, .int .i64 0, .int .i64 0, .int .i64 0, .int .i64 0, .int .i64 0, .int .i64 0, .int .i64 0]) ?_ 3 _ rfl; (with_reducible repeat (first | refine blk_drewN ?_ _ | refine blk_drew ?_ | refine blk_alloc ?_ _)); refine blk_put (cs := #[.int .i64 a0_0, .int .i64 t251, .int .i64 0, .int .i64 0, .int .i64 0, .int .i64 0, .int .i64 0, .int .i64 0, .int .i64 0, .int .i64 0, .int .i64 0, .int .i64 0, .int .i64 0, .int .i64 0]) ?_ 2 _ rfl; (with_reducible repeat (first | refine blk_drewN ?_ _ | refine blk_drew ?_ | refine blk_alloc ?_ _)); refine blk_put (cs := #[.int .i64 a0_0, .int .i64 0, .int .i64 0, .int .i64 0, .int .i64 0, .int .i64 0, .int .i64 0, .int .i64 0, .int .i64 0, .int .i64 0, .int .i64 0, .int .i64 0, .int .i64 0, .int .i64 0]) ?_ 1 _ rfl; (with_reducible repeat (first | refine blk_drewN ?_ _ | refine blk_drew ?_ | refine blk_alloc ?_ _)); refine blk_put (cs := #[.int .i64 0, .int .i64 0, .int .i64 0, .int .i64 0, .int .i64 0, .int .i64 0, .int .i64 0, .int .i64 0, .int .i64 0, .int .i64 0, .int .i64 0, .int .i64 0, .int .i64 0, .int .i64 0]) ?_ 0 _ rfl; (with_reducible repeat (first | refine blk_drewN ?_ _ | refine blk_drew ?_ | refine blk_alloc ?_ _)); refine blk_far ?_ NB249_250.out _; (with_reducible repeat (first | refine blk_drewN ?_ _ | refine blk_drew ?_ | refine blk_alloc ?_ _)); refine blk_far ?_ NB249_250.out _; (with_reducible repeat (first | refine blk_drewN ?_ _ | refine blk_drew ?_ | refine blk_alloc ?_ _)); refine blk_far ?_ NB249_250.out _; (with_reducible repeat (first | refine blk_drewN ?_ _ | refine blk_drew ?_ | refine blk_alloc ?_ _)); refine blk_far ?_ NB249_250.out _; (with_reducible repeat (first | refine blk_drewN ?_ _ | refine blk_drew ?_ | refine blk_alloc ?_ _)); refine blk_far ?_ NB249_250.out _; (with_reducible repeat (first | refine blk_drewN ?_ _ | refine blk_drew ?_ | refine blk_alloc ?_ _)); refine blk_far ?_ NB249_250.out _; (with_reducible repeat (first | refine blk_drewN ?_ _ | refine blk_drew ?_ | refine blk_alloc ?_ _)); refine blk_far ?_ NB249_250.out _; (with_reducible repeat (first | refine blk_drewN ?_ _ | refine blk_drew ?_ | refine blk_alloc ?_ _)); refine blk_far ?_ NB249_250.out _; (with_reducible repeat (first | refine blk_drewN ?_ _ | refine blk_drew ?_ | refine blk_alloc ?_ _)); refine blk_far ?_ NB249_250.out _; (with_reducible repeat (first | refine blk_drewN ?_ _ | refine blk_drew ?_ | refine blk_alloc ?_ _)); refine blk_far ?_ NB249_250.out _; (with_reducible repeat (first | refine blk_drewN ?_ _ | refine blk_drew ?_ | refine blk_alloc ?_ _)); refine blk_far ?_ NB249_250.out _; (with_reducible repeat (first | refine blk_drewN ?_ _ | refine blk_drew ?_ | refine blk_alloc ?_ _)); refine blk_far ?_ NB249_250.out _; (with_reducible repeat (first | refine blk_drewN ?_ _ | refine blk_drew ?_ | refine blk_alloc ?_ _)); refine blk_far ?_ NB249_250.out _; (with_reducible repeat (first | refine blk_drewN ?_ _ | refine blk_drew ?_ | refine blk_alloc ?_ _)); exact BK249.out) Try.underlying33 rfl (by kernel_rfl)) rfl ?_
 exact ⟨by first | rfl | (simp [errW_none, errW_some] <;> rfl) | (simp [*, errW_none, errW_some] <;> rfl), by repeat (first | (with_reducible first | exact HB.out | apply below_alloc | apply pw_below_drewN | apply below_drew1 | refine below_set ?_ GE248.out | refine below_set ?_ GE249.out | refine below_set ?_ GE250.out) | exact HB.out)⟩

/-! ### laws_toCell: function 77 -/
def laws_toCell.f (a0_0 : Bool) (a0_1 : Int) (a0_2 : Int) (a0_3 : Int) (a0_4 : Int) (a0_5 : Int) (a0_6 : Int) (a0_7 : Int) (a0_8 : Int) (a0_9 : Int) (a0_10 : Int) (a0_11 : Int) (a0_12 : Int) (a0_13 : Int) (a0_14 : Int) (a0_15 : Int) : Option (Bool × Int × Int × Int × Int × Int × Int × Int × Int × Int × Int × Int × Int × Int × Int × Int) := (laws_toFlowKey.f a0_1 a0_2 a0_3 a0_4 a0_5 a0_6 a0_7 a0_8 a0_9 a0_10 a0_11 a0_12 a0_13 a0_14).bind fun bt267 => (some (a0_0, bt267.1, bt267.2.1, bt267.2.2.1, bt267.2.2.2.1, bt267.2.2.2.2.1, bt267.2.2.2.2.2.1, bt267.2.2.2.2.2.2.1, bt267.2.2.2.2.2.2.2.1, bt267.2.2.2.2.2.2.2.2.1, bt267.2.2.2.2.2.2.2.2.2.1, bt267.2.2.2.2.2.2.2.2.2.2.1, bt267.2.2.2.2.2.2.2.2.2.2.2.1, bt267.2.2.2.2.2.2.2.2.2.2.2.2.1, bt267.2.2.2.2.2.2.2.2.2.2.2.2.2, a0_15))
set_option maxHeartbeats 8000000 in
set_option maxRecDepth 100000 in
theorem laws_toCell.calls (a0_0 : Bool) (a0_1 : Int) (a0_2 : Int) (a0_3 : Int) (a0_4 : Int) (a0_5 : Int) (a0_6 : Int) (a0_7 : Int) (a0_8 : Int) (a0_9 : Int) (a0_10 : Int) (a0_11 : Int) (a0_12 : Int) (a0_13 : Int) (a0_14 : Int) (a0_15 : Int) (r1 : Bool) (r2 : Int) (r3 : Int) (r4 : Int) (r5 : Int) (r6 : Int) (r7 : Int) (r8 : Int) (r9 : Int) (r10 : Int) (r11 : Int) (r12 : Int) (r13 : Int) (r14 : Int) (r15 : Int) (r16 : Int) (w : World) (h : laws_toCell.f a0_0 a0_1 a0_2 a0_3 a0_4 a0_5 a0_6 a0_7 a0_8 a0_9 a0_10 a0_11 a0_12 a0_13 a0_14 a0_15 = some (r1, r2, r3, r4, r5, r6, r7, r8, r9, r10, r11, r12, r13, r14, r15, r16)) :
  Calls Try.prog 77 #[.agg #[.bool a0_0, .int .i64 a0_1, .int .i64 a0_2, .int .i64 a0_3, .int .i64 a0_4, .int .i64 a0_5, .int .i64 a0_6, .int .i64 a0_7, .int .i64 a0_8, .int .i64 a0_9, .int .i64 a0_10, .int .i64 a0_11, .int .i64 a0_12, .int .i64 a0_13, .int .i64 a0_14, .int .i64 a0_15]] w fun e w' => e = .returned (.agg #[.bool r1, .int .i64 r2, .int .i64 r3, .int .i64 r4, .int .i64 r5, .int .i64 r6, .int .i64 r7, .int .i64 r8, .int .i64 r9, .int .i64 r10, .int .i64 r11, .int .i64 r12, .int .i64 r13, .int .i64 r14, .int .i64 r15, .int .i64 r16]) ∧ Below w.heap.size w w' := by
 have hu94 := Try.underlying94
 have hu75 := Try.underlying75
 have hu27 := Try.underlying27
 have hu33 := Try.underlying33
 have HB := Gv.a0 (Below.refl w.heap.size w)
 have H : ((laws_toFlowKey.f a0_1 a0_2 a0_3 a0_4 a0_5 a0_6 a0_7 a0_8 a0_9 a0_10 a0_11 a0_12 a0_13 a0_14).bind fun bt267 => (some (a0_0, bt267.1, bt267.2.1, bt267.2.2.1, bt267.2.2.2.1, bt267.2.2.2.2.1, bt267.2.2.2.2.2.1, bt267.2.2.2.2.2.2.1, bt267.2.2.2.2.2.2.2.1, bt267.2.2.2.2.2.2.2.2.1, bt267.2.2.2.2.2.2.2.2.2.1, bt267.2.2.2.2.2.2.2.2.2.2.1, bt267.2.2.2.2.2.2.2.2.2.2.2.1, bt267.2.2.2.2.2.2.2.2.2.2.2.2.1, bt267.2.2.2.2.2.2.2.2.2.2.2.2.2, a0_15))) = some (r1, r2, r3, r4, r5, r6, r7, r8, r9, r10, r11, r12, r13, r14, r15, r16) := h
 clear h
 replace H := Option.bind_eq_some_iff.mp H
 obtain ⟨⟨t267, t268, t269, t270, t271, t272, t273, t274, t275, t276, t277, t278, t279, t280⟩, A20, H⟩ := H
 replace H : (some (a0_0, t267, t268, t269, t270, t271, t272, t273, t274, t275, t276, t277, t278, t279, t280, a0_15)) = some (r1, r2, r3, r4, r5, r6, r7, r8, r9, r10, r11, r12, r13, r14, r15, r16) := H
 have A2 := Gv.a0 A20
 clear A20
 simp only [Option.some.injEq, Prod.mk.injEq] at H
 obtain ⟨rfl, rfl, rfl, rfl, rfl, rfl, rfl, rfl, rfl, rfl, rfl, rfl, rfl, rfl, rfl, rfl⟩ := H
 go_enter Try.func77, Try.ntmps77
 go_wp2_with (first | ((with_reducible refine gate_dst (N := 1) rfl ?_); refine box_event ?hg (N := 1) ?hd (cs := #[.bool a0_0, .int .i64 a0_1, .int .i64 a0_2, .int .i64 a0_3, .int .i64 a0_4, .int .i64 a0_5, .int .i64 a0_6, .int .i64 a0_7, .int .i64 a0_8, .int .i64 a0_9, .int .i64 a0_10, .int .i64 a0_11, .int .i64 a0_12, .int .i64 a0_13, .int .i64 a0_14, .int .i64 a0_15]) (t := 94) ?hr ?_; (case hd => rfl); (case hg => rfl); (case hr => first | (go_simp; done) | (go_simp; rfl)); intro gb264 hg w3 hbox hb; have n0_ := Gv.a0 (below_step Gv.bw hb); have n1_ := Gv.a0 (hbox); have n2_ := Gv.a0 ((Gv.ble hg Gv.bw : w.heap.size ≤ gb264)); have n3_ := Gv.a0 ((Gv.ble hg Gv.bw : w.heap.size ≤ gb264)); clear HB; have HB := n0_; have BK264 := n1_; have GW264 := n2_; have GE264 := n3_; clear n0_ n1_ n2_ n3_; clear hb hbox hg) | ((with_reducible refine gate_dst (N := 2) rfl ?_); refine box_event ?hg (N := 2) ?hd (cs := #[.bool false, .int .i64 0, .int .i64 0, .int .i64 0, .int .i64 0, .int .i64 0, .int .i64 0, .int .i64 0, .int .i64 0, .int .i64 0, .int .i64 0, .int .i64 0, .int .i64 0, .int .i64 0, .int .i64 0, .int .i64 0]) (t := 75) ?hr ?_; (case hd => rfl); (case hg => rfl); (case hr => first | (go_simp; done) | (go_simp; rfl)); intro gb265 hg w4 hbox hb; have n0_ := Gv.a0 (Gv.bb BK264.out hb); have n1_ := Gv.a0 (below_step Gv.bw hb); have n2_ := Gv.a0 (hbox); have n3_ := Gv.a0 ((Gv.ble hg Gv.bw : w.heap.size ≤ gb265)); have n4_ := Gv.a0 ((Gv.ble hg Gv.bw : w.heap.size ≤ gb265)); have n5_ := Gv.a0 ((Gv.nlt hg (Gv.kb BK264.out) : gb264 ≠ gb265)); have n6_ := Gv.a0 ((Gv.ngt hg (Gv.kb BK264.out) : gb265 ≠ gb264)); clear BK264; clear HB; have BK264 := n0_; have HB := n1_; have BK265 := n2_; have GW265 := n3_; have GE265 := n4_; have NB264_265 := n5_; have NB265_264 := n6_; clear n0_ n1_ n2_ n3_ n4_ n5_ n6_; clear hb hbox hg) | ((with_reducible refine gate_dst (N := 3) rfl ?_); refine box_event ?hg (N := 3) ?hd (cs := #[.bool false, .int .i64 0, .int .i64 0, .int .i64 0, .int .i64 0, .int .i64 0, .int .i64 0, .int .i64 0, .int .i64 0, .int .i64 0, .int .i64 0, .int .i64 0, .int .i64 0, .int .i64 0, .int .i64 0, .int .i64 0]) (t := 75) ?hr ?_; (case hd => rfl); (case hg => rfl); (case hr => first | (go_simp; done) | (go_simp; rfl)); intro gb266 hg w5 hbox hb; have n0_ := Gv.a0 (Gv.bb BK264.out hb); have n1_ := Gv.a0 (Gv.bb BK265.out hb); have n2_ := Gv.a0 (below_step Gv.bw hb); have n3_ := Gv.a0 (hbox); have n4_ := Gv.a0 ((Gv.ble hg Gv.bw : w.heap.size ≤ gb266)); have n5_ := Gv.a0 ((Gv.ble hg Gv.bw : w.heap.size ≤ gb266)); have n6_ := Gv.a0 ((Gv.nlt hg (Gv.kb BK264.out) : gb264 ≠ gb266)); have n7_ := Gv.a0 ((Gv.ngt hg (Gv.kb BK264.out) : gb266 ≠ gb264)); have n8_ := Gv.a0 ((Gv.nlt hg (Gv.kb BK265.out) : gb265 ≠ gb266)); have n9_ := Gv.a0 ((Gv.ngt hg (Gv.kb BK265.out) : gb266 ≠ gb265)); clear BK264; clear BK265; clear HB; have BK264 := n0_; have BK265 := n1_; have HB := n2_; have BK266 := n3_; have GW266 := n4_; have GE266 := n5_; have NB264_266 := n6_; have NB266_264 := n7_; have NB265_266 := n8_; have NB266_265 := n9_; clear n0_ n1_ n2_ n3_ n4_ n5_ n6_ n7_ n8_ n9_; clear hb hbox hg; have hnb6 := NB264_265.out; have hnc6 := NB265_264.out; have hnb7 := NB264_266.out; have hnc7 := NB266_264.out; obtain ⟨hcz8_0, hcz8_1, hcz8_2, hcz8_3, hcz8_4, hcz8_5, hcz8_6, hcz8_7, hcz8_8, hcz8_9, hcz8_10, hcz8_11, hcz8_12, hcz8_13, hcz8_14, hcz8_15⟩ := Gv.c16 BK264.out; obtain ⟨hfz8_0, hfz8_1, hfz8_2, hfz8_3, hfz8_4, hfz8_5, hfz8_6, hfz8_7, hfz8_8, hfz8_9, hfz8_10, hfz8_11, hfz8_12, hfz8_13, hfz8_14, hfz8_15⟩ := Gv.f16 BK264.out; have hnb9 := NB266_265.out; have hnc9 := NB265_266.out; obtain ⟨hcz10_0, hcz10_1, hcz10_2, hcz10_3, hcz10_4, hcz10_5, hcz10_6, hcz10_7, hcz10_8, hcz10_9, hcz10_10, hcz10_11, hcz10_12, hcz10_13, hcz10_14, hcz10_15⟩ := Gv.c16 BK266.out; obtain ⟨hfz10_0, hfz10_1, hfz10_2, hfz10_3, hfz10_4, hfz10_5, hfz10_6, hfz10_7, hfz10_8, hfz10_9, hfz10_10, hfz10_11, hfz10_12, hfz10_13, hfz10_14, hfz10_15⟩ := Gv.f16 BK266.out) | ((with_reducible refine gate_callee (f := 14) rfl ?_); refine goesL_ (some 9) rfl rfl Try.func14 (by kernel_rfl) rfl #[.agg #[.int .i64 a0_1, .int .i64 a0_2, .int .i64 a0_3, .int .i64 a0_4, .int .i64 a0_5, .int .i64 a0_6, .int .i64 a0_7, .int .i64 a0_8, .int .i64 a0_9, .int .i64 a0_10, .int .i64 a0_11, .int .i64 a0_12, .int .i64 a0_13, .int .i64 a0_14]] rfl Gv.lm ?_; (with_reducible refine (laws_toFlowKey.calls a0_1 a0_2 a0_3 a0_4 a0_5 a0_6 a0_7 a0_8 a0_9 a0_10 a0_11 a0_12 a0_13 a0_14 t267 t268 t269 t270 t271 t272 t273 t274 t275 t276 t277 t278 t279 t280 _ A2.out).mono ?_); rintro e w11 ⟨rfl, hb⟩; refine ⟨_, rfl, ?_⟩; have n0_ := Gv.a0 (blk_below (g := gb264) (o := .cells #[.bool a0_0, .int .i64 a0_1, .int .i64 a0_2, .int .i64 a0_3, .int .i64 a0_4, .int .i64 a0_5, .int .i64 a0_6, .int .i64 a0_7, .int .i64 a0_8, .int .i64 a0_9, .int .i64 a0_10, .int .i64 a0_11, .int .i64 a0_12, .int .i64 a0_13, .int .i64 a0_14, .int .i64 a0_15] 94 (0, 0)) Gv.bkf hb); have n1_ := Gv.a0 (blk_below (g := gb265) (o := .cells #[.bool false, .int .i64 0, .int .i64 0, .int .i64 0, .int .i64 0, .int .i64 0, .int .i64 0, .int .i64 0, .int .i64 0, .int .i64 0, .int .i64 0, .int .i64 0, .int .i64 0, .int .i64 0, .int .i64 0, .int .i64 0] 75 (0, 0)) Gv.bkf hb); have n2_ := Gv.a0 (blk_below (g := gb266) (o := .cells #[.bool a0_0, .int .i64 0, .int .i64 0, .int .i64 0, .int .i64 0, .int .i64 0, .int .i64 0, .int .i64 0, .int .i64 0, .int .i64 0, .int .i64 0, .int .i64 0, .int .i64 0, .int .i64 0, .int .i64 0, .int .i64 0] 75 (0, 0)) (by (with_reducible repeat (first | refine blk_drewN ?_ _ | refine blk_drew ?_ | refine blk_alloc ?_ _)); refine blk_put (cs := #[.bool false, .int .i64 0, .int .i64 0, .int .i64 0, .int .i64 0, .int .i64 0, .int .i64 0, .int .i64 0, .int .i64 0, .int .i64 0, .int .i64 0, .int .i64 0, .int .i64 0, .int .i64 0, .int .i64 0, .int .i64 0]) ?_ 0 _ rfl; (with_reducible repeat (first | refine blk_drewN ?_ _ | refine blk_drew ?_ | refine blk_alloc ?_ _)); exact BK266.out) hb); have n3_ := Gv.a0 (below_step Gv.bw hb); clear BK264; clear BK265; clear BK266; clear HB; have BK264 := n0_; have BK265 := n1_; have BK266 := n2_; have HB := n3_; clear n0_ n1_ n2_ n3_; (try clear hb); (try clear hb2); (try clear hk); (try clear hi); obtain ⟨hcz12_0, hcz12_1, hcz12_2, hcz12_3, hcz12_4, hcz12_5, hcz12_6, hcz12_7, hcz12_8, hcz12_9, hcz12_10, hcz12_11, hcz12_12, hcz12_13, hcz12_14, hcz12_15⟩ := Gv.c16 BK266.out; obtain ⟨hfz12_0, hfz12_1, hfz12_2, hfz12_3, hfz12_4, hfz12_5, hfz12_6, hfz12_7, hfz12_8, hfz12_9, hfz12_10, hfz12_11, hfz12_12, hfz12_13, hfz12_14, hfz12_15⟩ := Gv.f16 BK266.out; obtain ⟨hcz13_0, hcz13_1, hcz13_2, hcz13_3, hcz13_4, hcz13_5, hcz13_6, hcz13_7, hcz13_8, hcz13_9, hcz13_10, hcz13_11, hcz13_12, hcz13_13, hcz13_14, hcz13_15⟩ := Gv.c16 BK264.out; obtain ⟨hfz13_0, hfz13_1, hfz13_2, hfz13_3, hfz13_4, hfz13_5, hfz13_6, hfz13_7, hfz13_8, hfz13_9, hfz13_10, hfz13_11, hfz13_12, hfz13_13, hfz13_14, hfz13_15⟩ := Gv.f16 BK264.out; obtain ⟨hcz14_0, hcz14_1, hcz14_2, hcz14_3, hcz14_4, hcz14_5, hcz14_6, hcz14_7, hcz14_8, hcz14_9, hcz14_10, hcz14_11, hcz14_12, hcz14_13, hcz14_14, hcz14_15⟩ := Gv.c16 BK265.out; obtain ⟨hfz14_0, hfz14_1, hfz14_2, hfz14_3, hfz14_4, hfz14_5, hfz14_6, hfz14_7, hfz14_8, hfz14_9, hfz14_10, hfz14_11, hfz14_12, hfz14_13, hfz14_14, hfz14_15⟩ := Gv.f16 BK265.out))
 refine bodyPost_ret (results_cell_row rfl _ _ gb265 75 #[.bool a0_0, .int .i64 t267, .int .i64 t268, .int .i64 t269, .int .i64 t270, .int .i64 t271, .int .i64 t272, .int .i64 t273, .int .i64 t274, .int .i64 t275, .int .i64 t276, .int .i64 t277, .int .i64 t278, .int .i64 t279, .int .i64 t280, .int .i64 a0_15] (0, 0) _ rfl (by (with_reducible repeat (first | refine blk_drewN ?_ _ | refine blk_drew ?_ | refine blk_alloc ?_ _)); refine blk_put (cs := #[.bool a0_0, .int .i64 t267, .int .i64 t268, .int .i64 t269, .int .i64 t270, .int .i64 t271, .int .i64 t272, .int .i64 t273, .int .i64 t274, .int .i64 t275, .int .i64 t276, .int .i64 t277, .int .i64 t278, .int .i64 t279, .int .i64 t280, .int .i64 0]) ?_ 15 _ rfl; (with_reducible repeat (first | refine blk_drewN ?_ _ | refine blk_drew ?_ | refine blk_alloc ?_ _)); refine blk_put (cs := #[.bool a0_0, .int .i64 t267, .int .i64 t268, .int .i64 t269, .int .i64 t270, .int .i64 t271, .int .i64 t272, .int .i64 t273, .int .i64 t274, .int .i64 t275, .int .i64 t276, .int .i64 t277, .int .i64 t278, .int .i64 t279, .int .i64 0, .int .i64 0]) ?_ 14 _ rfl; (with_reducible repeat (first | refine blk_drewN ?_ _ | refine blk_drew ?_ | refine blk_alloc ?_ _)); refine blk_put (cs := #[.bool a0_0, .int .i64 t267, .int .i64 t268, .int .i64 t269, .int .i64 t270, .int .i64 t271, .int .i64 t272, .int .i64 t273, .int .i64 t274, .int .i64 t275, .int .i64 t276, .int .i64 t277, .int .i64 t278, .int .i64 0, .int .i64 0, .int .i64 0]) ?_ 13 _ rfl; (with_reducible repeat (first | refine blk_drewN ?_ _ | refine blk_drew ?_ | refine blk_alloc ?_ _)); refine blk_put (cs := #[.bool a0_0, .int .i64 t267, .int .i64 t268, .int .i64 t269, .int .i64 t270, .int .i64 t271, .int .i64 t272, .int .i64 t273, .int .i64 t274, .int .i64 t275, .int .i64 t276, .int .i64 t277, .int .i64 0, .int .i64 0, .int .i64 0, .int .i64 0]) ?_ 12 _ rfl; (with_reducible repeat (first | refine blk_drewN ?_ _ | refine blk_drew ?_ | refine blk_alloc ?_ _)); refine blk_put (cs := #[.bool a0_0, .int .i64 t267, .int .i64 t268, .int .i64 t269, .int .i64 t270, .int .i64 t271, .int .i64 t272, .int .i64 t273, .int .i64 t274, .int .i64 t275, .int .i64 t276, .int .i64 0, .int .i64 0, .int .i64 0, .int .i64 0, .int .i64 0]) ?_ 11 _ rfl; (with_reducible repeat (first | refine blk_drewN ?_ _ | refine blk_drew ?_ | refine blk_alloc ?_ _)); refine blk_put (cs := #[.bool a0_0, .int .i64 t267, .int .i64 t268, .int .i64 t269, .int .i64 t270, .int .i64 t271, .int .i64 t272, .int .i64 t273, .int .i64 t274, .int .i64 t275, .int .i64 0, .int .i64 0, .int .i64 0, .int .i64 0, .int .i64 0, .int .i64 0]) ?_ 10 _ rfl; (with_reducible repeat (first | refine blk_drewN ?_ _ | refine blk_drew ?_ | refine blk_alloc ?_ _)); refine blk_put (cs := #[.bool a0_0, .int .i64 t267, .int .i64 t268, .int .i64 t269, .int .i64 t270, .int .i64 t271, .int .i64 t272, .int .i64 t273, .int .i64 t274, .int .i64 0, .int .i64 0, .int .i64 0, .int .i64 0, .int .i64 0, .int .i64 0, .int .i64 0]) ?_ 9 _ rfl; (with_reducible repeat (first | refine blk_drewN ?_ _ | refine blk_drew ?_ | refine blk_alloc ?_ _)); refine blk_put (cs := #[.bool a0_0, .int .i64 t267, .int .i64 t268, .int .i64 t269, .int .i64 t270, .int .i64 t271, .int .i64 t272, .int .i64 t273, .int .i64 0, .int .i64 0, .int .i64 0, .int .i64 0, .int .i64 0, .int .i64 0, .int .i64 0, .int .i64 0]) ?_ 8 _ rfl; (with_reducible repeat (first | refine blk_drewN ?_ _ | refine blk_drew ?_ | refine blk_alloc ?_ _)); refine blk_put (cs := #[.bool a0_0, .int .i64 t267, .int .i64 t268, .int .i64 t269, .int .i64 t270, .int .i64 t271, .int .i64 t272, .int .i64 0, .int .i64 0, .int .i64 0, .int .i64 0, .int .i64 0, .int .i64 0, .int .i64 0, .int .i64 0, .int .i64 0]) ?_ 7 _ rfl; (with_reducible repeat (first | refine blk_drewN ?_ _ | refine blk_drew ?_ | refine blk_alloc ?_ _)); refine blk_put (cs := #[.bool a0_0, .int .i64 t267, .int .i64 t268, .int .i64 t269, .int .i64 t270, .int .i64 t271, .int .i64 0, .int .i64 0, .int .i64 0, .int .i64 0, .int .i64 0, .int .i64 0, .int .i64 0, .int .i64 0, .int .i64 0, .int .i64 0]) ?_ 6 _ rfl; (with_reducible repeat (first | refine blk_drewN ?_ _ | refine blk_drew ?_ | refine blk_alloc ?_ _)); refine blk_put (cs := #[.bool a0_0, .int .i64 t267, .int .i64 t268, .int .i64 t269, .int .i64 t270, .int .i64 0, .int .i64 0, .int .i64 0, .int .i64 0, .int .i64 0, .int .i64 0, .int .i64 0, .int .i64 0, .int .i64 0, .int .i64 0, .int .i64 0]) ?_ 5 _ rfl; (with_reducible repeat (first | refine blk_drewN ?_ _ | refine blk_drew ?_ | refine blk_alloc ?_ _)); refine blk_put (cs := #[.bool a0_0, .int .i64 t267, .int .i64 t268, .int .i64 t269, .int .i64 0, .int .i64 0, .int .i64 0, .int .i64 0, .int .i64 0, .int .i64 0, .int .i64 0, .int .i64 0, .int .i64 0, .int .i64 0, .int .i64 0, .int .i64 0]) ?_ 4 _ rfl; (with_reducible repeat (first | refine blk_drewN ?_ _ | refine blk_drew ?_ | refine blk_alloc ?_ _)); refine blk_put (cs := #[.bool a0_0, .int .i64 t267, .int .i64 t268, .int .i64 0, .int .i64 0, .int .i64 0, .int .i64 0, .int .i64 0, .int .i64 0, .int .i64 0, .int .i64 0, .int .i64 0, .int .i64 0, .int .i64 0, .int .i64 0, .int .i64 0]) ?_ 3 _ rfl; (with_reducible repeat (first | refine blk_drewN ?_ _ | refine blk_drew ?_ | refine blk_alloc ?_ _)); refine blk_put (cs := #[.bool a0_0, .int .i64 t267, .int .i64 0, .int .i64 0, .int .i64 0, .int .i64 0, .int .i64 0, .int .i64 0, .int .i64 0, .int .i64 0, .int .i64 0, .int .i64 0, .int .i64 0, .int .i64 0, .int .i64 0, .int .i64 0]) ?_ 2 _ rfl; (with_reducible repeat (first | refine blk_drewN ?_ _ | refine blk_drew ?_ | refine blk_alloc ?_ _)); refine blk_put (cs := #[.bool a0_0, .int .i64 0, .int .i64 0, .int .i64 0, .int .i64 0, .int .i64 0, .int .i64 0, .int .i64 0, .int .i64 0, .int .i64 0, .int .i64 0, .int .i64 0, .int .i64 0, .int .i64 0, .int .i64 0, .int .i64 0]) ?_ 1 _ rfl; (with_reducible repeat (first | refine blk_drewN ?_ _ | refine blk_drew ?_ | refine blk_alloc ?_ _)); refine blk_put (cs := #[.bool false, .int .i64 0, .int .i64 0, .int .i64 0, .int .i64 0, .int .i64 0, .int .i64 0, .int .i64 0, .int .i64 0, .int .i64 0, .int .i64 0, .int .i64 0, .int .i64 0, .int .i64 0, .int .i64 0, .int .i64 0]) ?_ 0 _ rfl; (with_reducible repeat (first | refine blk_drewN ?_ _ | refine blk_drew ?_ | refine blk_alloc ?_ _)); refine blk_far ?_ NB265_266.out _; (with_reducible repeat (first | refine blk_drewN ?_ _ | refine blk_drew ?_ | refine blk_alloc ?_ _)); refine blk_far ?_ NB265_266.out _; (with_reducible repeat (first | refine blk_drewN ?_ _ | refine blk_drew ?_ | refine blk_alloc ?_ _)); refine blk_far ?_ NB265_266.out _; (with_reducible repeat (first | refine blk_drewN ?_ _ | refine blk_drew ?_ | refine blk_alloc ?_ _)); refine blk_far ?_ NB265_266.out _; (with_reducible repeat (first | refine blk_drewN ?_ _ | refine blk_drew ?_ | refine blk_alloc ?_ _)); refine blk_far ?_ NB265_266.out _; (with_reducible repeat (first | refine blk_drewN ?_ _ | refine blk_drew ?_ | refine blk_alloc ?_ _)); refine blk_far ?_ NB265_266.out _; (with_reducible repeat (first | refine blk_drewN ?_ _ | refine blk_drew ?_ | refine blk_alloc ?_ _)); refine blk_far ?_ NB265_266.out _; (with_reducible repeat (first | refine blk_drewN ?_ _ | refine blk_drew ?_ | refine blk_alloc ?_ _)); refine blk_far ?_ NB265_266.out _; (with_reducible repeat (first | refine blk_drewN ?_ _ | refine blk_drew ?_ | refine blk_alloc ?_ _)); refine blk_far ?_ NB265_266.out _; (with_reducible repeat (first | refine blk_drewN ?_ _ | refine blk_drew ?_ | refine blk_alloc ?_ _)); refine blk_far ?_ NB265_266.out _; (with_reducible repeat (first | refine blk_drewN ?_ _ | refine blk_drew ?_ | refine blk_alloc ?_ _)); refine blk_far ?_ NB265_266.out _; (with_reducible repeat (first | refine blk_drewN ?_ _ | refine blk_drew ?_ | refine blk_alloc ?_ _)); refine blk_far ?_ NB265_266.out _; (with_reducible repeat (first | refine blk_drewN ?_ _ | refine blk_drew ?_ | refine blk_alloc ?_ _)); refine blk_far ?_ NB265_266.out _; (with_reducible repeat (first | refine blk_drewN ?_ _ | refine blk_drew ?_ | refine blk_alloc ?_ _)); refine blk_far ?_ NB265_266.out _; (with_reducible repeat (first | refine blk_drewN ?_ _ | refine blk_drew ?_ | refine blk_alloc ?_ _)); refine blk_far ?_ NB265_266.out _; (with_reducible repeat (first | refine blk_drewN ?_ _ | refine blk_drew ?_ | refine blk_alloc ?_ _)); exact BK265.out) Try.underlying75 rfl (by kernel_rfl)) rfl ?_
 exact ⟨by first | rfl | (simp [errW_none, errW_some] <;> rfl) | (simp [*, errW_none, errW_some] <;> rfl), by repeat (first | (with_reducible first | exact HB.out | apply below_alloc | apply pw_below_drewN | apply below_drew1 | refine below_set ?_ GE264.out | refine below_set ?_ GE265.out | refine below_set ?_ GE266.out) | exact HB.out)⟩

/-! ### laws_toCellS: function 56 -/
def laws_toCellS.l0 : Nat → List (S94) → List (S75) → Int → Option ((List (S75)))
 | 0, _, _, _ => none
 | k + 1, x0, x3, x4 => if x4 < (x0.length : Int) then (if 0 ≤ x4 then ((laws_toCell.f ((rd_T94 x0 x4).f0) ((rd_T94 x0 x4).f1.f0) ((rd_T94 x0 x4).f1.f1.f0.f0) ((rd_T94 x0 x4).f1.f1.f0.f1) ((rd_T94 x0 x4).f1.f1.f0.f2) ((rd_T94 x0 x4).f1.f1.f0.f3) ((rd_T94 x0 x4).f1.f1.f0.f4) ((rd_T94 x0 x4).f1.f1.f1.f0) ((rd_T94 x0 x4).f1.f1.f1.f1) ((rd_T94 x0 x4).f1.f1.f1.f2) ((rd_T94 x0 x4).f1.f1.f1.f3) ((rd_T94 x0 x4).f1.f1.f1.f4) ((rd_T94 x0 x4).f1.f1.f2) ((rd_T94 x0 x4).f1.f1.f3) ((rd_T94 x0 x4).f1.f1.f4) ((rd_T94 x0 x4).f2)).bind fun bt285 => (if x4 < (x3.length : Int) then (laws_toCellS.l0 k x0 (x3.set (x4 : Int).toNat (⟨bt285.1, (⟨bt285.2.1, (⟨(⟨bt285.2.2.1, bt285.2.2.2.1, bt285.2.2.2.2.1, bt285.2.2.2.2.2.1, bt285.2.2.2.2.2.2.1⟩ : S29), (⟨bt285.2.2.2.2.2.2.2.1, bt285.2.2.2.2.2.2.2.2.1, bt285.2.2.2.2.2.2.2.2.2.1, bt285.2.2.2.2.2.2.2.2.2.2.1, bt285.2.2.2.2.2.2.2.2.2.2.2.1⟩ : S29), bt285.2.2.2.2.2.2.2.2.2.2.2.2.1, bt285.2.2.2.2.2.2.2.2.2.2.2.2.2.1, bt285.2.2.2.2.2.2.2.2.2.2.2.2.2.2.1⟩ : S31)⟩ : S33), bt285.2.2.2.2.2.2.2.2.2.2.2.2.2.2.2⟩ : S75)) (wrap64 (x4 + 1))) else (none))) else (none)) else (some x3)
def laws_toCellS.f (k : Nat) (l0 : List (S94)) : Option ((List (S75))) := if 0 ≤ (l0.length : Int) then (if ((l0.length : Int) : Int).toNat ≤ 2199023255552 then (laws_toCellS.l0 k l0 (List.replicate ((l0.length : Int) : Int).toNat z75) 0) else (none)) else (none)
theorem laws_toCellS.mono_l : ∀ k, (∀ y0 y1 y2, LeO (laws_toCellS.l0 k y0 y1 y2) (laws_toCellS.l0 (k + 1) y0 y1 y2))
 | 0 => fun _ _ _ r h => by simp [laws_toCellS.l0] at h
 | k + 1 => by
  have ih0 := laws_toCellS.mono_l k
  ·intro y0 y1 y2
   unfold laws_toCellS.l0
   repeat' first
   | (with_reducible exact ih0 _ _ _)
   | (with_reducible exact LeO.refl _)
   | (with_reducible exact LeO.none _)
   | (with_reducible refine LeO.ite ?_ ?_)
   | (with_reducible refine LeO.bind ?_ (fun _ => ?_))
   | exact ih0 _ _ _
   | exact LeO.none _
   | refine LeO.ite ?_ ?_
   | refine LeO.bind ?_ (fun _ => ?_)
theorem laws_toCellS.mono : ∀ a0 k, LeO (laws_toCellS.f k a0) (laws_toCellS.f (k + 1) a0) := by
 intro a0 k
 have ih0 := laws_toCellS.mono_l k
 unfold laws_toCellS.f
 repeat' first
   | (with_reducible exact ih0 _ _ _)
   | (with_reducible exact LeO.refl _)
   | (with_reducible exact LeO.none _)
   | (with_reducible refine LeO.ite ?_ ?_)
   | (with_reducible refine LeO.bind ?_ (fun _ => ?_))
   | exact ih0 _ _ _
   | exact LeO.none _
   | refine LeO.ite ?_ ?_
   | refine LeO.bind ?_ (fun _ => ?_)
set_option maxHeartbeats 8000000 in
set_option maxRecDepth 100000 in
theorem laws_toCellS.calls (k : Nat) (A0 : Option Addr) (c0 : Nat) (l0 : List (S94)) (r : List (S75)) (w : World) (hr0 : Kd.C k94 w A0 l0.length l0) (hc0 : l0.length ≤ c0) (h : laws_toCellS.f k l0 = some r) :
  Calls Try.prog 56 #[.slice A0 l0.length c0] w fun e w' => ∃ v0_ : Value, e = .returned (v0_) ∧ Kd.R k75 75 w' w.heap.size (fun _ => True) v0_ r ∧ Below w.heap.size w w' := by
 have hu94 := Try.underlying94
 have hu75 := Try.underlying75
 have HR0 := Gv.a0 hr0
 have HC0 := Gv.a0 hc0
 clear hr0 hc0
 have HB := Gv.a0 (Below.refl w.heap.size w)
 have H : (if 0 ≤ (l0.length : Int) then (if ((l0.length : Int) : Int).toNat ≤ 2199023255552 then (laws_toCellS.l0 k l0 (List.replicate ((l0.length : Int) : Int).toNat z75) 0) else (none)) else (none)) = some r := h
 clear h
 by_cases c2 : 0 ≤ (l0.length : Int)
 ·rw [if_pos c2] at H
  have c2b0 := eq_true c2
  have c2b1 : decide (0 ≤ (l0.length : Int)) = true := decide_eq_true c2
  clear c2
  by_cases c3 : ((l0.length : Int) : Int).toNat ≤ 2199023255552
  ·rw [if_pos c3] at H
   have c3b0 := eq_true c3
   have c3b1 : decide (((l0.length : Int) : Int).toNat ≤ 2199023255552) = true := decide_eq_true c3
   clear c3
   obtain ⟨y281, hy281⟩ : ∃ y_ : List (S75), y_ = (List.replicate ((l0.length : Int) : Int).toNat z75) := ⟨_, rfl⟩
   replace H : (laws_toCellS.l0 k l0 y281 0) = some r := by first | (rw [hy281]; with_reducible exact H) | (have H2_ := (Option.bind_some _ _).symm.trans H; rw [hy281]; with_reducible exact H2_) | (have H2_ := (Option.bind_some _ _).symm.trans H; with_reducible exact H2_) | with_reducible exact H | (rw [hy281]; exact H) | exact H
   have Ny281 := Gv.a0 hy281
   clear hy281
   have H' := Gv.a0 H
   clear H
   go_enter Try.func56, Try.ntmps56
   go_wp2_with (first | ((with_reducible refine gate_dst (N := 7) rfl ?_); refine Kd.R_make k75 _ 75 rfl (N := 7) rfl 38 _ _ rfl (l0.length : Int) rfl rfl Try.underlying38 (.agg #[(.bool false), (.int .i64 0), (.int .i64 0), (.int .i64 0), (.int .i64 0), (.int .i64 0), (.int .i64 0), (.int .i64 0), (.int .i64 0), (.int .i64 0), (.int .i64 0), (.int .i64 0), (.int .i64 0), (.int .i64 0), (.int .i64 0), (.int .i64 0)]) 128 info75 rfl (by decide) (by omega) z75 (ok := fun _ => True) (okp := fun _ => True) (k75_mkM _ _ _ z75 ) (fun _ hk => hk) trivial (of_decide_eq_true (by first | (with_reducible assumption) | assumption)) (Nat.le_trans (Nat.mul_le_mul_right _ (of_decide_eq_true (by first | (with_reducible assumption) | assumption) : (l0.length : Int).toNat ≤ 2199023255552)) (by omega)) (Below.refl _ _) (Nat.le_refl _) ?_; intro v282 w4 ho5 hb hg_ hnew_; clear hg_ hnew_; (first | rw [← Ny281.out] at ho5 | (simp only [Int.reduceToNat] at ho5; rw [← Ny281.out] at ho5)); have n0_ := Gv.a0 (Kd.R_lower ho5 (below_size Gv.bw)); have n1_ := Gv.a0 (below_step Gv.bw hb); clear HB; have HO283 := n0_; have HB := n1_; clear n0_ n1_; clear hb ho5))
   go_loopg [4] k (fun kq v4 w' => ∃ (x3_1 : List (S75)) (x4_1 : Int), v4 = .int .i64 x4_1 ∧ Aside0 (laws_toCellS.l0 kq l0 x3_1 x4_1 = some r) ∧ Aside0 (kq ≤ k) ∧ Aside0 (Kd.R k75 75 w' w.heap.size (fun _ => True) v282 x3_1) ∧ Aside0 (Below w.heap.size w w'))
   case atStart => exact ⟨(y281), (0), (by first | rfl | (simp; done) | (simp [Int.tdiv_eq_ediv_of_nonneg]; done) | (simp [*]; done)), H', ⟨Nat.le_refl _⟩, ⟨by (with_reducible repeat (first | apply Kd.R_alloc | apply Kd.R_drewN | apply Kd.R_drew)); exact HO283.out⟩, ⟨by repeat (first | (with_reducible first | exact HB.out | apply below_alloc | apply pw_below_drewN | apply below_drew1) | exact HB.out)⟩⟩
   case round =>
    clear H'
    try clear c2
    try clear c2b0
    try clear c2b1
    try clear p2
    try clear c3
    try clear c3b0
    try clear c3b1
    try clear c5
    obtain ⟨x3_1, x4_1, rfl, HA, HK1, HO_3, HB⟩ := hrel
    cases gk with
    | zero => exact absurd HA.out (by simp [laws_toCellS.l0])
    | succ k1 =>
     have H := HA.out
     clear HA
     simp only [laws_toCellS.l0] at H
     by_cases c6 : x4_1 < (l0.length : Int)
     ·rw [if_pos c6] at H
      have c6b0 : decide (x4_1 < (l0.length : Int)) = true := decide_eq_true c6
      clear c6
      by_cases c7 : 0 ≤ x4_1
      ·rw [if_pos c7] at H
       have c7b0 : decide (0 ≤ x4_1) = true := decide_eq_true c7
       clear c7
       replace H := Option.bind_eq_some_iff.mp H
       obtain ⟨⟨t285, t286, t287, t288, t289, t290, t291, t292, t293, t294, t295, t296, t297, t298, t299, t300⟩, A80, H⟩ := H
       replace H : (if x4_1 < (x3_1.length : Int) then (laws_toCellS.l0 k1 l0 (x3_1.set (x4_1 : Int).toNat (⟨t285, (⟨t286, (⟨(⟨t287, t288, t289, t290, t291⟩ : S29), (⟨t292, t293, t294, t295, t296⟩ : S29), t297, t298, t299⟩ : S31)⟩ : S33), t300⟩ : S75)) (wrap64 (x4_1 + 1))) else (none)) = some r := H
       have A8 := Gv.a0 A80
       clear A80
       by_cases c9 : x4_1 < (x3_1.length : Int)
       ·rw [if_pos c9] at H
        have c9b0 : decide (x4_1 < (x3_1.length : Int)) = true := decide_eq_true c9
        clear c9
        obtain ⟨y301, hy301⟩ : ∃ y_ : List (S75), y_ = (x3_1.set (x4_1 : Int).toNat (⟨t285, (⟨t286, (⟨(⟨t287, t288, t289, t290, t291⟩ : S29), (⟨t292, t293, t294, t295, t296⟩ : S29), t297, t298, t299⟩ : S31)⟩ : S33), t300⟩ : S75)) := ⟨_, rfl⟩
        replace H : (laws_toCellS.l0 k1 l0 y301 (wrap64 (x4_1 + 1))) = some r := by first | (rw [hy301]; with_reducible exact H) | (have H2_ := (Option.bind_some _ _).symm.trans H; rw [hy301]; with_reducible exact H2_) | (have H2_ := (Option.bind_some _ _).symm.trans H; with_reducible exact H2_) | with_reducible exact H | (rw [hy301]; exact H) | exact H
        have Ny301 := Gv.a0 hy301
        clear hy301
        have H' := Gv.a0 H
        clear H
        have p284 : 0 ≤ (x4_1 : Int) := of_decide_eq_true (by first | (with_reducible assumption) | assumption)
        have q284 : x4_1 < (l0.length : Int) := of_decide_eq_true (by first | (with_reducible assumption) | assumption)
        obtain ⟨ad284, e284, hx284_0, hx284_1, hx284_2, hx284_3, hx284_4, hx284_5, hx284_6, hx284_7, hx284_8, hx284_9, hx284_10, hx284_11, hx284_12, hx284_13, hx284_14, hx284_15⟩ := at_T94 HR0.out x4_1 p284 q284
        cases e284
        replace hx284_0 := Gv.bx HB.out hx284_0
        replace hx284_1 := Gv.bx HB.out hx284_1
        replace hx284_2 := Gv.bx HB.out hx284_2
        replace hx284_3 := Gv.bx HB.out hx284_3
        replace hx284_4 := Gv.bx HB.out hx284_4
        replace hx284_5 := Gv.bx HB.out hx284_5
        replace hx284_6 := Gv.bx HB.out hx284_6
        replace hx284_7 := Gv.bx HB.out hx284_7
        replace hx284_8 := Gv.bx HB.out hx284_8
        replace hx284_9 := Gv.bx HB.out hx284_9
        replace hx284_10 := Gv.bx HB.out hx284_10
        replace hx284_11 := Gv.bx HB.out hx284_11
        replace hx284_12 := Gv.bx HB.out hx284_12
        replace hx284_13 := Gv.bx HB.out hx284_13
        replace hx284_14 := Gv.bx HB.out hx284_14
        replace hx284_15 := Gv.bx HB.out hx284_15
        replace p284 := eq_true p284
        replace q284 := eq_true q284
        go_wp2_with (first | ((with_reducible refine gate_callee (f := 77) rfl ?_); refine goesL_ (some 20) rfl rfl Try.func77 (by kernel_rfl) rfl #[.agg #[.bool ((rd_T94 l0 x4_1).f0), .int .i64 ((rd_T94 l0 x4_1).f1.f0), .int .i64 ((rd_T94 l0 x4_1).f1.f1.f0.f0), .int .i64 ((rd_T94 l0 x4_1).f1.f1.f0.f1), .int .i64 ((rd_T94 l0 x4_1).f1.f1.f0.f2), .int .i64 ((rd_T94 l0 x4_1).f1.f1.f0.f3), .int .i64 ((rd_T94 l0 x4_1).f1.f1.f0.f4), .int .i64 ((rd_T94 l0 x4_1).f1.f1.f1.f0), .int .i64 ((rd_T94 l0 x4_1).f1.f1.f1.f1), .int .i64 ((rd_T94 l0 x4_1).f1.f1.f1.f2), .int .i64 ((rd_T94 l0 x4_1).f1.f1.f1.f3), .int .i64 ((rd_T94 l0 x4_1).f1.f1.f1.f4), .int .i64 ((rd_T94 l0 x4_1).f1.f1.f2), .int .i64 ((rd_T94 l0 x4_1).f1.f1.f3), .int .i64 ((rd_T94 l0 x4_1).f1.f1.f4), .int .i64 ((rd_T94 l0 x4_1).f2)]] rfl Gv.lm ?_; (with_reducible refine (laws_toCell.calls _ _ _ _ _ _ _ _ _ _ _ _ _ _ _ _ t285 t286 t287 t288 t289 t290 t291 t292 t293 t294 t295 t296 t297 t298 t299 t300 _ A8.out).mono ?_); rintro e w11 ⟨rfl, hb⟩; refine ⟨_, rfl, ?_⟩; have n0_ := Gv.a0 (Kd.R_below (Gv.kr HO_3.out) hb); have n1_ := Gv.a0 (below_step Gv.bw hb); clear HO_3; clear HB; have HO_3 := n0_; have HB := n1_; clear n0_ n1_; (try clear hb); (try clear hb2); (try clear hk); (try clear hi); have p10 : 0 ≤ (x4_1 : Int) := of_decide_eq_true (by first | (with_reducible assumption) | assumption); have q10 : (x4_1 : Int) < ((x3_1.length : Int) : Int) := of_decide_eq_true (by first | (with_reducible assumption) | assumption); obtain ⟨go10, co10, eo10, gb10, gl10, cl10, HG10⟩ := Kd.R_form HO_3.out (by omega); (first | cases eo10 | (injection eo10 with ea_ en_ ec_; (first | subst ea_ | (injection ea_ with ea_; subst ea_)); subst ec_; clear en_)); have GB10 := Gv.a0 gb10; have GG10 := Gv.a0 HG10; clear gb10 gl10 HG10; obtain ⟨ce10, hcl10, hM10, hcc10, hfr10⟩ := Kd.R_elem HO_3.out z75 (x4_1 : Int) p10 q10; obtain rfl := k75_openM hM10; have hx10_0 : w11.cell? ⟨go10, (x4_1 : Int).toNat * 16, none⟩ = some (.bool ((rd_T75 x3_1 x4_1).f0)) := hcc10 0 _ rfl; have hx10_1 : w11.cell? ⟨go10, (x4_1 : Int).toNat * 16 + 1, none⟩ = some (.int .i64 ((rd_T75 x3_1 x4_1).f1.f0)) := hcc10 1 _ rfl; have hx10_2 : w11.cell? ⟨go10, (x4_1 : Int).toNat * 16 + 2, none⟩ = some (.int .i64 ((rd_T75 x3_1 x4_1).f1.f1.f0.f0)) := hcc10 2 _ rfl; have hx10_3 : w11.cell? ⟨go10, (x4_1 : Int).toNat * 16 + 3, none⟩ = some (.int .i64 ((rd_T75 x3_1 x4_1).f1.f1.f0.f1)) := hcc10 3 _ rfl; have hx10_4 : w11.cell? ⟨go10, (x4_1 : Int).toNat * 16 + 4, none⟩ = some (.int .i64 ((rd_T75 x3_1 x4_1).f1.f1.f0.f2)) := hcc10 4 _ rfl; have hx10_5 : w11.cell? ⟨go10, (x4_1 : Int).toNat * 16 + 5, none⟩ = some (.int .i64 ((rd_T75 x3_1 x4_1).f1.f1.f0.f3)) := hcc10 5 _ rfl; have hx10_6 : w11.cell? ⟨go10, (x4_1 : Int).toNat * 16 + 6, none⟩ = some (.int .i64 ((rd_T75 x3_1 x4_1).f1.f1.f0.f4)) := hcc10 6 _ rfl; have hx10_7 : w11.cell? ⟨go10, (x4_1 : Int).toNat * 16 + 7, none⟩ = some (.int .i64 ((rd_T75 x3_1 x4_1).f1.f1.f1.f0)) := hcc10 7 _ rfl; have hx10_8 : w11.cell? ⟨go10, (x4_1 : Int).toNat * 16 + 8, none⟩ = some (.int .i64 ((rd_T75 x3_1 x4_1).f1.f1.f1.f1)) := hcc10 8 _ rfl; have hx10_9 : w11.cell? ⟨go10, (x4_1 : Int).toNat * 16 + 9, none⟩ = some (.int .i64 ((rd_T75 x3_1 x4_1).f1.f1.f1.f2)) := hcc10 9 _ rfl; have hx10_10 : w11.cell? ⟨go10, (x4_1 : Int).toNat * 16 + 10, none⟩ = some (.int .i64 ((rd_T75 x3_1 x4_1).f1.f1.f1.f3)) := hcc10 10 _ rfl; have hx10_11 : w11.cell? ⟨go10, (x4_1 : Int).toNat * 16 + 11, none⟩ = some (.int .i64 ((rd_T75 x3_1 x4_1).f1.f1.f1.f4)) := hcc10 11 _ rfl; have hx10_12 : w11.cell? ⟨go10, (x4_1 : Int).toNat * 16 + 12, none⟩ = some (.int .i64 ((rd_T75 x3_1 x4_1).f1.f1.f2)) := hcc10 12 _ rfl; have hx10_13 : w11.cell? ⟨go10, (x4_1 : Int).toNat * 16 + 13, none⟩ = some (.int .i64 ((rd_T75 x3_1 x4_1).f1.f1.f3)) := hcc10 13 _ rfl; have hx10_14 : w11.cell? ⟨go10, (x4_1 : Int).toNat * 16 + 14, none⟩ = some (.int .i64 ((rd_T75 x3_1 x4_1).f1.f1.f4)) := hcc10 14 _ rfl; have hx10_15 : w11.cell? ⟨go10, (x4_1 : Int).toNat * 16 + 15, none⟩ = some (.int .i64 ((rd_T75 x3_1 x4_1).f2)) := hcc10 15 _ rfl; have hf10_0 : w11.frozen? ⟨go10, (x4_1 : Int).toNat * 16, none⟩ = false := hfr10 0; have hf10_1 : w11.frozen? ⟨go10, (x4_1 : Int).toNat * 16 + 1, none⟩ = false := hfr10 1; have hf10_2 : w11.frozen? ⟨go10, (x4_1 : Int).toNat * 16 + 2, none⟩ = false := hfr10 2; have hf10_3 : w11.frozen? ⟨go10, (x4_1 : Int).toNat * 16 + 3, none⟩ = false := hfr10 3; have hf10_4 : w11.frozen? ⟨go10, (x4_1 : Int).toNat * 16 + 4, none⟩ = false := hfr10 4; have hf10_5 : w11.frozen? ⟨go10, (x4_1 : Int).toNat * 16 + 5, none⟩ = false := hfr10 5; have hf10_6 : w11.frozen? ⟨go10, (x4_1 : Int).toNat * 16 + 6, none⟩ = false := hfr10 6; have hf10_7 : w11.frozen? ⟨go10, (x4_1 : Int).toNat * 16 + 7, none⟩ = false := hfr10 7; have hf10_8 : w11.frozen? ⟨go10, (x4_1 : Int).toNat * 16 + 8, none⟩ = false := hfr10 8; have hf10_9 : w11.frozen? ⟨go10, (x4_1 : Int).toNat * 16 + 9, none⟩ = false := hfr10 9; have hf10_10 : w11.frozen? ⟨go10, (x4_1 : Int).toNat * 16 + 10, none⟩ = false := hfr10 10; have hf10_11 : w11.frozen? ⟨go10, (x4_1 : Int).toNat * 16 + 11, none⟩ = false := hfr10 11; have hf10_12 : w11.frozen? ⟨go10, (x4_1 : Int).toNat * 16 + 12, none⟩ = false := hfr10 12; have hf10_13 : w11.frozen? ⟨go10, (x4_1 : Int).toNat * 16 + 13, none⟩ = false := hfr10 13; have hf10_14 : w11.frozen? ⟨go10, (x4_1 : Int).toNat * 16 + 14, none⟩ = false := hfr10 14; have hf10_15 : w11.frozen? ⟨go10, (x4_1 : Int).toNat * 16 + 15, none⟩ = false := hfr10 15; clear hcl10 hcc10 hfr10 hM10; replace p10 := eq_true p10; replace q10 := eq_true q10; have HX12 := Gv.a0 (show Kd.R k75 75 w11 w.heap.size (fun _ => True) (.slice (some ⟨go10, 0, none⟩) x3_1.length co10) x3_1 from (Gv.kr HO_3.out)); obtain ⟨ce12, hcl12, hM12, hcc12, hfr12⟩ := Kd.R_elem HX12.out z75 (x4_1 : Int) (of_decide_eq_true (by first | (with_reducible assumption) | assumption)) (by have h_ : (x4_1 : Int) < ((x3_1.length : Int) : Int) := of_decide_eq_true (by first | (with_reducible assumption) | assumption); first | exact h_ | (have e_ := (Kd.R_reads' HO_3.out).1; omega) | simpa using h_); obtain rfl := k75_openM hM12; have HP12 := Kd.R_seg HX12.out (x4_1 : Int) (of_decide_eq_true (by first | (with_reducible assumption) | assumption)) (by have h_ : (x4_1 : Int) < ((x3_1.length : Int) : Int) := of_decide_eq_true (by first | (with_reducible assumption) | assumption); first | exact h_ | (have e_ := (Kd.R_reads' HO_3.out).1; omega) | simpa using h_) (seg := [.bool t285, .int .i64 t286, .int .i64 t287, .int .i64 t288, .int .i64 t289, .int .i64 t290, .int .i64 t291, .int .i64 t292, .int .i64 t293, .int .i64 t294, .int .i64 t295, .int .i64 t296, .int .i64 t297, .int .i64 t298, .int .i64 t299, .int .i64 t300]) (j := 0) hcl12 hcc12 (show 16 ≤ 16 from by decide) (x' := (⟨t285, (⟨t286, (⟨(⟨t287, t288, t289, t290, t291⟩ : S29), (⟨t292, t293, t294, t295, t296⟩ : S29), t297, t298, t299⟩ : S31)⟩ : S33), t300⟩ : S75)) (k75_mkM _ _ _ (⟨t285, (⟨t286, (⟨(⟨t287, t288, t289, t290, t291⟩ : S29), (⟨t292, t293, t294, t295, t296⟩ : S29), t297, t298, t299⟩ : S31)⟩ : S33), t300⟩ : S75) ) (fun _ hk => hk); have hx12_0 := hcc12 0 _ rfl; (try simp only [show (k75).sz = 16 from rfl, Nat.mul_one, Nat.add_zero] at hx12_0); have hf12_0 := hfr12 0; (try simp only [show (k75).sz = 16 from rfl, Nat.mul_one, Nat.add_zero] at hf12_0); have hx12_1 := hcc12 1 _ rfl; (try simp only [show (k75).sz = 16 from rfl, Nat.mul_one, Nat.add_zero] at hx12_1); have hf12_1 := hfr12 1; (try simp only [show (k75).sz = 16 from rfl, Nat.mul_one, Nat.add_zero] at hf12_1); have hx12_2 := hcc12 2 _ rfl; (try simp only [show (k75).sz = 16 from rfl, Nat.mul_one, Nat.add_zero] at hx12_2); have hf12_2 := hfr12 2; (try simp only [show (k75).sz = 16 from rfl, Nat.mul_one, Nat.add_zero] at hf12_2); have hx12_3 := hcc12 3 _ rfl; (try simp only [show (k75).sz = 16 from rfl, Nat.mul_one, Nat.add_zero] at hx12_3); have hf12_3 := hfr12 3; (try simp only [show (k75).sz = 16 from rfl, Nat.mul_one, Nat.add_zero] at hf12_3); have hx12_4 := hcc12 4 _ rfl; (try simp only [show (k75).sz = 16 from rfl, Nat.mul_one, Nat.add_zero] at hx12_4); have hf12_4 := hfr12 4; (try simp only [show (k75).sz = 16 from rfl, Nat.mul_one, Nat.add_zero] at hf12_4); have hx12_5 := hcc12 5 _ rfl; (try simp only [show (k75).sz = 16 from rfl, Nat.mul_one, Nat.add_zero] at hx12_5); have hf12_5 := hfr12 5; (try simp only [show (k75).sz = 16 from rfl, Nat.mul_one, Nat.add_zero] at hf12_5); have hx12_6 := hcc12 6 _ rfl; (try simp only [show (k75).sz = 16 from rfl, Nat.mul_one, Nat.add_zero] at hx12_6); have hf12_6 := hfr12 6; (try simp only [show (k75).sz = 16 from rfl, Nat.mul_one, Nat.add_zero] at hf12_6); have hx12_7 := hcc12 7 _ rfl; (try simp only [show (k75).sz = 16 from rfl, Nat.mul_one, Nat.add_zero] at hx12_7); have hf12_7 := hfr12 7; (try simp only [show (k75).sz = 16 from rfl, Nat.mul_one, Nat.add_zero] at hf12_7); have hx12_8 := hcc12 8 _ rfl; (try simp only [show (k75).sz = 16 from rfl, Nat.mul_one, Nat.add_zero] at hx12_8); have hf12_8 := hfr12 8; (try simp only [show (k75).sz = 16 from rfl, Nat.mul_one, Nat.add_zero] at hf12_8); have hx12_9 := hcc12 9 _ rfl; (try simp only [show (k75).sz = 16 from rfl, Nat.mul_one, Nat.add_zero] at hx12_9); have hf12_9 := hfr12 9; (try simp only [show (k75).sz = 16 from rfl, Nat.mul_one, Nat.add_zero] at hf12_9); have hx12_10 := hcc12 10 _ rfl; (try simp only [show (k75).sz = 16 from rfl, Nat.mul_one, Nat.add_zero] at hx12_10); have hf12_10 := hfr12 10; (try simp only [show (k75).sz = 16 from rfl, Nat.mul_one, Nat.add_zero] at hf12_10); have hx12_11 := hcc12 11 _ rfl; (try simp only [show (k75).sz = 16 from rfl, Nat.mul_one, Nat.add_zero] at hx12_11); have hf12_11 := hfr12 11; (try simp only [show (k75).sz = 16 from rfl, Nat.mul_one, Nat.add_zero] at hf12_11); have hx12_12 := hcc12 12 _ rfl; (try simp only [show (k75).sz = 16 from rfl, Nat.mul_one, Nat.add_zero] at hx12_12); have hf12_12 := hfr12 12; (try simp only [show (k75).sz = 16 from rfl, Nat.mul_one, Nat.add_zero] at hf12_12); have hx12_13 := hcc12 13 _ rfl; (try simp only [show (k75).sz = 16 from rfl, Nat.mul_one, Nat.add_zero] at hx12_13); have hf12_13 := hfr12 13; (try simp only [show (k75).sz = 16 from rfl, Nat.mul_one, Nat.add_zero] at hf12_13); have hx12_14 := hcc12 14 _ rfl; (try simp only [show (k75).sz = 16 from rfl, Nat.mul_one, Nat.add_zero] at hx12_14); have hf12_14 := hfr12 14; (try simp only [show (k75).sz = 16 from rfl, Nat.mul_one, Nat.add_zero] at hf12_14); have hx12_15 := hcc12 15 _ rfl; (try simp only [show (k75).sz = 16 from rfl, Nat.mul_one, Nat.add_zero] at hx12_15); have hf12_15 := hfr12 15; (try simp only [show (k75).sz = 16 from rfl, Nat.mul_one, Nat.add_zero] at hf12_15); clear hcl12 hcc12 hfr12 hM12) | ((with_reducible refine gate_store (t := 75) (p := 21) rfl ?_); refine store_event (t := 75) (p := 21) (v := ?vo_w13) (w1 := ((((((((((((((((w11.setCell ⟨go10, (x4_1 : Int).toNat * 16, none⟩ (.bool t285)).setCell ⟨go10, (x4_1 : Int).toNat * 16 + 1, none⟩ (.int .i64 t286)).setCell ⟨go10, (x4_1 : Int).toNat * 16 + 2, none⟩ (.int .i64 t287)).setCell ⟨go10, (x4_1 : Int).toNat * 16 + 3, none⟩ (.int .i64 t288)).setCell ⟨go10, (x4_1 : Int).toNat * 16 + 4, none⟩ (.int .i64 t289)).setCell ⟨go10, (x4_1 : Int).toNat * 16 + 5, none⟩ (.int .i64 t290)).setCell ⟨go10, (x4_1 : Int).toNat * 16 + 6, none⟩ (.int .i64 t291)).setCell ⟨go10, (x4_1 : Int).toNat * 16 + 7, none⟩ (.int .i64 t292)).setCell ⟨go10, (x4_1 : Int).toNat * 16 + 8, none⟩ (.int .i64 t293)).setCell ⟨go10, (x4_1 : Int).toNat * 16 + 9, none⟩ (.int .i64 t294)).setCell ⟨go10, (x4_1 : Int).toNat * 16 + 10, none⟩ (.int .i64 t295)).setCell ⟨go10, (x4_1 : Int).toNat * 16 + 11, none⟩ (.int .i64 t296)).setCell ⟨go10, (x4_1 : Int).toNat * 16 + 12, none⟩ (.int .i64 t297)).setCell ⟨go10, (x4_1 : Int).toNat * 16 + 13, none⟩ (.int .i64 t298)).setCell ⟨go10, (x4_1 : Int).toNat * 16 + 14, none⟩ (.int .i64 t299)).setCell ⟨go10, (x4_1 : Int).toNat * 16 + 15, none⟩ (.int .i64 t300))) ?hg ?ho ?hn ?hr ?_; (case ho => rfl); (case hg => rfl); (case hn => rfl); (case hr => first | (go_simp; done) | (go_simp; rfl)); intro w13 hw; have hg : w11.grownBy w13 (some go10) := (by rw [hw]; exact HP12.2); have hp_ : Kd.R k75 75 w13 w.heap.size (fun _ => True) (.slice (some ⟨go10, 0, none⟩) x3_1.length co10) y301 := (by rw [hw, Ny301.out]; exact HP12.1); clear HP12; have n0_ := Gv.a0 (hp_); have n1_ := Gv.a0 ((by rw [hw]; exact below_set (below_set (below_set (below_set (below_set (below_set (below_set (below_set (below_set (below_set (below_set (below_set (below_set (below_set (below_set (below_set (HB.out) GB10.out) GB10.out) GB10.out) GB10.out) GB10.out) GB10.out) GB10.out) GB10.out) GB10.out) GB10.out) GB10.out) GB10.out) GB10.out) GB10.out) GB10.out) GB10.out : Below w.heap.size w w13)); clear HO_3; clear HB; have HO_3 := n0_; have HB := n1_; clear n0_ n1_; clear hg hw hp_))
        go_roundg k1
        case measure => have := HK1.out; omega
        case rel => exact ⟨(y301), (wrap64 (x4_1 + 1)), (by first | rfl | (simp; done) | (simp [Int.tdiv_eq_ediv_of_nonneg]; done) | (simp [*]; done)), H', ⟨by have := HK1.out; omega⟩, ⟨by (with_reducible repeat (first | apply Kd.R_alloc | apply Kd.R_drewN | apply Kd.R_drew)); exact HO_3.out⟩, ⟨by repeat (first | (with_reducible first | exact HB.out | apply below_alloc | apply pw_below_drewN | apply below_drew1) | exact HB.out)⟩⟩
       ·rw [if_neg c9] at H
        exact absurd H (by simp)
      ·rw [if_neg c7] at H
       exact absurd H (by simp)
     ·rw [if_neg c6] at H
      have c6b0 : decide (x4_1 < (l0.length : Int)) = false := decide_eq_false c6
      clear c6
      obtain rfl := Option.some.inj H
      go_wp2
      go_ret
      exact ⟨_, by first | rfl | (simp [errW_none, errW_some] <;> rfl) | (simp [*, errW_none, errW_some] <;> rfl), by (with_reducible repeat (first | apply Kd.R_alloc | apply Kd.R_drewN | apply Kd.R_drew)); exact HO_3.out, by repeat (first | (with_reducible first | exact HB.out | apply below_alloc | apply pw_below_drewN | apply below_drew1) | exact HB.out)⟩
  ·rw [if_neg c3] at H
   exact absurd H (by simp)
 ·rw [if_neg c2] at H
  exact absurd H (by simp)

/-! ### laws_toTable: function 25 -/
def laws_toTable.f (k : Nat) (a0_0 : Int) (l0_1 : List (S94)) : Option (Int × (List (S75))) := (laws_toCellS.f k l0_1).bind fun t305 => (some (a0_0, t305))
theorem laws_toTable.mono : ∀ a0 a1 k, LeO (laws_toTable.f k a0 a1) (laws_toTable.f (k + 1) a0 a1) := by
 intro a0 a1 k
 unfold laws_toTable.f
 repeat' first
   | (with_reducible exact laws_toCellS.mono _ _)
   | (with_reducible exact LeO.refl _)
   | (with_reducible exact LeO.none _)
   | (with_reducible refine LeO.ite ?_ ?_)
   | (with_reducible refine LeO.bind ?_ (fun _ => ?_))
   | exact laws_toCellS.mono _ _
   | exact LeO.none _
   | refine LeO.ite ?_ ?_
   | refine LeO.bind ?_ (fun _ => ?_)
set_option maxHeartbeats 8000000 in
set_option maxRecDepth 100000 in
theorem laws_toTable.calls (k : Nat) (a0_0 : Int) (A0_1 : Option Addr) (c0_1 : Nat) (l0_1 : List (S94)) (r1 : Int) (r2 : List (S75)) (w : World) (hr0_1 : Kd.C k94 w A0_1 l0_1.length l0_1) (hc0_1 : l0_1.length ≤ c0_1) (h : laws_toTable.f k a0_0 l0_1 = some (r1, r2)) :
  Calls Try.prog 25 #[.agg #[.int .i64 a0_0, .slice A0_1 l0_1.length c0_1]] w fun e w' => ∃ v1_ : Value, e = .returned (.agg #[.int .i64 r1, v1_]) ∧ Kd.R k75 75 w' w.heap.size (fun _ => True) v1_ r2 ∧ Below w.heap.size w w' := by
 have hu47 := Try.underlying47
 have hu40 := Try.underlying40
 have HR0_1 := Gv.a0 hr0_1
 have HC0_1 := Gv.a0 hc0_1
 clear hr0_1 hc0_1
 have HB := Gv.a0 (Below.refl w.heap.size w)
 have H : ((laws_toCellS.f k l0_1).bind fun t305 => (some (a0_0, t305))) = some (r1, r2) := h
 clear h
 replace H := Option.bind_eq_some_iff.mp H
 obtain ⟨t305, A20, H⟩ := H
 replace H : (some (a0_0, t305)) = some (r1, r2) := H
 have A2 := Gv.a0 A20
 clear A20
 simp only [Option.some.injEq, Prod.mk.injEq] at H
 obtain ⟨rfl, rfl⟩ := H
 go_enter Try.func25, Try.ntmps25
 go_wp2_with (first | ((with_reducible refine gate_dst (N := 1) rfl ?_); refine box_event ?hg (N := 1) ?hd (cs := #[.int .i64 a0_0, .slice A0_1 l0_1.length c0_1]) (t := 47) ?hr ?_; (case hd => rfl); (case hg => rfl); (case hr => first | (go_simp; done) | (go_simp; rfl)); intro gb302 hg w3 hbox hb; have n0_ := Gv.a0 (below_step Gv.bw hb); have n1_ := Gv.a0 (hbox); have n2_ := Gv.a0 ((Gv.ble hg Gv.bw : w.heap.size ≤ gb302)); have n3_ := Gv.a0 ((Gv.ble hg Gv.bw : w.heap.size ≤ gb302)); clear HB; have HB := n0_; have BK302 := n1_; have GW302 := n2_; have GE302 := n3_; clear n0_ n1_ n2_ n3_; clear hb hbox hg) | ((with_reducible refine gate_dst (N := 2) rfl ?_); refine box_event ?hg (N := 2) ?hd (cs := #[.int .i64 0, .slice none 0 0]) (t := 40) ?hr ?_; (case hd => rfl); (case hg => rfl); (case hr => first | (go_simp; done) | (go_simp; rfl)); intro gb303 hg w4 hbox hb; have n0_ := Gv.a0 (Gv.bb BK302.out hb); have n1_ := Gv.a0 (below_step Gv.bw hb); have n2_ := Gv.a0 (hbox); have n3_ := Gv.a0 ((Gv.ble hg Gv.bw : w.heap.size ≤ gb303)); have n4_ := Gv.a0 ((Gv.ble hg Gv.bw : w.heap.size ≤ gb303)); have n5_ := Gv.a0 ((Gv.nlt hg (Gv.kb BK302.out) : gb302 ≠ gb303)); have n6_ := Gv.a0 ((Gv.ngt hg (Gv.kb BK302.out) : gb303 ≠ gb302)); clear BK302; clear HB; have BK302 := n0_; have HB := n1_; have BK303 := n2_; have GW303 := n3_; have GE303 := n4_; have NB302_303 := n5_; have NB303_302 := n6_; clear n0_ n1_ n2_ n3_ n4_ n5_ n6_; clear hb hbox hg) | ((with_reducible refine gate_dst (N := 3) rfl ?_); refine box_event ?hg (N := 3) ?hd (cs := #[.int .i64 0, .slice none 0 0]) (t := 40) ?hr ?_; (case hd => rfl); (case hg => rfl); (case hr => first | (go_simp; done) | (go_simp; rfl)); intro gb304 hg w5 hbox hb; have n0_ := Gv.a0 (Gv.bb BK302.out hb); have n1_ := Gv.a0 (Gv.bb BK303.out hb); have n2_ := Gv.a0 (below_step Gv.bw hb); have n3_ := Gv.a0 (hbox); have n4_ := Gv.a0 ((Gv.ble hg Gv.bw : w.heap.size ≤ gb304)); have n5_ := Gv.a0 ((Gv.ble hg Gv.bw : w.heap.size ≤ gb304)); have n6_ := Gv.a0 ((Gv.nlt hg (Gv.kb BK302.out) : gb302 ≠ gb304)); have n7_ := Gv.a0 ((Gv.ngt hg (Gv.kb BK302.out) : gb304 ≠ gb302)); have n8_ := Gv.a0 ((Gv.nlt hg (Gv.kb BK303.out) : gb303 ≠ gb304)); have n9_ := Gv.a0 ((Gv.ngt hg (Gv.kb BK303.out) : gb304 ≠ gb303)); clear BK302; clear BK303; clear HB; have BK302 := n0_; have BK303 := n1_; have HB := n2_; have BK304 := n3_; have GW304 := n4_; have GE304 := n5_; have NB302_304 := n6_; have NB304_302 := n7_; have NB303_304 := n8_; have NB304_303 := n9_; clear n0_ n1_ n2_ n3_ n4_ n5_ n6_ n7_ n8_ n9_; clear hb hbox hg; have hnb6 := NB302_303.out; have hnc6 := NB303_302.out; have hnb7 := NB302_304.out; have hnc7 := NB304_302.out; have hcz8_0 : w5.cell? ⟨gb302, 0, none⟩ = some (.int .i64 a0_0) := (blk_cell BK302.out 0).trans rfl; have hcz8_1 : w5.cell? ⟨gb302, 1, none⟩ = some (.slice A0_1 l0_1.length c0_1) := (blk_cell BK302.out 1).trans rfl; have hfz8_0 := blk_frozen BK302.out 0; have hfz8_1 := blk_frozen BK302.out 1; have hnb9 := NB304_303.out; have hnc9 := NB303_304.out; have hcz10_0 : w5.cell? ⟨gb304, 0, none⟩ = some (.int .i64 0) := (blk_cell BK304.out 0).trans rfl; have hcz10_1 : w5.cell? ⟨gb304, 1, none⟩ = some (.slice none 0 0) := (blk_cell BK304.out 1).trans rfl; have hfz10_0 := blk_frozen BK304.out 0; have hfz10_1 := blk_frozen BK304.out 1) | ((with_reducible refine gate_callee (f := 56) rfl ?_); refine goesL_ (some 9) rfl rfl Try.func56 (by kernel_rfl) rfl #[.slice A0_1 l0_1.length c0_1] rfl Gv.lm ?_; (with_reducible refine (laws_toCellS.calls k _ _ l0_1 t305 _ ?side1 ?side2 A2.out).mono ?_); (case side1 => exact Kd.C_below HR0_1.out Gv.bw); (case side2 => exact HC0_1.out); rintro e w11 ⟨v306, rfl, ho0, hb⟩; refine ⟨_, rfl, ?_⟩; have n0_ := Gv.a0 (Kd.R_lower ho0 (below_size Gv.bw)); have n1_ := Gv.a0 (blk_below (g := gb302) (o := .cells #[.int .i64 a0_0, .slice A0_1 l0_1.length c0_1] 47 (0, 0)) Gv.bkf hb); have n2_ := Gv.a0 (blk_below (g := gb303) (o := .cells #[.int .i64 0, .slice none 0 0] 40 (0, 0)) Gv.bkf hb); have n3_ := Gv.a0 (blk_below (g := gb304) (o := .cells #[.int .i64 a0_0, .slice none 0 0] 40 (0, 0)) (by (with_reducible repeat (first | refine blk_drewN ?_ _ | refine blk_drew ?_ | refine blk_alloc ?_ _)); refine blk_put (cs := #[.int .i64 0, .slice none 0 0]) ?_ 0 _ rfl; (with_reducible repeat (first | refine blk_drewN ?_ _ | refine blk_drew ?_ | refine blk_alloc ?_ _)); exact BK304.out) hb); have n4_ := Gv.a0 (below_step Gv.bw hb); clear BK302; clear BK303; clear BK304; clear HB; have HO307 := n0_; have BK302 := n1_; have BK303 := n2_; have BK304 := n3_; have HB := n4_; clear n0_ n1_ n2_ n3_ n4_; (try clear hb); (try clear hb2); (try clear hk); (try clear hi); (try clear ho0); obtain ⟨Ao12, co12, eo12⟩ := Kd.R_slice HO307.out; subst eo12; have hcz13_0 : w11.cell? ⟨gb304, 0, none⟩ = some (.int .i64 a0_0) := (blk_cell BK304.out 0).trans rfl; have hcz13_1 : w11.cell? ⟨gb304, 1, none⟩ = some (.slice none 0 0) := (blk_cell BK304.out 1).trans rfl; have hfz13_0 := blk_frozen BK304.out 0; have hfz13_1 := blk_frozen BK304.out 1; have hcz14_0 : w11.cell? ⟨gb303, 0, none⟩ = some (.int .i64 0) := (blk_cell BK303.out 0).trans rfl; have hcz14_1 : w11.cell? ⟨gb303, 1, none⟩ = some (.slice none 0 0) := (blk_cell BK303.out 1).trans rfl; have hfz14_0 := blk_frozen BK303.out 0; have hfz14_1 := blk_frozen BK303.out 1))
 refine bodyPost_ret (results_cell_row rfl _ _ gb303 40 #[.int .i64 a0_0, .slice Ao12 t305.length co12] (0, 0) _ rfl (by (with_reducible repeat (first | refine blk_drewN ?_ _ | refine blk_drew ?_ | refine blk_alloc ?_ _)); refine blk_put (cs := #[.int .i64 a0_0, .slice none 0 0]) ?_ 1 _ rfl; (with_reducible repeat (first | refine blk_drewN ?_ _ | refine blk_drew ?_ | refine blk_alloc ?_ _)); refine blk_put (cs := #[.int .i64 0, .slice none 0 0]) ?_ 0 _ rfl; (with_reducible repeat (first | refine blk_drewN ?_ _ | refine blk_drew ?_ | refine blk_alloc ?_ _)); refine blk_far ?_ NB303_304.out _; (with_reducible repeat (first | refine blk_drewN ?_ _ | refine blk_drew ?_ | refine blk_alloc ?_ _)); exact BK303.out) Try.underlying40 rfl (by kernel_rfl)) rfl ?_
 exact ⟨_, by first | rfl | (simp [errW_none, errW_some] <;> rfl) | (simp [*, errW_none, errW_some] <;> rfl), by (with_reducible repeat (first | apply Kd.R_alloc | apply Kd.R_drewN | apply Kd.R_drew)); exact Kd.R_mono (Kd.R_far (p := ⟨gb303, 1, none⟩) (Kd.R_far (p := ⟨gb303, 0, none⟩) (Kd.R_far (p := ⟨gb304, 1, none⟩) (Kd.R_types (Kd.R_types HO307.out BK304.out (by decide)) BK303.out (by decide)) (fun _ hk => hk.1.2) (.slice Ao12 t305.length co12)) (fun _ hk => hk.2) (.int .i64 a0_0)) (fun _ hk => hk.2) (.slice Ao12 t305.length co12)) (fun _ hk => trivial), by repeat (first | (with_reducible first | exact HB.out | apply below_alloc | apply pw_below_drewN | apply below_drew1 | refine below_set ?_ GE302.out | refine below_set ?_ GE303.out | refine below_set ?_ GE304.out) | exact HB.out)⟩

/-! ### impl_within: function 44 -/
def impl_within.f (a0 : Int) (a1 : Int) (a2 : Int) : Option (Bool) := if a0 ≥ a1 then (some (decide (a0 ≤ a2))) else (some false)
set_option maxHeartbeats 8000000 in
set_option maxRecDepth 100000 in
theorem impl_within.calls (a0 : Int) (a1 : Int) (a2 : Int) (r : Bool) (w : World) (h : impl_within.f a0 a1 a2 = some r) :
  Calls Try.prog 44 #[.int .i64 a0, .int .i64 a1, .int .i64 a2] w fun e w' => e = .returned (.bool r) ∧ Drawn0 w w' := by
 have H : (if a0 ≥ a1 then (some (decide (a0 ≤ a2))) else (some false)) = some r := h
 clear h
 by_cases c4 : a0 ≥ a1
 ·rw [if_pos c4] at H
  have c4b0 : decide (a1 ≤ a0) = true := decide_eq_true c4
  clear c4
  obtain rfl := Option.some.inj H
  go_enter Try.func44, Try.ntmps44
  go_wp2
  go_ret
  exact ⟨by first | rfl | (simp; done) | (simp [Int.tdiv_eq_ediv_of_nonneg]; done) | (simp [*]; done), by repeat (first | exact Drawn0.refl _ | apply Drawn0.step)⟩
 ·rw [if_neg c4] at H
  have c4b0 : decide (a1 ≤ a0) = false := decide_eq_false c4
  clear c4
  obtain rfl := Option.some.inj H
  go_enter Try.func44, Try.ntmps44
  go_wp2
  go_ret
  exact ⟨by first | rfl | (simp; done) | (simp [Int.tdiv_eq_ediv_of_nonneg]; done) | (simp [*]; done), by repeat (first | exact Drawn0.refl _ | apply Drawn0.step)⟩

/-! ### impl_isLong: function 90 -/
def impl_isLong.f (a0 : Int) : Option (Bool) := (impl_within.f a0 0 4294967295).bind fun t308 => (some t308)
set_option maxHeartbeats 8000000 in
set_option maxRecDepth 100000 in
theorem impl_isLong.calls (a0 : Int) (r : Bool) (w : World) (h : impl_isLong.f a0 = some r) :
  Calls Try.prog 90 #[.int .i64 a0] w fun e w' => e = .returned (.bool r) ∧ Drawn0 w w' := by
 have H : ((impl_within.f a0 0 4294967295).bind fun t308 => (some t308)) = some r := h
 clear h
 replace H := Option.bind_eq_some_iff.mp H
 obtain ⟨t308, A20, H⟩ := H
 replace H : (some t308) = some r := H
 have A2 := Gv.a0 A20
 clear A20
 obtain rfl := Option.some.inj H
 go_enter Try.func90, Try.ntmps90
 go_wp2_with (first | ((with_reducible refine gate_callee (f := 44) rfl ?_); refine goesL_ (some 4) rfl rfl Try.func44 (by kernel_rfl) rfl #[.int .i64 a0, .int .i64 0, .int .i64 4294967295] rfl Gv.lm ?_; (with_reducible refine (impl_within.calls a0 0 4294967295 t308 _ A2.out).mono ?_); rintro e w' ⟨rfl, ⟨nd, rfl⟩⟩; refine ⟨_, rfl, ?_⟩))
 go_ret
 exact ⟨by first | rfl | (simp; done) | (simp [Int.tdiv_eq_ediv_of_nonneg]; done) | (simp [*]; done), by repeat (first | exact Drawn0.refl _ | apply Drawn0.step)⟩

/-! ### impl_AddrOk: function 81 -/
def impl_AddrOk.f (a0_0 : Int) (a0_1 : Int) (a0_2 : Int) (a0_3 : Int) (a0_4 : Int) : Option (Bool) := if a0_0 = 4 then (if a0_1 = 0 then (if a0_2 = 0 then (if a0_3 = 0 then ((impl_isLong.f a0_4).bind fun t310 => (some t310)) else (some false)) else (some false)) else (some false)) else (if a0_0 = 6 then ((impl_isLong.f a0_1).bind fun t311 => (if t311 = true then ((impl_isLong.f a0_2).bind fun t312 => (if t312 = true then ((impl_isLong.f a0_3).bind fun t313 => (if t313 = true then ((impl_isLong.f a0_4).bind fun t314 => (some t314)) else (some false))) else (some false))) else (some false))) else (some false))
set_option maxHeartbeats 8000000 in
set_option maxRecDepth 100000 in
theorem impl_AddrOk.calls (a0_0 : Int) (a0_1 : Int) (a0_2 : Int) (a0_3 : Int) (a0_4 : Int) (r : Bool) (w : World) (h : impl_AddrOk.f a0_0 a0_1 a0_2 a0_3 a0_4 = some r) :
  Calls Try.prog 81 #[.agg #[.int .i64 a0_0, .int .i64 a0_1, .int .i64 a0_2, .int .i64 a0_3, .int .i64 a0_4]] w fun e w' => e = .returned (.bool r) ∧ Below w.heap.size w w' := by
 have hu29 := Try.underlying29
 have HB := Gv.a0 (Below.refl w.heap.size w)
 have H : (if a0_0 = 4 then (if a0_1 = 0 then (if a0_2 = 0 then (if a0_3 = 0 then ((impl_isLong.f a0_4).bind fun t310 => (some t310)) else (some false)) else (some false)) else (some false)) else (if a0_0 = 6 then ((impl_isLong.f a0_1).bind fun t311 => (if t311 = true then ((impl_isLong.f a0_2).bind fun t312 => (if t312 = true then ((impl_isLong.f a0_3).bind fun t313 => (if t313 = true then ((impl_isLong.f a0_4).bind fun t314 => (some t314)) else (some false))) else (some false))) else (some false))) else (some false))) = some r := h
 clear h
 by_cases c2 : a0_0 = 4
 ·rw [if_pos c2] at H
  have c2b0 : (a0_0 == 4) = true := beq_iff_eq.mpr c2
  have c2b1 : (a0_0 != 4) = false := bne_eq_false_iff_eq.mpr c2
  clear c2
  by_cases c3 : a0_1 = 0
  ·rw [if_pos c3] at H
   have c3b0 : (a0_1 == 0) = true := beq_iff_eq.mpr c3
   have c3b1 : (a0_1 != 0) = false := bne_eq_false_iff_eq.mpr c3
   clear c3
   by_cases c4 : a0_2 = 0
   ·rw [if_pos c4] at H
    have c4b0 : (a0_2 == 0) = true := beq_iff_eq.mpr c4
    have c4b1 : (a0_2 != 0) = false := bne_eq_false_iff_eq.mpr c4
    clear c4
    by_cases c5 : a0_3 = 0
    ·rw [if_pos c5] at H
     have c5b0 : (a0_3 == 0) = true := beq_iff_eq.mpr c5
     have c5b1 : (a0_3 != 0) = false := bne_eq_false_iff_eq.mpr c5
     clear c5
     replace H := Option.bind_eq_some_iff.mp H
     obtain ⟨t310, A60, H⟩ := H
     replace H : (some t310) = some r := H
     have A6 := Gv.a0 A60
     clear A60
     obtain rfl := Option.some.inj H
     go_enter Try.func81, Try.ntmps81
     go_wp2_with (first | ((with_reducible refine gate_dst (N := 1) rfl ?_); refine box_event ?hg (N := 1) ?hd (cs := #[.int .i64 a0_0, .int .i64 a0_1, .int .i64 a0_2, .int .i64 a0_3, .int .i64 a0_4]) (t := 29) ?hr ?_; (case hd => rfl); (case hg => rfl); (case hr => first | (go_simp; done) | (go_simp; rfl)); intro gb309 hg w7 hbox hb; have n0_ := Gv.a0 (below_step Gv.bw hb); have n1_ := Gv.a0 (hbox); have n2_ := Gv.a0 ((Gv.ble hg Gv.bw : w.heap.size ≤ gb309)); have n3_ := Gv.a0 ((Gv.ble hg Gv.bw : w.heap.size ≤ gb309)); clear HB; have HB := n0_; have BK309 := n1_; have GW309 := n2_; have GE309 := n3_; clear n0_ n1_ n2_ n3_; clear hb hbox hg; obtain ⟨hcz8_0, hcz8_1, hcz8_2, hcz8_3, hcz8_4⟩ := Gv.c5 BK309.out; obtain ⟨hfz8_0, hfz8_1, hfz8_2, hfz8_3, hfz8_4⟩ := Gv.f5 BK309.out) | (go_at_call 90; (with_reducible refine (impl_isLong.calls a0_4 t310 _ A6.out).mono ?_); rintro e w' ⟨rfl, ⟨nd, rfl⟩⟩))
     go_ret
     exact ⟨by first | rfl | (simp [errW_none, errW_some] <;> rfl) | (simp [*, errW_none, errW_some] <;> rfl), by repeat (first | (with_reducible first | exact HB.out | apply below_alloc | apply pw_below_drewN | apply below_drew1 | refine below_set ?_ GE309.out) | exact HB.out)⟩
    ·rw [if_neg c5] at H
     have c5b0 : (a0_3 == 0) = false := beq_eq_false_iff_ne.mpr c5
     have c5b1 : (a0_3 != 0) = true := bne_iff_ne.mpr c5
     obtain rfl := Option.some.inj H
     go_enter Try.func81, Try.ntmps81
     go_wp2_with (first | ((with_reducible refine gate_dst (N := 1) rfl ?_); refine box_event ?hg (N := 1) ?hd (cs := #[.int .i64 a0_0, .int .i64 a0_1, .int .i64 a0_2, .int .i64 a0_3, .int .i64 a0_4]) (t := 29) ?hr ?_; (case hd => rfl); (case hg => rfl); (case hr => first | (go_simp; done) | (go_simp; rfl)); intro gb309 hg w9 hbox hb; have n0_ := Gv.a0 (below_step Gv.bw hb); have n1_ := Gv.a0 (hbox); have n2_ := Gv.a0 ((Gv.ble hg Gv.bw : w.heap.size ≤ gb309)); have n3_ := Gv.a0 ((Gv.ble hg Gv.bw : w.heap.size ≤ gb309)); clear HB; have HB := n0_; have BK309 := n1_; have GW309 := n2_; have GE309 := n3_; clear n0_ n1_ n2_ n3_; clear hb hbox hg; obtain ⟨hcz10_0, hcz10_1, hcz10_2, hcz10_3, hcz10_4⟩ := Gv.c5 BK309.out; obtain ⟨hfz10_0, hfz10_1, hfz10_2, hfz10_3, hfz10_4⟩ := Gv.f5 BK309.out))
     go_ret
     exact ⟨by first | rfl | (simp [errW_none, errW_some] <;> rfl) | (simp [*, errW_none, errW_some] <;> rfl), by repeat (first | (with_reducible first | exact HB.out | apply below_alloc | apply pw_below_drewN | apply below_drew1 | refine below_set ?_ GE309.out) | exact HB.out)⟩
   ·rw [if_neg c4] at H
    have c4b0 : (a0_2 == 0) = false := beq_eq_false_iff_ne.mpr c4
    have c4b1 : (a0_2 != 0) = true := bne_iff_ne.mpr c4
    obtain rfl := Option.some.inj H
    go_enter Try.func81, Try.ntmps81
    go_wp2_with (first | ((with_reducible refine gate_dst (N := 1) rfl ?_); refine box_event ?hg (N := 1) ?hd (cs := #[.int .i64 a0_0, .int .i64 a0_1, .int .i64 a0_2, .int .i64 a0_3, .int .i64 a0_4]) (t := 29) ?hr ?_; (case hd => rfl); (case hg => rfl); (case hr => first | (go_simp; done) | (go_simp; rfl)); intro gb309 hg w11 hbox hb; have n0_ := Gv.a0 (below_step Gv.bw hb); have n1_ := Gv.a0 (hbox); have n2_ := Gv.a0 ((Gv.ble hg Gv.bw : w.heap.size ≤ gb309)); have n3_ := Gv.a0 ((Gv.ble hg Gv.bw : w.heap.size ≤ gb309)); clear HB; have HB := n0_; have BK309 := n1_; have GW309 := n2_; have GE309 := n3_; clear n0_ n1_ n2_ n3_; clear hb hbox hg; obtain ⟨hcz12_0, hcz12_1, hcz12_2, hcz12_3, hcz12_4⟩ := Gv.c5 BK309.out; obtain ⟨hfz12_0, hfz12_1, hfz12_2, hfz12_3, hfz12_4⟩ := Gv.f5 BK309.out))
    go_ret
    exact ⟨by first | rfl | (simp [errW_none, errW_some] <;> rfl) | (simp [*, errW_none, errW_some] <;> rfl), by repeat (first | (with_reducible first | exact HB.out | apply below_alloc | apply pw_below_drewN | apply below_drew1 | refine below_set ?_ GE309.out) | exact HB.out)⟩
  ·rw [if_neg c3] at H
   have c3b0 : (a0_1 == 0) = false := beq_eq_false_iff_ne.mpr c3
   have c3b1 : (a0_1 != 0) = true := bne_iff_ne.mpr c3
   obtain rfl := Option.some.inj H
   go_enter Try.func81, Try.ntmps81
   go_wp2_with (first | ((with_reducible refine gate_dst (N := 1) rfl ?_); refine box_event ?hg (N := 1) ?hd (cs := #[.int .i64 a0_0, .int .i64 a0_1, .int .i64 a0_2, .int .i64 a0_3, .int .i64 a0_4]) (t := 29) ?hr ?_; (case hd => rfl); (case hg => rfl); (case hr => first | (go_simp; done) | (go_simp; rfl)); intro gb309 hg w13 hbox hb; have n0_ := Gv.a0 (below_step Gv.bw hb); have n1_ := Gv.a0 (hbox); have n2_ := Gv.a0 ((Gv.ble hg Gv.bw : w.heap.size ≤ gb309)); have n3_ := Gv.a0 ((Gv.ble hg Gv.bw : w.heap.size ≤ gb309)); clear HB; have HB := n0_; have BK309 := n1_; have GW309 := n2_; have GE309 := n3_; clear n0_ n1_ n2_ n3_; clear hb hbox hg; obtain ⟨hcz14_0, hcz14_1, hcz14_2, hcz14_3, hcz14_4⟩ := Gv.c5 BK309.out; obtain ⟨hfz14_0, hfz14_1, hfz14_2, hfz14_3, hfz14_4⟩ := Gv.f5 BK309.out))
   go_ret
   exact ⟨by first | rfl | (simp [errW_none, errW_some] <;> rfl) | (simp [*, errW_none, errW_some] <;> rfl), by repeat (first | (with_reducible first | exact HB.out | apply below_alloc | apply pw_below_drewN | apply below_drew1 | refine below_set ?_ GE309.out) | exact HB.out)⟩
 ·rw [if_neg c2] at H
  have c2b0 : (a0_0 == 4) = false := beq_eq_false_iff_ne.mpr c2
  have c2b1 : (a0_0 != 4) = true := bne_iff_ne.mpr c2
  by_cases c15 : a0_0 = 6
  ·rw [if_pos c15] at H
   have c15b0 : (a0_0 == 6) = true := beq_iff_eq.mpr c15
   have c15b1 : (a0_0 != 6) = false := bne_eq_false_iff_eq.mpr c15
   clear c15
   replace H := Option.bind_eq_some_iff.mp H
   obtain ⟨t311, A160, H⟩ := H
   replace H : (if t311 = true then ((impl_isLong.f a0_2).bind fun t312 => (if t312 = true then ((impl_isLong.f a0_3).bind fun t313 => (if t313 = true then ((impl_isLong.f a0_4).bind fun t314 => (some t314)) else (some false))) else (some false))) else (some false)) = some r := H
   have A16 := Gv.a0 A160
   clear A160
   by_cases c17 : t311 = true
   ·subst c17
    have H1 : ((impl_isLong.f a0_2).bind fun t312 => (if t312 = true then ((impl_isLong.f a0_3).bind fun t313 => (if t313 = true then ((impl_isLong.f a0_4).bind fun t314 => (some t314)) else (some false))) else (some false))) = some r := by rw [if_pos rfl] at H; exact H
    clear H
    have H := H1
    clear H1
    replace H := Option.bind_eq_some_iff.mp H
    obtain ⟨t312, A180, H⟩ := H
    replace H : (if t312 = true then ((impl_isLong.f a0_3).bind fun t313 => (if t313 = true then ((impl_isLong.f a0_4).bind fun t314 => (some t314)) else (some false))) else (some false)) = some r := H
    have A18 := Gv.a0 A180
    clear A180
    by_cases c19 : t312 = true
    ·subst c19
     have H1 : ((impl_isLong.f a0_3).bind fun t313 => (if t313 = true then ((impl_isLong.f a0_4).bind fun t314 => (some t314)) else (some false))) = some r := by rw [if_pos rfl] at H; exact H
     clear H
     have H := H1
     clear H1
     replace H := Option.bind_eq_some_iff.mp H
     obtain ⟨t313, A200, H⟩ := H
     replace H : (if t313 = true then ((impl_isLong.f a0_4).bind fun t314 => (some t314)) else (some false)) = some r := H
     have A20 := Gv.a0 A200
     clear A200
     by_cases c21 : t313 = true
     ·subst c21
      have H1 : ((impl_isLong.f a0_4).bind fun t314 => (some t314)) = some r := by rw [if_pos rfl] at H; exact H
      clear H
      have H := H1
      clear H1
      replace H := Option.bind_eq_some_iff.mp H
      obtain ⟨t314, A220, H⟩ := H
      replace H : (some t314) = some r := H
      have A22 := Gv.a0 A220
      clear A220
      obtain rfl := Option.some.inj H
      go_enter Try.func81, Try.ntmps81
      go_wp2_with (first | ((with_reducible refine gate_dst (N := 1) rfl ?_); refine box_event ?hg (N := 1) ?hd (cs := #[.int .i64 a0_0, .int .i64 a0_1, .int .i64 a0_2, .int .i64 a0_3, .int .i64 a0_4]) (t := 29) ?hr ?_; (case hd => rfl); (case hg => rfl); (case hr => first | (go_simp; done) | (go_simp; rfl)); intro gb309 hg w23 hbox hb; have n0_ := Gv.a0 (below_step Gv.bw hb); have n1_ := Gv.a0 (hbox); have n2_ := Gv.a0 ((Gv.ble hg Gv.bw : w.heap.size ≤ gb309)); have n3_ := Gv.a0 ((Gv.ble hg Gv.bw : w.heap.size ≤ gb309)); clear HB; have HB := n0_; have BK309 := n1_; have GW309 := n2_; have GE309 := n3_; clear n0_ n1_ n2_ n3_; clear hb hbox hg; obtain ⟨hcz24_0, hcz24_1, hcz24_2, hcz24_3, hcz24_4⟩ := Gv.c5 BK309.out; obtain ⟨hfz24_0, hfz24_1, hfz24_2, hfz24_3, hfz24_4⟩ := Gv.f5 BK309.out) | ((with_reducible refine gate_callee (f := 90) rfl ?_); refine goesL_ (some 29) rfl rfl Try.func90 (by kernel_rfl) rfl #[.int .i64 a0_1] rfl Gv.lm ?_; (with_reducible refine (impl_isLong.calls a0_1 true _ A16.out).mono ?_); rintro e w' ⟨rfl, ⟨nd, rfl⟩⟩; refine ⟨_, rfl, ?_⟩) | (go_at_call 90; (with_reducible refine (impl_isLong.calls a0_2 true _ A18.out).mono ?_); rintro e w' ⟨rfl, ⟨nd, rfl⟩⟩) | (go_at_call 90; (with_reducible refine (impl_isLong.calls a0_3 true _ A20.out).mono ?_); rintro e w' ⟨rfl, ⟨nd, rfl⟩⟩) | (go_at_call 90; (with_reducible refine (impl_isLong.calls a0_4 t314 _ A22.out).mono ?_); rintro e w' ⟨rfl, ⟨nd, rfl⟩⟩))
      go_ret
      exact ⟨by first | rfl | (simp [errW_none, errW_some] <;> rfl) | (simp [*, errW_none, errW_some] <;> rfl), by repeat (first | (with_reducible first | exact HB.out | apply below_alloc | apply pw_below_drewN | apply below_drew1 | refine below_set ?_ GE309.out) | exact HB.out)⟩
     ·replace c21 := Bool.eq_false_iff.mpr c21
      subst c21
      have H1 : (some false) = some r := by rw [if_neg (show ¬ (false = true) by decide)] at H; exact H
      clear H
      have H := H1
      clear H1
      obtain rfl := Option.some.inj H
      go_enter Try.func81, Try.ntmps81
      go_wp2_with (first | ((with_reducible refine gate_dst (N := 1) rfl ?_); refine box_event ?hg (N := 1) ?hd (cs := #[.int .i64 a0_0, .int .i64 a0_1, .int .i64 a0_2, .int .i64 a0_3, .int .i64 a0_4]) (t := 29) ?hr ?_; (case hd => rfl); (case hg => rfl); (case hr => first | (go_simp; done) | (go_simp; rfl)); intro gb309 hg w25 hbox hb; have n0_ := Gv.a0 (below_step Gv.bw hb); have n1_ := Gv.a0 (hbox); have n2_ := Gv.a0 ((Gv.ble hg Gv.bw : w.heap.size ≤ gb309)); have n3_ := Gv.a0 ((Gv.ble hg Gv.bw : w.heap.size ≤ gb309)); clear HB; have HB := n0_; have BK309 := n1_; have GW309 := n2_; have GE309 := n3_; clear n0_ n1_ n2_ n3_; clear hb hbox hg; obtain ⟨hcz26_0, hcz26_1, hcz26_2, hcz26_3, hcz26_4⟩ := Gv.c5 BK309.out; obtain ⟨hfz26_0, hfz26_1, hfz26_2, hfz26_3, hfz26_4⟩ := Gv.f5 BK309.out) | ((with_reducible refine gate_callee (f := 90) rfl ?_); refine goesL_ (some 29) rfl rfl Try.func90 (by kernel_rfl) rfl #[.int .i64 a0_1] rfl Gv.lm ?_; (with_reducible refine (impl_isLong.calls a0_1 true _ A16.out).mono ?_); rintro e w' ⟨rfl, ⟨nd, rfl⟩⟩; refine ⟨_, rfl, ?_⟩) | (go_at_call 90; (with_reducible refine (impl_isLong.calls a0_2 true _ A18.out).mono ?_); rintro e w' ⟨rfl, ⟨nd, rfl⟩⟩) | (go_at_call 90; (with_reducible refine (impl_isLong.calls a0_3 false _ A20.out).mono ?_); rintro e w' ⟨rfl, ⟨nd, rfl⟩⟩))
      go_ret
      exact ⟨by first | rfl | (simp [errW_none, errW_some] <;> rfl) | (simp [*, errW_none, errW_some] <;> rfl), by repeat (first | (with_reducible first | exact HB.out | apply below_alloc | apply pw_below_drewN | apply below_drew1 | refine below_set ?_ GE309.out) | exact HB.out)⟩
    ·replace c19 := Bool.eq_false_iff.mpr c19
     subst c19
     have H1 : (some false) = some r := by rw [if_neg (show ¬ (false = true) by decide)] at H; exact H
     clear H
     have H := H1
     clear H1
     obtain rfl := Option.some.inj H
     go_enter Try.func81, Try.ntmps81
     go_wp2_with (first | ((with_reducible refine gate_dst (N := 1) rfl ?_); refine box_event ?hg (N := 1) ?hd (cs := #[.int .i64 a0_0, .int .i64 a0_1, .int .i64 a0_2, .int .i64 a0_3, .int .i64 a0_4]) (t := 29) ?hr ?_; (case hd => rfl); (case hg => rfl); (case hr => first | (go_simp; done) | (go_simp; rfl)); intro gb309 hg w27 hbox hb; have n0_ := Gv.a0 (below_step Gv.bw hb); have n1_ := Gv.a0 (hbox); have n2_ := Gv.a0 ((Gv.ble hg Gv.bw : w.heap.size ≤ gb309)); have n3_ := Gv.a0 ((Gv.ble hg Gv.bw : w.heap.size ≤ gb309)); clear HB; have HB := n0_; have BK309 := n1_; have GW309 := n2_; have GE309 := n3_; clear n0_ n1_ n2_ n3_; clear hb hbox hg; obtain ⟨hcz28_0, hcz28_1, hcz28_2, hcz28_3, hcz28_4⟩ := Gv.c5 BK309.out; obtain ⟨hfz28_0, hfz28_1, hfz28_2, hfz28_3, hfz28_4⟩ := Gv.f5 BK309.out) | ((with_reducible refine gate_callee (f := 90) rfl ?_); refine goesL_ (some 29) rfl rfl Try.func90 (by kernel_rfl) rfl #[.int .i64 a0_1] rfl Gv.lm ?_; (with_reducible refine (impl_isLong.calls a0_1 true _ A16.out).mono ?_); rintro e w' ⟨rfl, ⟨nd, rfl⟩⟩; refine ⟨_, rfl, ?_⟩) | (go_at_call 90; (with_reducible refine (impl_isLong.calls a0_2 false _ A18.out).mono ?_); rintro e w' ⟨rfl, ⟨nd, rfl⟩⟩))
     go_ret
     exact ⟨by first | rfl | (simp [errW_none, errW_some] <;> rfl) | (simp [*, errW_none, errW_some] <;> rfl), by repeat (first | (with_reducible first | exact HB.out | apply below_alloc | apply pw_below_drewN | apply below_drew1 | refine below_set ?_ GE309.out) | exact HB.out)⟩
   ·replace c17 := Bool.eq_false_iff.mpr c17
    subst c17
    have H1 : (some false) = some r := by rw [if_neg (show ¬ (false = true) by decide)] at H; exact H
    clear H
    have H := H1
    clear H1
    obtain rfl := Option.some.inj H
    go_enter Try.func81, Try.ntmps81
    go_wp2_with (first | ((with_reducible refine gate_dst (N := 1) rfl ?_); refine box_event ?hg (N := 1) ?hd (cs := #[.int .i64 a0_0, .int .i64 a0_1, .int .i64 a0_2, .int .i64 a0_3, .int .i64 a0_4]) (t := 29) ?hr ?_; (case hd => rfl); (case hg => rfl); (case hr => first | (go_simp; done) | (go_simp; rfl)); intro gb309 hg w29 hbox hb; have n0_ := Gv.a0 (below_step Gv.bw hb); have n1_ := Gv.a0 (hbox); have n2_ := Gv.a0 ((Gv.ble hg Gv.bw : w.heap.size ≤ gb309)); have n3_ := Gv.a0 ((Gv.ble hg Gv.bw : w.heap.size ≤ gb309)); clear HB; have HB := n0_; have BK309 := n1_; have GW309 := n2_; have GE309 := n3_; clear n0_ n1_ n2_ n3_; clear hb hbox hg; obtain ⟨hcz30_0, hcz30_1, hcz30_2, hcz30_3, hcz30_4⟩ := Gv.c5 BK309.out; obtain ⟨hfz30_0, hfz30_1, hfz30_2, hfz30_3, hfz30_4⟩ := Gv.f5 BK309.out) | ((with_reducible refine gate_callee (f := 90) rfl ?_); refine goesL_ (some 29) rfl rfl Try.func90 (by kernel_rfl) rfl #[.int .i64 a0_1] rfl Gv.lm ?_; (with_reducible refine (impl_isLong.calls a0_1 false _ A16.out).mono ?_); rintro e w' ⟨rfl, ⟨nd, rfl⟩⟩; refine ⟨_, rfl, ?_⟩))
    go_ret
    exact ⟨by first | rfl | (simp [errW_none, errW_some] <;> rfl) | (simp [*, errW_none, errW_some] <;> rfl), by repeat (first | (with_reducible first | exact HB.out | apply below_alloc | apply pw_below_drewN | apply below_drew1 | refine below_set ?_ GE309.out) | exact HB.out)⟩
  ·rw [if_neg c15] at H
   have c15b0 : (a0_0 == 6) = false := beq_eq_false_iff_ne.mpr c15
   have c15b1 : (a0_0 != 6) = true := bne_iff_ne.mpr c15
   obtain rfl := Option.some.inj H
   go_enter Try.func81, Try.ntmps81
   go_wp2_with (first | ((with_reducible refine gate_dst (N := 1) rfl ?_); refine box_event ?hg (N := 1) ?hd (cs := #[.int .i64 a0_0, .int .i64 a0_1, .int .i64 a0_2, .int .i64 a0_3, .int .i64 a0_4]) (t := 29) ?hr ?_; (case hd => rfl); (case hg => rfl); (case hr => first | (go_simp; done) | (go_simp; rfl)); intro gb309 hg w31 hbox hb; have n0_ := Gv.a0 (below_step Gv.bw hb); have n1_ := Gv.a0 (hbox); have n2_ := Gv.a0 ((Gv.ble hg Gv.bw : w.heap.size ≤ gb309)); have n3_ := Gv.a0 ((Gv.ble hg Gv.bw : w.heap.size ≤ gb309)); clear HB; have HB := n0_; have BK309 := n1_; have GW309 := n2_; have GE309 := n3_; clear n0_ n1_ n2_ n3_; clear hb hbox hg; obtain ⟨hcz32_0, hcz32_1, hcz32_2, hcz32_3, hcz32_4⟩ := Gv.c5 BK309.out; obtain ⟨hfz32_0, hfz32_1, hfz32_2, hfz32_3, hfz32_4⟩ := Gv.f5 BK309.out))
   go_ret
   exact ⟨by first | rfl | (simp [errW_none, errW_some] <;> rfl) | (simp [*, errW_none, errW_some] <;> rfl), by repeat (first | (with_reducible first | exact HB.out | apply below_alloc | apply pw_below_drewN | apply below_drew1 | refine below_set ?_ GE309.out) | exact HB.out)⟩

/-! ### impl_areBoth: function 68 -/
def impl_areBoth.f (a0_0 : Int) (a0_1 : Int) (a0_2 : Int) (a0_3 : Int) (a0_4 : Int) (a1_0 : Int) (a1_1 : Int) (a1_2 : Int) (a1_3 : Int) (a1_4 : Int) : Option (Bool) := (impl_AddrOk.f a0_0 a0_1 a0_2 a0_3 a0_4).bind fun t317 => (if t317 = true then ((impl_AddrOk.f a1_0 a1_1 a1_2 a1_3 a1_4).bind fun t318 => (if t318 = true then (some (a0_0 == a1_0)) else (some false))) else (some false))
set_option maxHeartbeats 8000000 in
set_option maxRecDepth 100000 in
theorem impl_areBoth.calls (a0_0 : Int) (a0_1 : Int) (a0_2 : Int) (a0_3 : Int) (a0_4 : Int) (a1_0 : Int) (a1_1 : Int) (a1_2 : Int) (a1_3 : Int) (a1_4 : Int) (r : Bool) (w : World) (h : impl_areBoth.f a0_0 a0_1 a0_2 a0_3 a0_4 a1_0 a1_1 a1_2 a1_3 a1_4 = some r) :
  Calls Try.prog 68 #[.agg #[.int .i64 a0_0, .int .i64 a0_1, .int .i64 a0_2, .int .i64 a0_3, .int .i64 a0_4], .agg #[.int .i64 a1_0, .int .i64 a1_1, .int .i64 a1_2, .int .i64 a1_3, .int .i64 a1_4]] w fun e w' => e = .returned (.bool r) ∧ Below w.heap.size w w' := by
 have hu29 := Try.underlying29
 have HB := Gv.a0 (Below.refl w.heap.size w)
 have H : ((impl_AddrOk.f a0_0 a0_1 a0_2 a0_3 a0_4).bind fun t317 => (if t317 = true then ((impl_AddrOk.f a1_0 a1_1 a1_2 a1_3 a1_4).bind fun t318 => (if t318 = true then (some (a0_0 == a1_0)) else (some false))) else (some false))) = some r := h
 clear h
 replace H := Option.bind_eq_some_iff.mp H
 obtain ⟨t317, A30, H⟩ := H
 replace H : (if t317 = true then ((impl_AddrOk.f a1_0 a1_1 a1_2 a1_3 a1_4).bind fun t318 => (if t318 = true then (some (a0_0 == a1_0)) else (some false))) else (some false)) = some r := H
 have A3 := Gv.a0 A30
 clear A30
 by_cases c4 : t317 = true
 ·subst c4
  have H1 : ((impl_AddrOk.f a1_0 a1_1 a1_2 a1_3 a1_4).bind fun t318 => (if t318 = true then (some (a0_0 == a1_0)) else (some false))) = some r := by rw [if_pos rfl] at H; exact H
  clear H
  have H := H1
  clear H1
  replace H := Option.bind_eq_some_iff.mp H
  obtain ⟨t318, A50, H⟩ := H
  replace H : (if t318 = true then (some (a0_0 == a1_0)) else (some false)) = some r := H
  have A5 := Gv.a0 A50
  clear A50
  by_cases c6 : t318 = true
  ·subst c6
   have H1 : (some (a0_0 == a1_0)) = some r := by rw [if_pos rfl] at H; exact H
   clear H
   have H := H1
   clear H1
   obtain rfl := Option.some.inj H
   go_enter Try.func68, Try.ntmps68
   go_wp2_with (first | ((with_reducible refine gate_dst (N := 2) rfl ?_); refine box_event ?hg (N := 2) ?hd (cs := #[.int .i64 a0_0, .int .i64 a0_1, .int .i64 a0_2, .int .i64 a0_3, .int .i64 a0_4]) (t := 29) ?hr ?_; (case hd => rfl); (case hg => rfl); (case hr => first | (go_simp; done) | (go_simp; rfl)); intro gb315 hg w7 hbox hb; have n0_ := Gv.a0 (below_step Gv.bw hb); have n1_ := Gv.a0 (hbox); have n2_ := Gv.a0 ((Gv.ble hg Gv.bw : w.heap.size ≤ gb315)); have n3_ := Gv.a0 ((Gv.ble hg Gv.bw : w.heap.size ≤ gb315)); clear HB; have HB := n0_; have BK315 := n1_; have GW315 := n2_; have GE315 := n3_; clear n0_ n1_ n2_ n3_; clear hb hbox hg) | ((with_reducible refine gate_dst (N := 3) rfl ?_); refine box_event ?hg (N := 3) ?hd (cs := #[.int .i64 a1_0, .int .i64 a1_1, .int .i64 a1_2, .int .i64 a1_3, .int .i64 a1_4]) (t := 29) ?hr ?_; (case hd => rfl); (case hg => rfl); (case hr => first | (go_simp; done) | (go_simp; rfl)); intro gb316 hg w8 hbox hb; have n0_ := Gv.a0 (Gv.bb BK315.out hb); have n1_ := Gv.a0 (below_step Gv.bw hb); have n2_ := Gv.a0 (hbox); have n3_ := Gv.a0 ((Gv.ble hg Gv.bw : w.heap.size ≤ gb316)); have n4_ := Gv.a0 ((Gv.ble hg Gv.bw : w.heap.size ≤ gb316)); have n5_ := Gv.a0 ((Gv.nlt hg (Gv.kb BK315.out) : gb315 ≠ gb316)); have n6_ := Gv.a0 ((Gv.ngt hg (Gv.kb BK315.out) : gb316 ≠ gb315)); clear BK315; clear HB; have BK315 := n0_; have HB := n1_; have BK316 := n2_; have GW316 := n3_; have GE316 := n4_; have NB315_316 := n5_; have NB316_315 := n6_; clear n0_ n1_ n2_ n3_ n4_ n5_ n6_; clear hb hbox hg; have hnb9 := NB315_316.out; have hnc9 := NB316_315.out; obtain ⟨hcz10_0, hcz10_1, hcz10_2, hcz10_3, hcz10_4⟩ := Gv.c5 BK315.out; obtain ⟨hfz10_0, hfz10_1, hfz10_2, hfz10_3, hfz10_4⟩ := Gv.f5 BK315.out) | ((with_reducible refine gate_callee (f := 81) rfl ?_); refine goesL_ (some 6) rfl rfl Try.func81 (by kernel_rfl) rfl #[.agg #[.int .i64 a0_0, .int .i64 a0_1, .int .i64 a0_2, .int .i64 a0_3, .int .i64 a0_4]] rfl Gv.lm ?_; (with_reducible refine (impl_AddrOk.calls a0_0 a0_1 a0_2 a0_3 a0_4 true _ A3.out).mono ?_); rintro e w11 ⟨rfl, hb⟩; refine ⟨_, rfl, ?_⟩; have n0_ := Gv.a0 (Gv.bb BK315.out hb); have n1_ := Gv.a0 (Gv.bb BK316.out hb); have n2_ := Gv.a0 (below_step Gv.bw hb); clear BK315; clear BK316; clear HB; have BK315 := n0_; have BK316 := n1_; have HB := n2_; clear n0_ n1_ n2_; (try clear hb); (try clear hb2); (try clear hk); (try clear hi); obtain ⟨hcz12_0, hcz12_1, hcz12_2, hcz12_3, hcz12_4⟩ := Gv.c5 BK316.out; obtain ⟨hfz12_0, hfz12_1, hfz12_2, hfz12_3, hfz12_4⟩ := Gv.f5 BK316.out) | (go_at_call 81; (with_reducible refine (impl_AddrOk.calls a1_0 a1_1 a1_2 a1_3 a1_4 true _ A5.out).mono ?_); rintro e w13 ⟨rfl, hb⟩; have n0_ := Gv.a0 (Gv.bb BK315.out hb); have n1_ := Gv.a0 (Gv.bb BK316.out hb); have n2_ := Gv.a0 (below_step Gv.bw hb); clear BK315; clear BK316; clear HB; have BK315 := n0_; have BK316 := n1_; have HB := n2_; clear n0_ n1_ n2_; (try clear hb); (try clear hb2); (try clear hk); (try clear hi); obtain ⟨hcz14_0, hcz14_1, hcz14_2, hcz14_3, hcz14_4⟩ := Gv.c5 BK315.out; obtain ⟨hfz14_0, hfz14_1, hfz14_2, hfz14_3, hfz14_4⟩ := Gv.f5 BK315.out; obtain ⟨hcz15_0, hcz15_1, hcz15_2, hcz15_3, hcz15_4⟩ := Gv.c5 BK316.out; obtain ⟨hfz15_0, hfz15_1, hfz15_2, hfz15_3, hfz15_4⟩ := Gv.f5 BK316.out))
   go_ret
   exact ⟨by first | rfl | (simp [errW_none, errW_some] <;> rfl) | (simp [*, errW_none, errW_some] <;> rfl), by repeat (first | (with_reducible first | exact HB.out | apply below_alloc | apply pw_below_drewN | apply below_drew1 | refine below_set ?_ GE315.out | refine below_set ?_ GE316.out) | exact HB.out)⟩
  ·replace c6 := Bool.eq_false_iff.mpr c6
   subst c6
   have H1 : (some false) = some r := by rw [if_neg (show ¬ (false = true) by decide)] at H; exact H
   clear H
   have H := H1
   clear H1
   obtain rfl := Option.some.inj H
   go_enter Try.func68, Try.ntmps68
   go_wp2_with (first | ((with_reducible refine gate_dst (N := 2) rfl ?_); refine box_event ?hg (N := 2) ?hd (cs := #[.int .i64 a0_0, .int .i64 a0_1, .int .i64 a0_2, .int .i64 a0_3, .int .i64 a0_4]) (t := 29) ?hr ?_; (case hd => rfl); (case hg => rfl); (case hr => first | (go_simp; done) | (go_simp; rfl)); intro gb315 hg w16 hbox hb; have n0_ := Gv.a0 (below_step Gv.bw hb); have n1_ := Gv.a0 (hbox); have n2_ := Gv.a0 ((Gv.ble hg Gv.bw : w.heap.size ≤ gb315)); have n3_ := Gv.a0 ((Gv.ble hg Gv.bw : w.heap.size ≤ gb315)); clear HB; have HB := n0_; have BK315 := n1_; have GW315 := n2_; have GE315 := n3_; clear n0_ n1_ n2_ n3_; clear hb hbox hg) | ((with_reducible refine gate_dst (N := 3) rfl ?_); refine box_event ?hg (N := 3) ?hd (cs := #[.int .i64 a1_0, .int .i64 a1_1, .int .i64 a1_2, .int .i64 a1_3, .int .i64 a1_4]) (t := 29) ?hr ?_; (case hd => rfl); (case hg => rfl); (case hr => first | (go_simp; done) | (go_simp; rfl)); intro gb316 hg w17 hbox hb; have n0_ := Gv.a0 (Gv.bb BK315.out hb); have n1_ := Gv.a0 (below_step Gv.bw hb); have n2_ := Gv.a0 (hbox); have n3_ := Gv.a0 ((Gv.ble hg Gv.bw : w.heap.size ≤ gb316)); have n4_ := Gv.a0 ((Gv.ble hg Gv.bw : w.heap.size ≤ gb316)); have n5_ := Gv.a0 ((Gv.nlt hg (Gv.kb BK315.out) : gb315 ≠ gb316)); have n6_ := Gv.a0 ((Gv.ngt hg (Gv.kb BK315.out) : gb316 ≠ gb315)); clear BK315; clear HB; have BK315 := n0_; have HB := n1_; have BK316 := n2_; have GW316 := n3_; have GE316 := n4_; have NB315_316 := n5_; have NB316_315 := n6_; clear n0_ n1_ n2_ n3_ n4_ n5_ n6_; clear hb hbox hg; have hnb18 := NB315_316.out; have hnc18 := NB316_315.out; obtain ⟨hcz19_0, hcz19_1, hcz19_2, hcz19_3, hcz19_4⟩ := Gv.c5 BK315.out; obtain ⟨hfz19_0, hfz19_1, hfz19_2, hfz19_3, hfz19_4⟩ := Gv.f5 BK315.out) | ((with_reducible refine gate_callee (f := 81) rfl ?_); refine goesL_ (some 6) rfl rfl Try.func81 (by kernel_rfl) rfl #[.agg #[.int .i64 a0_0, .int .i64 a0_1, .int .i64 a0_2, .int .i64 a0_3, .int .i64 a0_4]] rfl Gv.lm ?_; (with_reducible refine (impl_AddrOk.calls a0_0 a0_1 a0_2 a0_3 a0_4 true _ A3.out).mono ?_); rintro e w20 ⟨rfl, hb⟩; refine ⟨_, rfl, ?_⟩; have n0_ := Gv.a0 (Gv.bb BK315.out hb); have n1_ := Gv.a0 (Gv.bb BK316.out hb); have n2_ := Gv.a0 (below_step Gv.bw hb); clear BK315; clear BK316; clear HB; have BK315 := n0_; have BK316 := n1_; have HB := n2_; clear n0_ n1_ n2_; (try clear hb); (try clear hb2); (try clear hk); (try clear hi); obtain ⟨hcz21_0, hcz21_1, hcz21_2, hcz21_3, hcz21_4⟩ := Gv.c5 BK316.out; obtain ⟨hfz21_0, hfz21_1, hfz21_2, hfz21_3, hfz21_4⟩ := Gv.f5 BK316.out) | (go_at_call 81; (with_reducible refine (impl_AddrOk.calls a1_0 a1_1 a1_2 a1_3 a1_4 false _ A5.out).mono ?_); rintro e w22 ⟨rfl, hb⟩; have n0_ := Gv.a0 (Gv.bb BK315.out hb); have n1_ := Gv.a0 (Gv.bb BK316.out hb); have n2_ := Gv.a0 (below_step Gv.bw hb); clear BK315; clear BK316; clear HB; have BK315 := n0_; have BK316 := n1_; have HB := n2_; clear n0_ n1_ n2_; (try clear hb); (try clear hb2); (try clear hk); (try clear hi)))
   go_ret
   exact ⟨by first | rfl | (simp [errW_none, errW_some] <;> rfl) | (simp [*, errW_none, errW_some] <;> rfl), by repeat (first | (with_reducible first | exact HB.out | apply below_alloc | apply pw_below_drewN | apply below_drew1 | refine below_set ?_ GE315.out | refine below_set ?_ GE316.out) | exact HB.out)⟩
 ·replace c4 := Bool.eq_false_iff.mpr c4
  subst c4
  have H1 : (some false) = some r := by rw [if_neg (show ¬ (false = true) by decide)] at H; exact H
  clear H
  have H := H1
  clear H1
  obtain rfl := Option.some.inj H
  go_enter Try.func68, Try.ntmps68
  go_wp2_with (first | ((with_reducible refine gate_dst (N := 2) rfl ?_); refine box_event ?hg (N := 2) ?hd (cs := #[.int .i64 a0_0, .int .i64 a0_1, .int .i64 a0_2, .int .i64 a0_3, .int .i64 a0_4]) (t := 29) ?hr ?_; (case hd => rfl); (case hg => rfl); (case hr => first | (go_simp; done) | (go_simp; rfl)); intro gb315 hg w23 hbox hb; have n0_ := Gv.a0 (below_step Gv.bw hb); have n1_ := Gv.a0 (hbox); have n2_ := Gv.a0 ((Gv.ble hg Gv.bw : w.heap.size ≤ gb315)); have n3_ := Gv.a0 ((Gv.ble hg Gv.bw : w.heap.size ≤ gb315)); clear HB; have HB := n0_; have BK315 := n1_; have GW315 := n2_; have GE315 := n3_; clear n0_ n1_ n2_ n3_; clear hb hbox hg) | ((with_reducible refine gate_dst (N := 3) rfl ?_); refine box_event ?hg (N := 3) ?hd (cs := #[.int .i64 a1_0, .int .i64 a1_1, .int .i64 a1_2, .int .i64 a1_3, .int .i64 a1_4]) (t := 29) ?hr ?_; (case hd => rfl); (case hg => rfl); (case hr => first | (go_simp; done) | (go_simp; rfl)); intro gb316 hg w24 hbox hb; have n0_ := Gv.a0 (Gv.bb BK315.out hb); have n1_ := Gv.a0 (below_step Gv.bw hb); have n2_ := Gv.a0 (hbox); have n3_ := Gv.a0 ((Gv.ble hg Gv.bw : w.heap.size ≤ gb316)); have n4_ := Gv.a0 ((Gv.ble hg Gv.bw : w.heap.size ≤ gb316)); have n5_ := Gv.a0 ((Gv.nlt hg (Gv.kb BK315.out) : gb315 ≠ gb316)); have n6_ := Gv.a0 ((Gv.ngt hg (Gv.kb BK315.out) : gb316 ≠ gb315)); clear BK315; clear HB; have BK315 := n0_; have HB := n1_; have BK316 := n2_; have GW316 := n3_; have GE316 := n4_; have NB315_316 := n5_; have NB316_315 := n6_; clear n0_ n1_ n2_ n3_ n4_ n5_ n6_; clear hb hbox hg; have hnb25 := NB315_316.out; have hnc25 := NB316_315.out; obtain ⟨hcz26_0, hcz26_1, hcz26_2, hcz26_3, hcz26_4⟩ := Gv.c5 BK315.out; obtain ⟨hfz26_0, hfz26_1, hfz26_2, hfz26_3, hfz26_4⟩ := Gv.f5 BK315.out) | ((with_reducible refine gate_callee (f := 81) rfl ?_); refine goesL_ (some 6) rfl rfl Try.func81 (by kernel_rfl) rfl #[.agg #[.int .i64 a0_0, .int .i64 a0_1, .int .i64 a0_2, .int .i64 a0_3, .int .i64 a0_4]] rfl Gv.lm ?_; (with_reducible refine (impl_AddrOk.calls a0_0 a0_1 a0_2 a0_3 a0_4 false _ A3.out).mono ?_); rintro e w27 ⟨rfl, hb⟩; refine ⟨_, rfl, ?_⟩; have n0_ := Gv.a0 (Gv.bb BK315.out hb); have n1_ := Gv.a0 (Gv.bb BK316.out hb); have n2_ := Gv.a0 (below_step Gv.bw hb); clear BK315; clear BK316; clear HB; have BK315 := n0_; have BK316 := n1_; have HB := n2_; clear n0_ n1_ n2_; (try clear hb); (try clear hb2); (try clear hk); (try clear hi)))
  go_ret
  exact ⟨by first | rfl | (simp [errW_none, errW_some] <;> rfl) | (simp [*, errW_none, errW_some] <;> rfl), by repeat (first | (with_reducible first | exact HB.out | apply below_alloc | apply pw_below_drewN | apply below_drew1 | refine below_set ?_ GE315.out | refine below_set ?_ GE316.out) | exact HB.out)⟩

/-! ### impl_isByte: function 69 -/
def impl_isByte.f (a0 : Int) : Option (Bool) := (impl_within.f a0 0 255).bind fun t319 => (some t319)
set_option maxHeartbeats 8000000 in
set_option maxRecDepth 100000 in
theorem impl_isByte.calls (a0 : Int) (r : Bool) (w : World) (h : impl_isByte.f a0 = some r) :
  Calls Try.prog 69 #[.int .i64 a0] w fun e w' => e = .returned (.bool r) ∧ Drawn0 w w' := by
 have H : ((impl_within.f a0 0 255).bind fun t319 => (some t319)) = some r := h
 clear h
 replace H := Option.bind_eq_some_iff.mp H
 obtain ⟨t319, A20, H⟩ := H
 replace H : (some t319) = some r := H
 have A2 := Gv.a0 A20
 clear A20
 obtain rfl := Option.some.inj H
 go_enter Try.func69, Try.ntmps69
 go_wp2_with (first | ((with_reducible refine gate_callee (f := 44) rfl ?_); refine goesL_ (some 4) rfl rfl Try.func44 (by kernel_rfl) rfl #[.int .i64 a0, .int .i64 0, .int .i64 255] rfl Gv.lm ?_; (with_reducible refine (impl_within.calls a0 0 255 t319 _ A2.out).mono ?_); rintro e w' ⟨rfl, ⟨nd, rfl⟩⟩; refine ⟨_, rfl, ?_⟩))
 go_ret
 exact ⟨by first | rfl | (simp; done) | (simp [Int.tdiv_eq_ediv_of_nonneg]; done) | (simp [*]; done), by repeat (first | exact Drawn0.refl _ | apply Drawn0.step)⟩

/-! ### impl_isWord: function 82 -/
def impl_isWord.f (a0 : Int) : Option (Bool) := (impl_within.f a0 0 65535).bind fun t320 => (some t320)
set_option maxHeartbeats 8000000 in
set_option maxRecDepth 100000 in
theorem impl_isWord.calls (a0 : Int) (r : Bool) (w : World) (h : impl_isWord.f a0 = some r) :
  Calls Try.prog 82 #[.int .i64 a0] w fun e w' => e = .returned (.bool r) ∧ Drawn0 w w' := by
 have H : ((impl_within.f a0 0 65535).bind fun t320 => (some t320)) = some r := h
 clear h
 replace H := Option.bind_eq_some_iff.mp H
 obtain ⟨t320, A20, H⟩ := H
 replace H : (some t320) = some r := H
 have A2 := Gv.a0 A20
 clear A20
 obtain rfl := Option.some.inj H
 go_enter Try.func82, Try.ntmps82
 go_wp2_with (first | ((with_reducible refine gate_callee (f := 44) rfl ?_); refine goesL_ (some 4) rfl rfl Try.func44 (by kernel_rfl) rfl #[.int .i64 a0, .int .i64 0, .int .i64 65535] rfl Gv.lm ?_; (with_reducible refine (impl_within.calls a0 0 65535 t320 _ A2.out).mono ?_); rintro e w' ⟨rfl, ⟨nd, rfl⟩⟩; refine ⟨_, rfl, ?_⟩))
 go_ret
 exact ⟨by first | rfl | (simp; done) | (simp [Int.tdiv_eq_ediv_of_nonneg]; done) | (simp [*]; done), by repeat (first | exact Drawn0.refl _ | apply Drawn0.step)⟩

/-! ### impl_areWords: function 70 -/
def impl_areWords.l0 : Nat → List Int → Int → Int → Option (Bool)
 | 0, _, _, _ => none
 | k + 1, x5, x6, x7 => if x7 < x6 then (if 0 ≤ x7 then (if x7 < (x5.length : Int) then ((impl_isWord.f (rd x5 x7)).bind fun t322 => (if t322 = true then (impl_areWords.l0 k x5 x6 (wrap64 (x7 + 1))) else (some false))) else (none)) else (none)) else (some true)
def impl_areWords.f (k : Nat) (l0 : List Int) : Option (Bool) := impl_areWords.l0 k l0 (l0.length : Int) 0
theorem impl_areWords.mono_l : ∀ k, (∀ y0 y1 y2, LeO (impl_areWords.l0 k y0 y1 y2) (impl_areWords.l0 (k + 1) y0 y1 y2))
 | 0 => fun _ _ _ r h => by simp [impl_areWords.l0] at h
 | k + 1 => by
  have ih0 := impl_areWords.mono_l k
  ·intro y0 y1 y2
   unfold impl_areWords.l0
   repeat' first
   | (with_reducible exact ih0 _ _ _)
   | (with_reducible exact LeO.refl _)
   | (with_reducible exact LeO.none _)
   | (with_reducible refine LeO.ite ?_ ?_)
   | (with_reducible refine LeO.bind ?_ (fun _ => ?_))
   | exact ih0 _ _ _
   | exact LeO.none _
   | refine LeO.ite ?_ ?_
   | refine LeO.bind ?_ (fun _ => ?_)
theorem impl_areWords.mono : ∀ a0 k, LeO (impl_areWords.f k a0) (impl_areWords.f (k + 1) a0) := by
 intro a0 k
 have ih0 := impl_areWords.mono_l k
 unfold impl_areWords.f
 repeat' first
   | (with_reducible exact ih0 _ _ _)
   | (with_reducible exact LeO.refl _)
   | (with_reducible exact LeO.none _)
   | (with_reducible refine LeO.ite ?_ ?_)
   | (with_reducible refine LeO.bind ?_ (fun _ => ?_))
   | exact ih0 _ _ _
   | exact LeO.none _
   | refine LeO.ite ?_ ?_
   | refine LeO.bind ?_ (fun _ => ?_)
set_option maxHeartbeats 8000000 in
set_option maxRecDepth 100000 in
theorem impl_areWords.calls (k : Nat) (A0 : Option Addr) (c0 : Nat) (l0 : List Int) (r : Bool) (w : World) (hr0 : Kd.C (Kd.int .i64) w A0 l0.length l0) (hc0 : l0.length ≤ c0) (h : impl_areWords.f k l0 = some r) :
  Calls Try.prog 70 #[.slice A0 l0.length c0] w fun e w' => e = .returned (.bool r) ∧ Drawn0 w w' := by
 have HR0 := Gv.a0 hr0
 have HC0 := Gv.a0 hc0
 clear hr0 hc0
 have H : (impl_areWords.l0 k l0 (l0.length : Int) 0) = some r := h
 clear h
 have H' := Gv.a0 H
 clear H
 go_enter Try.func70, Try.ntmps70
 go_wp2
 go_loopg [7] k (fun kq v7 w' => ∃ (x7_1 : Int), v7 = .int .i64 x7_1 ∧ Aside0 (impl_areWords.l0 kq l0 (l0.length : Int) x7_1 = some r) ∧ Aside0 (kq ≤ k) ∧ Drawn0 w w')
 case atStart => exact ⟨(0), (by first | rfl | (simp; done) | (simp [Int.tdiv_eq_ediv_of_nonneg]; done) | (simp [*]; done)), H', ⟨Nat.le_refl _⟩, by repeat (first | exact Drawn0.refl _ | apply Drawn0.step)⟩
 case round =>
  clear H'
  obtain ⟨x7_1, rfl, HA, HK1, ⟨m1, rfl⟩⟩ := hrel
  cases gk with
  | zero => exact absurd HA.out (by simp [impl_areWords.l0])
  | succ k1 =>
   have H := HA.out
   clear HA
   simp only [impl_areWords.l0] at H
   by_cases c2 : x7_1 < (l0.length : Int)
   ·rw [if_pos c2] at H
    have c2b0 : decide (x7_1 < (l0.length : Int)) = true := decide_eq_true c2
    clear c2
    by_cases c3 : 0 ≤ x7_1
    ·rw [if_pos c3] at H
     have c3b0 : decide (0 ≤ x7_1) = true := decide_eq_true c3
     clear c3
     by_cases c4 : x7_1 < (l0.length : Int)
     ·rw [if_pos c4] at H
      have c4b0 : decide (x7_1 < (l0.length : Int)) = true := decide_eq_true c4
      clear c4
      replace H := Option.bind_eq_some_iff.mp H
      obtain ⟨t322, A50, H⟩ := H
      replace H : (if t322 = true then (impl_areWords.l0 k1 l0 (l0.length : Int) (wrap64 (x7_1 + 1))) else (some false)) = some r := H
      have A5 := Gv.a0 A50
      clear A50
      by_cases c6 : t322 = true
      ·subst c6
       have H1 : (impl_areWords.l0 k1 l0 (l0.length : Int) (wrap64 (x7_1 + 1))) = some r := by rw [if_pos rfl] at H; exact H
       clear H
       have H := H1
       clear H1
       have H' := Gv.a0 H
       clear H
       have p321 : 0 ≤ (x7_1 : Int) := of_decide_eq_true (by first | (with_reducible assumption) | assumption)
       have q321 : x7_1 < (l0.length : Int) := of_decide_eq_true (by first | (with_reducible assumption) | assumption)
       obtain ⟨ad321, e321, hx321_0⟩ := Kd.at_int HR0.out x7_1 p321 q321
       cases e321
       replace p321 := eq_true p321
       replace q321 := eq_true q321
       go_wp2_with (first | ((with_reducible refine gate_callee (f := 82) rfl ?_); refine goesL_ (some 12) rfl rfl Try.func82 (by kernel_rfl) rfl #[.int .i64 (rd l0 x7_1)] rfl Gv.lm ?_; (with_reducible refine (impl_isWord.calls (rd l0 x7_1) true _ A5.out).mono ?_); rintro e w' ⟨rfl, ⟨nd, rfl⟩⟩; refine ⟨_, rfl, ?_⟩))
       go_roundg k1
       case measure => have := HK1.out; omega
       case rel => exact ⟨(wrap64 (x7_1 + 1)), (by first | rfl | (simp; done) | (simp [Int.tdiv_eq_ediv_of_nonneg]; done) | (simp [*]; done)), H', ⟨by have := HK1.out; omega⟩, by repeat (first | exact Drawn0.refl _ | apply Drawn0.step)⟩
      ·replace c6 := Bool.eq_false_iff.mpr c6
       subst c6
       have H1 : (some false) = some r := by rw [if_neg (show ¬ (false = true) by decide)] at H; exact H
       clear H
       have H := H1
       clear H1
       obtain rfl := Option.some.inj H
       have p321 : 0 ≤ (x7_1 : Int) := of_decide_eq_true (by first | (with_reducible assumption) | assumption)
       have q321 : x7_1 < (l0.length : Int) := of_decide_eq_true (by first | (with_reducible assumption) | assumption)
       obtain ⟨ad321, e321, hx321_0⟩ := Kd.at_int HR0.out x7_1 p321 q321
       cases e321
       replace p321 := eq_true p321
       replace q321 := eq_true q321
       go_wp2_with (first | ((with_reducible refine gate_callee (f := 82) rfl ?_); refine goesL_ (some 12) rfl rfl Try.func82 (by kernel_rfl) rfl #[.int .i64 (rd l0 x7_1)] rfl Gv.lm ?_; (with_reducible refine (impl_isWord.calls (rd l0 x7_1) false _ A5.out).mono ?_); rintro e w' ⟨rfl, ⟨nd, rfl⟩⟩; refine ⟨_, rfl, ?_⟩))
       go_ret
       exact ⟨by first | rfl | (simp; done) | (simp [Int.tdiv_eq_ediv_of_nonneg]; done) | (simp [*]; done), by repeat (first | exact Drawn0.refl _ | apply Drawn0.step)⟩
     ·rw [if_neg c4] at H
      exact absurd H (by simp)
    ·rw [if_neg c3] at H
     exact absurd H (by simp)
   ·rw [if_neg c2] at H
    have c2b0 : decide (x7_1 < (l0.length : Int)) = false := decide_eq_false c2
    clear c2
    obtain rfl := Option.some.inj H
    go_wp2
    go_ret
    exact ⟨by first | rfl | (simp; done) | (simp [Int.tdiv_eq_ediv_of_nonneg]; done) | (simp [*]; done), by repeat (first | exact Drawn0.refl _ | apply Drawn0.step)⟩

/-! ### impl_KeyOk: function 45 -/
def impl_KeyOk.f (k : Nat) (a0_0 : Int) (a0_1 : Int) (a0_2 : Int) (a0_3 : Int) (a0_4 : Int) (a0_5 : Int) (a0_6 : Int) (a0_7 : Int) (a0_8 : Int) (a0_9 : Int) (a0_10 : Int) (a0_11 : Int) (a0_12 : Int) : Option (Bool) := (impl_areBoth.f a0_0 a0_1 a0_2 a0_3 a0_4 a0_5 a0_6 a0_7 a0_8 a0_9).bind fun t324 => (if t324 = true then ((impl_isByte.f a0_10).bind fun t325 => (if t325 = true then ((impl_areWords.f k (([a0_11, a0_12] : List Int))).bind fun t329 => (some t329)) else (some false))) else (some false))
theorem impl_KeyOk.mono : ∀ a0 a1 a2 a3 a4 a5 a6 a7 a8 a9 a10 a11 a12 k, LeO (impl_KeyOk.f k a0 a1 a2 a3 a4 a5 a6 a7 a8 a9 a10 a11 a12) (impl_KeyOk.f (k + 1) a0 a1 a2 a3 a4 a5 a6 a7 a8 a9 a10 a11 a12) := by
 intro a0 a1 a2 a3 a4 a5 a6 a7 a8 a9 a10 a11 a12 k
 unfold impl_KeyOk.f
 repeat' first
   | (with_reducible exact impl_areWords.mono _ _)
   | (with_reducible exact LeO.refl _)
   | (with_reducible exact LeO.none _)
   | (with_reducible refine LeO.ite ?_ ?_)
   | (with_reducible refine LeO.bind ?_ (fun _ => ?_))
   | exact impl_areWords.mono _ _
   | exact LeO.none _
   | refine LeO.ite ?_ ?_
   | refine LeO.bind ?_ (fun _ => ?_)
set_option maxHeartbeats 8000000 in
set_option maxRecDepth 100000 in
theorem impl_KeyOk.calls (k : Nat) (a0_0 : Int) (a0_1 : Int) (a0_2 : Int) (a0_3 : Int) (a0_4 : Int) (a0_5 : Int) (a0_6 : Int) (a0_7 : Int) (a0_8 : Int) (a0_9 : Int) (a0_10 : Int) (a0_11 : Int) (a0_12 : Int) (r : Bool) (w : World) (h : impl_KeyOk.f k a0_0 a0_1 a0_2 a0_3 a0_4 a0_5 a0_6 a0_7 a0_8 a0_9 a0_10 a0_11 a0_12 = some r) :
  Calls Try.prog 45 #[.agg #[.int .i64 a0_0, .int .i64 a0_1, .int .i64 a0_2, .int .i64 a0_3, .int .i64 a0_4, .int .i64 a0_5, .int .i64 a0_6, .int .i64 a0_7, .int .i64 a0_8, .int .i64 a0_9, .int .i64 a0_10, .int .i64 a0_11, .int .i64 a0_12]] w fun e w' => e = .returned (.bool r) ∧ Below w.heap.size w w' := by
 have hu31 := Try.underlying31
 have hu29 := Try.underlying29
 have HB := Gv.a0 (Below.refl w.heap.size w)
 have H : ((impl_areBoth.f a0_0 a0_1 a0_2 a0_3 a0_4 a0_5 a0_6 a0_7 a0_8 a0_9).bind fun t324 => (if t324 = true then ((impl_isByte.f a0_10).bind fun t325 => (if t325 = true then ((impl_areWords.f k (([a0_11, a0_12] : List Int))).bind fun t329 => (some t329)) else (some false))) else (some false))) = some r := h
 clear h
 replace H := Option.bind_eq_some_iff.mp H
 obtain ⟨t324, A20, H⟩ := H
 replace H : (if t324 = true then ((impl_isByte.f a0_10).bind fun t325 => (if t325 = true then ((impl_areWords.f k (([a0_11, a0_12] : List Int))).bind fun t329 => (some t329)) else (some false))) else (some false)) = some r := H
 have A2 := Gv.a0 A20
 clear A20
 by_cases c3 : t324 = true
 ·subst c3
  have H1 : ((impl_isByte.f a0_10).bind fun t325 => (if t325 = true then ((impl_areWords.f k (([a0_11, a0_12] : List Int))).bind fun t329 => (some t329)) else (some false))) = some r := by rw [if_pos rfl] at H; exact H
  clear H
  have H := H1
  clear H1
  replace H := Option.bind_eq_some_iff.mp H
  obtain ⟨t325, A40, H⟩ := H
  replace H : (if t325 = true then ((impl_areWords.f k (([a0_11, a0_12] : List Int))).bind fun t329 => (some t329)) else (some false)) = some r := H
  have A4 := Gv.a0 A40
  clear A40
  by_cases c5 : t325 = true
  ·subst c5
   have H1 : ((impl_areWords.f k (([a0_11, a0_12] : List Int))).bind fun t329 => (some t329)) = some r := by rw [if_pos rfl] at H; exact H
   clear H
   have H := H1
   clear H1
   obtain ⟨y326, hy326⟩ : ∃ y_ : List Int, y_ = (([a0_11, a0_12] : List Int)) := ⟨_, rfl⟩
   replace H : ((impl_areWords.f k y326).bind fun t329 => (some t329)) = some r := by first | (rw [hy326]; with_reducible exact H) | (have H2_ := (Option.bind_some _ _).symm.trans H; rw [hy326]; with_reducible exact H2_) | (have H2_ := (Option.bind_some _ _).symm.trans H; with_reducible exact H2_) | with_reducible exact H | (rw [hy326]; exact H) | exact H
   have Ny326 := Gv.a0 hy326
   clear hy326
   replace H := Option.bind_eq_some_iff.mp H
   obtain ⟨t329, A60, H⟩ := H
   replace H : (some t329) = some r := H
   have A6 := Gv.a0 A60
   clear A60
   obtain rfl := Option.some.inj H
   go_enter Try.func45, Try.ntmps45
   go_wp2_with (first | ((with_reducible refine gate_dst (N := 1) rfl ?_); (try (refine gate_guard (by rfl) ?_; dsimp only)); refine box_event ?hg (N := 1) ?hd (cs := #[.int .i64 a0_0, .int .i64 a0_1, .int .i64 a0_2, .int .i64 a0_3, .int .i64 a0_4, .int .i64 a0_5, .int .i64 a0_6, .int .i64 a0_7, .int .i64 a0_8, .int .i64 a0_9, .int .i64 a0_10, .int .i64 a0_11, .int .i64 a0_12]) (t := 31) ?hr ?_; (case hd => rfl); (case hg => rfl); (case hr => first | (go_simp; done) | (go_simp; rfl)); intro gb323 hg w7 hbox hb; have n0_ := Gv.a0 (below_step Gv.bw hb); have n1_ := Gv.a0 (hbox); have n2_ := Gv.a0 ((Gv.ble hg Gv.bw : w.heap.size ≤ gb323)); have n3_ := Gv.a0 ((Gv.ble hg Gv.bw : w.heap.size ≤ gb323)); clear HB; have HB := n0_; have BK323 := n1_; have GW323 := n2_; have GE323 := n3_; clear n0_ n1_ n2_ n3_; clear hb hbox hg; obtain ⟨hcz8_0, hcz8_1, hcz8_2, hcz8_3, hcz8_4, hcz8_5, hcz8_6, hcz8_7, hcz8_8, hcz8_9, hcz8_10, hcz8_11, hcz8_12⟩ := Gv.c13 BK323.out; obtain ⟨hfz8_0, hfz8_1, hfz8_2, hfz8_3, hfz8_4, hfz8_5, hfz8_6, hfz8_7, hfz8_8, hfz8_9, hfz8_10, hfz8_11, hfz8_12⟩ := Gv.f13 BK323.out) | ((with_reducible refine gate_callee (f := 68) rfl ?_); refine goesL_ (some 7) rfl rfl Try.func68 (by kernel_rfl) rfl #[.agg #[.int .i64 a0_0, .int .i64 a0_1, .int .i64 a0_2, .int .i64 a0_3, .int .i64 a0_4], .agg #[.int .i64 a0_5, .int .i64 a0_6, .int .i64 a0_7, .int .i64 a0_8, .int .i64 a0_9]] rfl Gv.lm ?_; (with_reducible refine (impl_areBoth.calls a0_0 a0_1 a0_2 a0_3 a0_4 a0_5 a0_6 a0_7 a0_8 a0_9 true _ A2.out).mono ?_); rintro e w9 ⟨rfl, hb⟩; refine ⟨_, rfl, ?_⟩; have n0_ := Gv.a0 (Gv.bb BK323.out hb); have n1_ := Gv.a0 (below_step Gv.bw hb); clear BK323; clear HB; have BK323 := n0_; have HB := n1_; clear n0_ n1_; (try clear hb); (try clear hb2); (try clear hk); (try clear hi); obtain ⟨hcz10_0, hcz10_1, hcz10_2, hcz10_3, hcz10_4, hcz10_5, hcz10_6, hcz10_7, hcz10_8, hcz10_9, hcz10_10, hcz10_11, hcz10_12⟩ := Gv.c13 BK323.out; obtain ⟨hfz10_0, hfz10_1, hfz10_2, hfz10_3, hfz10_4, hfz10_5, hfz10_6, hfz10_7, hfz10_8, hfz10_9, hfz10_10, hfz10_11, hfz10_12⟩ := Gv.f13 BK323.out) | (go_at_call 69; (with_reducible refine (impl_isByte.calls a0_10 true _ A4.out).mono ?_); rintro e w' ⟨rfl, ⟨nd, rfl⟩⟩) | ((with_reducible refine gate_dst (N := 18) rfl ?_); (try (refine gate_guard (by rfl) ?_; dsimp only)); refine Kd.R_lit (Kd.int .i64) _ 3 ?hg (N := 18) ?hd (xs := ([a0_11, a0_12] : List Int)) (inner := [.int .i64 a0_11, .int .i64 a0_12]) (ok := fun _ => True) (okp := fun _ => True) ?hr ?hp (fun _ hk => hk) trivial (Below.refl _ _) (Nat.le_refl _) (by simp) ?_; (case hd => rfl); (case hg => rfl); (case hr => first | (go_simp; done) | (go_simp; rfl)); (case hp => exact (Reps.one (show Kd.M (Kd.int .i64) _ _ _ a0_11 [.int .i64 a0_11] from rfl) (Reps.one (show Kd.M (Kd.int .i64) _ _ _ a0_12 [.int .i64 a0_12] from rfl) (Reps.none _ _)))); intro v327 w11 ho12 hb hg_ hnew_; clear hg_ hnew_; (first | rw [← Ny326.out] at ho12 | (simp only [Int.reduceToNat] at ho12; rw [← Ny326.out] at ho12)); have n0_ := Gv.a0 (Kd.R_lower ho12 (below_size Gv.bw)); have n1_ := Gv.a0 (Gv.bb BK323.out hb); have n2_ := Gv.a0 (below_step Gv.bw hb); clear BK323; clear HB; have HO328 := n0_; have BK323 := n1_; have HB := n2_; clear n0_ n1_ n2_; clear hb ho12; obtain ⟨Ao13, co13, eo13⟩ := Kd.R_slice HO328.out; subst eo13) | (go_at_call 70; (with_reducible refine (impl_areWords.calls k _ _ y326 t329 _ ?side1 ?side2 A6.out).mono ?_); (case side1 => repeat (first | exact (Kd.R_reads' HO328.out).2.2 | (with_reducible refine Kd.C_alloc ?_ _) | (with_reducible refine Kd.C_drewN ?_ _) | (with_reducible refine Kd.C_drew ?_))); (case side2 => exact (Kd.R_reads' HO328.out).2.1); rintro e w' ⟨rfl, ⟨nd, rfl⟩⟩))
   go_ret
   exact ⟨by first | rfl | (simp [errW_none, errW_some] <;> rfl) | (simp [*, errW_none, errW_some] <;> rfl), by repeat (first | (with_reducible first | exact HB.out | apply below_alloc | apply pw_below_drewN | apply below_drew1 | refine below_set ?_ GE323.out) | exact HB.out)⟩
  ·replace c5 := Bool.eq_false_iff.mpr c5
   subst c5
   have H1 : (some false) = some r := by rw [if_neg (show ¬ (false = true) by decide)] at H; exact H
   clear H
   have H := H1
   clear H1
   obtain rfl := Option.some.inj H
   go_enter Try.func45, Try.ntmps45
   go_wp2_with (first | ((with_reducible refine gate_dst (N := 1) rfl ?_); (try (refine gate_guard (by rfl) ?_; dsimp only)); refine box_event ?hg (N := 1) ?hd (cs := #[.int .i64 a0_0, .int .i64 a0_1, .int .i64 a0_2, .int .i64 a0_3, .int .i64 a0_4, .int .i64 a0_5, .int .i64 a0_6, .int .i64 a0_7, .int .i64 a0_8, .int .i64 a0_9, .int .i64 a0_10, .int .i64 a0_11, .int .i64 a0_12]) (t := 31) ?hr ?_; (case hd => rfl); (case hg => rfl); (case hr => first | (go_simp; done) | (go_simp; rfl)); intro gb323 hg w14 hbox hb; have n0_ := Gv.a0 (below_step Gv.bw hb); have n1_ := Gv.a0 (hbox); have n2_ := Gv.a0 ((Gv.ble hg Gv.bw : w.heap.size ≤ gb323)); have n3_ := Gv.a0 ((Gv.ble hg Gv.bw : w.heap.size ≤ gb323)); clear HB; have HB := n0_; have BK323 := n1_; have GW323 := n2_; have GE323 := n3_; clear n0_ n1_ n2_ n3_; clear hb hbox hg; obtain ⟨hcz15_0, hcz15_1, hcz15_2, hcz15_3, hcz15_4, hcz15_5, hcz15_6, hcz15_7, hcz15_8, hcz15_9, hcz15_10, hcz15_11, hcz15_12⟩ := Gv.c13 BK323.out; obtain ⟨hfz15_0, hfz15_1, hfz15_2, hfz15_3, hfz15_4, hfz15_5, hfz15_6, hfz15_7, hfz15_8, hfz15_9, hfz15_10, hfz15_11, hfz15_12⟩ := Gv.f13 BK323.out) | ((with_reducible refine gate_callee (f := 68) rfl ?_); refine goesL_ (some 7) rfl rfl Try.func68 (by kernel_rfl) rfl #[.agg #[.int .i64 a0_0, .int .i64 a0_1, .int .i64 a0_2, .int .i64 a0_3, .int .i64 a0_4], .agg #[.int .i64 a0_5, .int .i64 a0_6, .int .i64 a0_7, .int .i64 a0_8, .int .i64 a0_9]] rfl Gv.lm ?_; (with_reducible refine (impl_areBoth.calls a0_0 a0_1 a0_2 a0_3 a0_4 a0_5 a0_6 a0_7 a0_8 a0_9 true _ A2.out).mono ?_); rintro e w16 ⟨rfl, hb⟩; refine ⟨_, rfl, ?_⟩; have n0_ := Gv.a0 (Gv.bb BK323.out hb); have n1_ := Gv.a0 (below_step Gv.bw hb); clear BK323; clear HB; have BK323 := n0_; have HB := n1_; clear n0_ n1_; (try clear hb); (try clear hb2); (try clear hk); (try clear hi); obtain ⟨hcz17_0, hcz17_1, hcz17_2, hcz17_3, hcz17_4, hcz17_5, hcz17_6, hcz17_7, hcz17_8, hcz17_9, hcz17_10, hcz17_11, hcz17_12⟩ := Gv.c13 BK323.out; obtain ⟨hfz17_0, hfz17_1, hfz17_2, hfz17_3, hfz17_4, hfz17_5, hfz17_6, hfz17_7, hfz17_8, hfz17_9, hfz17_10, hfz17_11, hfz17_12⟩ := Gv.f13 BK323.out) | (go_at_call 69; (with_reducible refine (impl_isByte.calls a0_10 false _ A4.out).mono ?_); rintro e w' ⟨rfl, ⟨nd, rfl⟩⟩))
   go_ret
   exact ⟨by first | rfl | (simp [errW_none, errW_some] <;> rfl) | (simp [*, errW_none, errW_some] <;> rfl), by repeat (first | (with_reducible first | exact HB.out | apply below_alloc | apply pw_below_drewN | apply below_drew1 | refine below_set ?_ GE323.out) | exact HB.out)⟩
 ·replace c3 := Bool.eq_false_iff.mpr c3
  subst c3
  have H1 : (some false) = some r := by rw [if_neg (show ¬ (false = true) by decide)] at H; exact H
  clear H
  have H := H1
  clear H1
  obtain rfl := Option.some.inj H
  go_enter Try.func45, Try.ntmps45
  go_wp2_with (first | ((with_reducible refine gate_dst (N := 1) rfl ?_); (try (refine gate_guard (by rfl) ?_; dsimp only)); refine box_event ?hg (N := 1) ?hd (cs := #[.int .i64 a0_0, .int .i64 a0_1, .int .i64 a0_2, .int .i64 a0_3, .int .i64 a0_4, .int .i64 a0_5, .int .i64 a0_6, .int .i64 a0_7, .int .i64 a0_8, .int .i64 a0_9, .int .i64 a0_10, .int .i64 a0_11, .int .i64 a0_12]) (t := 31) ?hr ?_; (case hd => rfl); (case hg => rfl); (case hr => first | (go_simp; done) | (go_simp; rfl)); intro gb323 hg w18 hbox hb; have n0_ := Gv.a0 (below_step Gv.bw hb); have n1_ := Gv.a0 (hbox); have n2_ := Gv.a0 ((Gv.ble hg Gv.bw : w.heap.size ≤ gb323)); have n3_ := Gv.a0 ((Gv.ble hg Gv.bw : w.heap.size ≤ gb323)); clear HB; have HB := n0_; have BK323 := n1_; have GW323 := n2_; have GE323 := n3_; clear n0_ n1_ n2_ n3_; clear hb hbox hg; obtain ⟨hcz19_0, hcz19_1, hcz19_2, hcz19_3, hcz19_4, hcz19_5, hcz19_6, hcz19_7, hcz19_8, hcz19_9, hcz19_10, hcz19_11, hcz19_12⟩ := Gv.c13 BK323.out; obtain ⟨hfz19_0, hfz19_1, hfz19_2, hfz19_3, hfz19_4, hfz19_5, hfz19_6, hfz19_7, hfz19_8, hfz19_9, hfz19_10, hfz19_11, hfz19_12⟩ := Gv.f13 BK323.out) | ((with_reducible refine gate_callee (f := 68) rfl ?_); refine goesL_ (some 7) rfl rfl Try.func68 (by kernel_rfl) rfl #[.agg #[.int .i64 a0_0, .int .i64 a0_1, .int .i64 a0_2, .int .i64 a0_3, .int .i64 a0_4], .agg #[.int .i64 a0_5, .int .i64 a0_6, .int .i64 a0_7, .int .i64 a0_8, .int .i64 a0_9]] rfl Gv.lm ?_; (with_reducible refine (impl_areBoth.calls a0_0 a0_1 a0_2 a0_3 a0_4 a0_5 a0_6 a0_7 a0_8 a0_9 false _ A2.out).mono ?_); rintro e w20 ⟨rfl, hb⟩; refine ⟨_, rfl, ?_⟩; have n0_ := Gv.a0 (Gv.bb BK323.out hb); have n1_ := Gv.a0 (below_step Gv.bw hb); clear BK323; clear HB; have BK323 := n0_; have HB := n1_; clear n0_ n1_; (try clear hb); (try clear hb2); (try clear hk); (try clear hi)))
  go_ret
  exact ⟨by first | rfl | (simp [errW_none, errW_some] <;> rfl) | (simp [*, errW_none, errW_some] <;> rfl), by repeat (first | (with_reducible first | exact HB.out | apply below_alloc | apply pw_below_drewN | apply below_drew1 | refine below_set ?_ GE323.out) | exact HB.out)⟩

/-! ### impl_FlowKeyOk: function 15 -/
def impl_FlowKeyOk.f (k : Nat) (a0_0 : Int) (a0_1 : Int) (a0_2 : Int) (a0_3 : Int) (a0_4 : Int) (a0_5 : Int) (a0_6 : Int) (a0_7 : Int) (a0_8 : Int) (a0_9 : Int) (a0_10 : Int) (a0_11 : Int) (a0_12 : Int) (a0_13 : Int) : Option (Bool) := (impl_within.f a0_0 1 8).bind fun t331 => (if t331 = true then ((impl_KeyOk.f k a0_1 a0_2 a0_3 a0_4 a0_5 a0_6 a0_7 a0_8 a0_9 a0_10 a0_11 a0_12 a0_13).bind fun t332 => (some t332)) else (some false))
theorem impl_FlowKeyOk.mono : ∀ a0 a1 a2 a3 a4 a5 a6 a7 a8 a9 a10 a11 a12 a13 k, LeO (impl_FlowKeyOk.f k a0 a1 a2 a3 a4 a5 a6 a7 a8 a9 a10 a11 a12 a13) (impl_FlowKeyOk.f (k + 1) a0 a1 a2 a3 a4 a5 a6 a7 a8 a9 a10 a11 a12 a13) := by
 intro a0 a1 a2 a3 a4 a5 a6 a7 a8 a9 a10 a11 a12 a13 k
 unfold impl_FlowKeyOk.f
 repeat' first
   | (with_reducible exact impl_KeyOk.mono _ _ _ _ _ _ _ _ _ _ _ _ _ _)
   | (with_reducible exact LeO.refl _)
   | (with_reducible exact LeO.none _)
   | (with_reducible refine LeO.ite ?_ ?_)
   | (with_reducible refine LeO.bind ?_ (fun _ => ?_))
   | exact impl_KeyOk.mono _ _ _ _ _ _ _ _ _ _ _ _ _ _
   | exact LeO.none _
   | refine LeO.ite ?_ ?_
   | refine LeO.bind ?_ (fun _ => ?_)
set_option maxHeartbeats 8000000 in
set_option maxRecDepth 100000 in
theorem impl_FlowKeyOk.calls (k : Nat) (a0_0 : Int) (a0_1 : Int) (a0_2 : Int) (a0_3 : Int) (a0_4 : Int) (a0_5 : Int) (a0_6 : Int) (a0_7 : Int) (a0_8 : Int) (a0_9 : Int) (a0_10 : Int) (a0_11 : Int) (a0_12 : Int) (a0_13 : Int) (r : Bool) (w : World) (h : impl_FlowKeyOk.f k a0_0 a0_1 a0_2 a0_3 a0_4 a0_5 a0_6 a0_7 a0_8 a0_9 a0_10 a0_11 a0_12 a0_13 = some r) :
  Calls Try.prog 15 #[.agg #[.int .i64 a0_0, .int .i64 a0_1, .int .i64 a0_2, .int .i64 a0_3, .int .i64 a0_4, .int .i64 a0_5, .int .i64 a0_6, .int .i64 a0_7, .int .i64 a0_8, .int .i64 a0_9, .int .i64 a0_10, .int .i64 a0_11, .int .i64 a0_12, .int .i64 a0_13]] w fun e w' => e = .returned (.bool r) ∧ Below w.heap.size w w' := by
 have hu33 := Try.underlying33
 have hu31 := Try.underlying31
 have HB := Gv.a0 (Below.refl w.heap.size w)
 have H : ((impl_within.f a0_0 1 8).bind fun t331 => (if t331 = true then ((impl_KeyOk.f k a0_1 a0_2 a0_3 a0_4 a0_5 a0_6 a0_7 a0_8 a0_9 a0_10 a0_11 a0_12 a0_13).bind fun t332 => (some t332)) else (some false))) = some r := h
 clear h
 replace H := Option.bind_eq_some_iff.mp H
 obtain ⟨t331, A20, H⟩ := H
 replace H : (if t331 = true then ((impl_KeyOk.f k a0_1 a0_2 a0_3 a0_4 a0_5 a0_6 a0_7 a0_8 a0_9 a0_10 a0_11 a0_12 a0_13).bind fun t332 => (some t332)) else (some false)) = some r := H
 have A2 := Gv.a0 A20
 clear A20
 by_cases c3 : t331 = true
 ·subst c3
  have H1 : ((impl_KeyOk.f k a0_1 a0_2 a0_3 a0_4 a0_5 a0_6 a0_7 a0_8 a0_9 a0_10 a0_11 a0_12 a0_13).bind fun t332 => (some t332)) = some r := by rw [if_pos rfl] at H; exact H
  clear H
  have H := H1
  clear H1
  replace H := Option.bind_eq_some_iff.mp H
  obtain ⟨t332, A40, H⟩ := H
  replace H : (some t332) = some r := H
  have A4 := Gv.a0 A40
  clear A40
  obtain rfl := Option.some.inj H
  go_enter Try.func15, Try.ntmps15
  go_wp2_with (first | ((with_reducible refine gate_dst (N := 1) rfl ?_); refine box_event ?hg (N := 1) ?hd (cs := #[.int .i64 a0_0, .int .i64 a0_1, .int .i64 a0_2, .int .i64 a0_3, .int .i64 a0_4, .int .i64 a0_5, .int .i64 a0_6, .int .i64 a0_7, .int .i64 a0_8, .int .i64 a0_9, .int .i64 a0_10, .int .i64 a0_11, .int .i64 a0_12, .int .i64 a0_13]) (t := 33) ?hr ?_; (case hd => rfl); (case hg => rfl); (case hr => first | (go_simp; done) | (go_simp; rfl)); intro gb330 hg w5 hbox hb; have n0_ := Gv.a0 (below_step Gv.bw hb); have n1_ := Gv.a0 (hbox); have n2_ := Gv.a0 ((Gv.ble hg Gv.bw : w.heap.size ≤ gb330)); have n3_ := Gv.a0 ((Gv.ble hg Gv.bw : w.heap.size ≤ gb330)); clear HB; have HB := n0_; have BK330 := n1_; have GW330 := n2_; have GE330 := n3_; clear n0_ n1_ n2_ n3_; clear hb hbox hg; obtain ⟨hcz6_0, hcz6_1, hcz6_2, hcz6_3, hcz6_4, hcz6_5, hcz6_6, hcz6_7, hcz6_8, hcz6_9, hcz6_10, hcz6_11, hcz6_12, hcz6_13⟩ := Gv.c14 BK330.out; obtain ⟨hfz6_0, hfz6_1, hfz6_2, hfz6_3, hfz6_4, hfz6_5, hfz6_6, hfz6_7, hfz6_8, hfz6_9, hfz6_10, hfz6_11, hfz6_12, hfz6_13⟩ := Gv.f14 BK330.out) | ((with_reducible refine gate_callee (f := 44) rfl ?_); refine goesL_ (some 5) rfl rfl Try.func44 (by kernel_rfl) rfl #[.int .i64 a0_0, .int .i64 1, .int .i64 8] rfl Gv.lm ?_; (with_reducible refine (impl_within.calls a0_0 1 8 true _ A2.out).mono ?_); rintro e w' ⟨rfl, ⟨nd, rfl⟩⟩; refine ⟨_, rfl, ?_⟩) | (go_at_call 45; (with_reducible refine (impl_KeyOk.calls k a0_1 a0_2 a0_3 a0_4 a0_5 a0_6 a0_7 a0_8 a0_9 a0_10 a0_11 a0_12 a0_13 t332 _ A4.out).mono ?_); rintro e w7 ⟨rfl, hb⟩; have n0_ := Gv.a0 (Gv.bb BK330.out hb); have n1_ := Gv.a0 (below_step Gv.bw hb); clear BK330; clear HB; have BK330 := n0_; have HB := n1_; clear n0_ n1_; (try clear hb); (try clear hb2); (try clear hk); (try clear hi)))
  go_ret
  exact ⟨by first | rfl | (simp [errW_none, errW_some] <;> rfl) | (simp [*, errW_none, errW_some] <;> rfl), by repeat (first | (with_reducible first | exact HB.out | apply below_alloc | apply pw_below_drewN | apply below_drew1 | refine below_set ?_ GE330.out) | exact HB.out)⟩
 ·replace c3 := Bool.eq_false_iff.mpr c3
  subst c3
  have H1 : (some false) = some r := by rw [if_neg (show ¬ (false = true) by decide)] at H; exact H
  clear H
  have H := H1
  clear H1
  obtain rfl := Option.some.inj H
  go_enter Try.func15, Try.ntmps15
  go_wp2_with (first | ((with_reducible refine gate_dst (N := 1) rfl ?_); refine box_event ?hg (N := 1) ?hd (cs := #[.int .i64 a0_0, .int .i64 a0_1, .int .i64 a0_2, .int .i64 a0_3, .int .i64 a0_4, .int .i64 a0_5, .int .i64 a0_6, .int .i64 a0_7, .int .i64 a0_8, .int .i64 a0_9, .int .i64 a0_10, .int .i64 a0_11, .int .i64 a0_12, .int .i64 a0_13]) (t := 33) ?hr ?_; (case hd => rfl); (case hg => rfl); (case hr => first | (go_simp; done) | (go_simp; rfl)); intro gb330 hg w8 hbox hb; have n0_ := Gv.a0 (below_step Gv.bw hb); have n1_ := Gv.a0 (hbox); have n2_ := Gv.a0 ((Gv.ble hg Gv.bw : w.heap.size ≤ gb330)); have n3_ := Gv.a0 ((Gv.ble hg Gv.bw : w.heap.size ≤ gb330)); clear HB; have HB := n0_; have BK330 := n1_; have GW330 := n2_; have GE330 := n3_; clear n0_ n1_ n2_ n3_; clear hb hbox hg; obtain ⟨hcz9_0, hcz9_1, hcz9_2, hcz9_3, hcz9_4, hcz9_5, hcz9_6, hcz9_7, hcz9_8, hcz9_9, hcz9_10, hcz9_11, hcz9_12, hcz9_13⟩ := Gv.c14 BK330.out; obtain ⟨hfz9_0, hfz9_1, hfz9_2, hfz9_3, hfz9_4, hfz9_5, hfz9_6, hfz9_7, hfz9_8, hfz9_9, hfz9_10, hfz9_11, hfz9_12, hfz9_13⟩ := Gv.f14 BK330.out) | ((with_reducible refine gate_callee (f := 44) rfl ?_); refine goesL_ (some 5) rfl rfl Try.func44 (by kernel_rfl) rfl #[.int .i64 a0_0, .int .i64 1, .int .i64 8] rfl Gv.lm ?_; (with_reducible refine (impl_within.calls a0_0 1 8 false _ A2.out).mono ?_); rintro e w' ⟨rfl, ⟨nd, rfl⟩⟩; refine ⟨_, rfl, ?_⟩))
  go_ret
  exact ⟨by first | rfl | (simp [errW_none, errW_some] <;> rfl) | (simp [*, errW_none, errW_some] <;> rfl), by repeat (first | (with_reducible first | exact HB.out | apply below_alloc | apply pw_below_drewN | apply below_drew1 | refine below_set ?_ GE330.out) | exact HB.out)⟩

end Go.Proofs.Ytfnpodebjejhpaa.PTa
