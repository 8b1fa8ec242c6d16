/- Plain Lean functions of a law's Go functions, their contracts, by a program of this session (wip/pr.py over the kit's print). -/
import Derived.Test.YtbpkmdghloapjaaPBcx0
import Derived.Test.YtbpkmdghloapjaaPBcx2
import Derived.Test.YtbpkmdghloapjaaPBcx4
import Derived.Test.YtbpkmdghloapjaaPBcx5
namespace Go.Proofs.Ytbpkmdghloapjaa.PBc
open Go.RowKit Go.Proofs.YtbpkmdghloapjaaW.PrintWords Go.Proofs.YtbpkmdghloapjaaW.PrintLast Go.Proofs.YtbpkmdghloapjaaW.PrintMore
attribute [local go_sem] max2_int min2_int max_two min_two max_three min_three max_four min_four   -- for this text's walks alone
set_option linter.unusedVariables false
set_option linter.unusedSimpArgs false

attribute [local go_sem high] eqA29
/-! ### spec_ModuleOk: function 13 -/
mutual
def spec_ModuleOk.j0 : Nat → Bool → Bool → Int → Int → Int → Int → Int → Int → Int → Int → Int → Int → Int → Int → Int → Int → Int → Int → Int → Option (Bool)
 | 0, _, _, _, _, _, _, _, _, _, _, _, _, _, _, _, _, _, _, _ => none
 | k + 1, x3, x4, x255000, x255001, x255002, x255003, x255004, x255005, x255006, x255007, x255008, x255009, x255010, x255011, x255012, x255013, x255014, x255015, x255016 => if x255000 = 5 then (spec_ModuleOk.j1 k x3 x4 true x255000 x255001 x255002 x255003 x255004 x255005 x255006 x255007 x255008 x255009 x255010 x255011 x255012 x255013 x255014 x255015 x255016) else (spec_ModuleOk.j1 k x3 x4 (x255000 == 7) x255000 x255001 x255002 x255003 x255004 x255005 x255006 x255007 x255008 x255009 x255010 x255011 x255012 x255013 x255014 x255015 x255016)
def spec_ModuleOk.j1 : Nat → Bool → Bool → Bool → Int → Int → Int → Int → Int → Int → Int → Int → Int → Int → Int → Int → Int → Int → Int → Int → Int → Option (Bool)
 | 0, _, _, _, _, _, _, _, _, _, _, _, _, _, _, _, _, _, _, _, _ => none
 | k + 1, x3, x4, x5, x255000, x255001, x255002, x255003, x255004, x255005, x255006, x255007, x255008, x255009, x255010, x255011, x255012, x255013, x255014, x255015, x255016 => if x255000 < 1 then (spec_ModuleOk.j2 k x3 x4 x5 true x255000 x255001 x255002 x255003 x255004 x255005 x255006 x255007 x255008 x255009 x255010 x255011 x255012 x255013 x255014 x255015 x255016) else (spec_ModuleOk.j2 k x3 x4 x5 (decide (x255000 > 7)) x255000 x255001 x255002 x255003 x255004 x255005 x255006 x255007 x255008 x255009 x255010 x255011 x255012 x255013 x255014 x255015 x255016)
def spec_ModuleOk.j2 : Nat → Bool → Bool → Bool → Bool → Int → Int → Int → Int → Int → Int → Int → Int → Int → Int → Int → Int → Int → Int → Int → Int → Int → Option (Bool)
 | 0, _, _, _, _, _, _, _, _, _, _, _, _, _, _, _, _, _, _, _, _, _ => none
 | k + 1, x3, x4, x5, x32, x255000, x255001, x255002, x255003, x255004, x255005, x255006, x255007, x255008, x255009, x255010, x255011, x255012, x255013, x255014, x255015, x255016 => if x32 = true then (some false) else (if x3 = true then (if x5 = true then (spec_ModuleOk.j3 k false x255000 x255001 x255002 x255003 x255004 x255005 x255006 x255007 x255008 x255009 x255010 x255011 x255012 x255013 x255014 x255015 x255016) else (if x255016 = 0 then (spec_ModuleOk.j3 k false x255000 x255001 x255002 x255003 x255004 x255005 x255006 x255007 x255008 x255009 x255010 x255011 x255012 x255013 x255014 x255015 x255016) else (spec_ModuleOk.j3 k true x255000 x255001 x255002 x255003 x255004 x255005 x255006 x255007 x255008 x255009 x255010 x255011 x255012 x255013 x255014 x255015 x255016))) else (if x255013 = 0 then (if x255014 = 0 then (if x255015 = 0 then (if x5 = true then (if x4 = true then (spec_ModuleOk.j3 k false x255000 x255001 x255002 x255003 x255004 x255005 x255006 x255007 x255008 x255009 x255010 x255011 x255012 x255013 x255014 x255015 x255016) else ((spec_l03Any.f x255001 x255002 x255003 x255004 x255005 x255006).bind fun t255 => (if t255 = true then ((spec_l03Any.f x255007 x255008 x255009 x255010 x255011 x255012).bind fun t256 => (spec_ModuleOk.j3 k (!t256) x255000 x255001 x255002 x255003 x255004 x255005 x255006 x255007 x255008 x255009 x255010 x255011 x255012 x255013 x255014 x255015 x255016)) else (spec_ModuleOk.j3 k true x255000 x255001 x255002 x255003 x255004 x255005 x255006 x255007 x255008 x255009 x255010 x255011 x255012 x255013 x255014 x255015 x255016)))) else (if x255016 = 0 then (if x4 = true then (spec_ModuleOk.j3 k false x255000 x255001 x255002 x255003 x255004 x255005 x255006 x255007 x255008 x255009 x255010 x255011 x255012 x255013 x255014 x255015 x255016) else ((spec_l03Any.f x255001 x255002 x255003 x255004 x255005 x255006).bind fun t257 => (if t257 = true then ((spec_l03Any.f x255007 x255008 x255009 x255010 x255011 x255012).bind fun t258 => (spec_ModuleOk.j3 k (!t258) x255000 x255001 x255002 x255003 x255004 x255005 x255006 x255007 x255008 x255009 x255010 x255011 x255012 x255013 x255014 x255015 x255016)) else (spec_ModuleOk.j3 k true x255000 x255001 x255002 x255003 x255004 x255005 x255006 x255007 x255008 x255009 x255010 x255011 x255012 x255013 x255014 x255015 x255016)))) else (spec_ModuleOk.j3 k true x255000 x255001 x255002 x255003 x255004 x255005 x255006 x255007 x255008 x255009 x255010 x255011 x255012 x255013 x255014 x255015 x255016))) else (spec_ModuleOk.j3 k true x255000 x255001 x255002 x255003 x255004 x255005 x255006 x255007 x255008 x255009 x255010 x255011 x255012 x255013 x255014 x255015 x255016)) else (spec_ModuleOk.j3 k true x255000 x255001 x255002 x255003 x255004 x255005 x255006 x255007 x255008 x255009 x255010 x255011 x255012 x255013 x255014 x255015 x255016)) else (spec_ModuleOk.j3 k true x255000 x255001 x255002 x255003 x255004 x255005 x255006 x255007 x255008 x255009 x255010 x255011 x255012 x255013 x255014 x255015 x255016)))
def spec_ModuleOk.j3 : Nat → Bool → Int → Int → Int → Int → Int → Int → Int → Int → Int → Int → Int → Int → Int → Int → Int → Int → Int → Option (Bool)
 | 0, _, _, _, _, _, _, _, _, _, _, _, _, _, _, _, _, _, _ => none
 | k + 1, x78, x255000, x255001, x255002, x255003, x255004, x255005, x255006, x255007, x255008, x255009, x255010, x255011, x255012, x255013, x255014, x255015, x255016 => if x78 = true then (some false) else (if x255000 = 1 then ((spec_PrefixOk.f k x255001 x255002 x255003 x255004 x255005 x255006).bind fun t259 => (if t259 = true then ((spec_PrefixOk.f k x255007 x255008 x255009 x255010 x255011 x255012).bind fun t260 => (if t260 = true then (if x255013 ≥ (-1) then (if x255013 ≤ 255 then ((spec_l09Range.f x255014 x255015).bind fun t261 => (some t261)) else (some false)) else (some false)) else (some false))) else (some false))) else (if x255000 = 2 then (spec_ModuleOk.j4 k x255000 (x255000 == 2) x255000 x255001 x255002 x255003 x255004 x255005 x255006 x255007 x255008 x255009 x255010 x255011 x255012 x255013 x255014 x255015 x255016) else (spec_ModuleOk.j4 k x255000 (x255000 == 3) x255000 x255001 x255002 x255003 x255004 x255005 x255006 x255007 x255008 x255009 x255010 x255011 x255012 x255013 x255014 x255015 x255016)))
def spec_ModuleOk.j4 : Nat → Int → Bool → Int → Int → Int → Int → Int → Int → Int → Int → Int → Int → Int → Int → Int → Int → Int → Int → Int → Option (Bool)
 | 0, _, _, _, _, _, _, _, _, _, _, _, _, _, _, _, _, _, _, _ => none
 | k + 1, x80, x108, x255000, x255001, x255002, x255003, x255004, x255005, x255006, x255007, x255008, x255009, x255010, x255011, x255012, x255013, x255014, x255015, x255016 => if x108 = true then ((spec_l10Twins.f k x255001 x255002 x255003 x255004 x255005 x255006 x255007 x255008 x255009 x255010 x255011 x255012).bind fun t262 => (some t262)) else (if x80 = 5 then ((spec_l05In.f x255016 63).bind fun t263 => (some t263)) else (if x80 = 7 then (if x255016 ≥ 1 then (some (decide (x255016 ≤ 4))) else (some false)) else (some true)))
end
def spec_ModuleOk.f (k : Nat) (a0_0 : Int) (a0_1 : Int) (a0_2 : Int) (a0_3 : Int) (a0_4 : Int) (a0_5 : Int) (a0_6 : Int) (a0_7 : Int) (a0_8 : Int) (a0_9 : Int) (a0_10 : Int) (a0_11 : Int) (a0_12 : Int) (a0_13 : Int) (a0_14 : Int) (a0_15 : Int) (a0_16 : Int) : Option (Bool) := if a0_0 = 2 then (spec_ModuleOk.j0 k (a0_0 == 1) true a0_0 a0_1 a0_2 a0_3 a0_4 a0_5 a0_6 a0_7 a0_8 a0_9 a0_10 a0_11 a0_12 a0_13 a0_14 a0_15 a0_16) else (spec_ModuleOk.j0 k (a0_0 == 1) (a0_0 == 3) a0_0 a0_1 a0_2 a0_3 a0_4 a0_5 a0_6 a0_7 a0_8 a0_9 a0_10 a0_11 a0_12 a0_13 a0_14 a0_15 a0_16)
theorem spec_ModuleOk.mono_l : ∀ k, (∀ y0 y1 y2 y3 y4 y5 y6 y7 y8 y9 y10 y11 y12 y13 y14 y15 y16 y17 y18, LeO (spec_ModuleOk.j0 k y0 y1 y2 y3 y4 y5 y6 y7 y8 y9 y10 y11 y12 y13 y14 y15 y16 y17 y18) (spec_ModuleOk.j0 (k + 1) y0 y1 y2 y3 y4 y5 y6 y7 y8 y9 y10 y11 y12 y13 y14 y15 y16 y17 y18)) ∧ (∀ y0 y1 y2 y3 y4 y5 y6 y7 y8 y9 y10 y11 y12 y13 y14 y15 y16 y17 y18 y19, LeO (spec_ModuleOk.j1 k y0 y1 y2 y3 y4 y5 y6 y7 y8 y9 y10 y11 y12 y13 y14 y15 y16 y17 y18 y19) (spec_ModuleOk.j1 (k + 1) y0 y1 y2 y3 y4 y5 y6 y7 y8 y9 y10 y11 y12 y13 y14 y15 y16 y17 y18 y19)) ∧ (∀ y0 y1 y2 y3 y4 y5 y6 y7 y8 y9 y10 y11 y12 y13 y14 y15 y16 y17 y18 y19 y20, LeO (spec_ModuleOk.j2 k y0 y1 y2 y3 y4 y5 y6 y7 y8 y9 y10 y11 y12 y13 y14 y15 y16 y17 y18 y19 y20) (spec_ModuleOk.j2 (k + 1) y0 y1 y2 y3 y4 y5 y6 y7 y8 y9 y10 y11 y12 y13 y14 y15 y16 y17 y18 y19 y20)) ∧ (∀ y0 y1 y2 y3 y4 y5 y6 y7 y8 y9 y10 y11 y12 y13 y14 y15 y16 y17, LeO (spec_ModuleOk.j3 k y0 y1 y2 y3 y4 y5 y6 y7 y8 y9 y10 y11 y12 y13 y14 y15 y16 y17) (spec_ModuleOk.j3 (k + 1) y0 y1 y2 y3 y4 y5 y6 y7 y8 y9 y10 y11 y12 y13 y14 y15 y16 y17)) ∧ (∀ y0 y1 y2 y3 y4 y5 y6 y7 y8 y9 y10 y11 y12 y13 y14 y15 y16 y17 y18, LeO (spec_ModuleOk.j4 k y0 y1 y2 y3 y4 y5 y6 y7 y8 y9 y10 y11 y12 y13 y14 y15 y16 y17 y18) (spec_ModuleOk.j4 (k + 1) y0 y1 y2 y3 y4 y5 y6 y7 y8 y9 y10 y11 y12 y13 y14 y15 y16 y17 y18))
 | 0 => ⟨fun _ _ _ _ _ _ _ _ _ _ _ _ _ _ _ _ _ _ _ r h => by simp [spec_ModuleOk.j0] at h, fun _ _ _ _ _ _ _ _ _ _ _ _ _ _ _ _ _ _ _ _ r h => by simp [spec_ModuleOk.j1] at h, fun _ _ _ _ _ _ _ _ _ _ _ _ _ _ _ _ _ _ _ _ _ r h => by simp [spec_ModuleOk.j2] at h, fun _ _ _ _ _ _ _ _ _ _ _ _ _ _ _ _ _ _ r h => by simp [spec_ModuleOk.j3] at h, fun _ _ _ _ _ _ _ _ _ _ _ _ _ _ _ _ _ _ _ r h => by simp [spec_ModuleOk.j4] at h⟩
 | k + 1 => by
  obtain ⟨ih0, ih1, ih2, ih3, ih4⟩ := spec_ModuleOk.mono_l k
  refine ⟨?_, ?_, ?_, ?_, ?_⟩
  ·intro y0 y1 y2 y3 y4 y5 y6 y7 y8 y9 y10 y11 y12 y13 y14 y15 y16 y17 y18
   unfold spec_ModuleOk.j0
   repeat' first
   | (with_reducible exact ih0 _ _ _ _ _ _ _ _ _ _ _ _ _ _ _ _ _ _ _)
   | (with_reducible exact ih1 _ _ _ _ _ _ _ _ _ _ _ _ _ _ _ _ _ _ _ _)
   | (with_reducible exact ih2 _ _ _ _ _ _ _ _ _ _ _ _ _ _ _ _ _ _ _ _ _)
   | (with_reducible exact ih3 _ _ _ _ _ _ _ _ _ _ _ _ _ _ _ _ _ _)
   | (with_reducible exact ih4 _ _ _ _ _ _ _ _ _ _ _ _ _ _ _ _ _ _ _)
   | (with_reducible exact spec_PrefixOk.mono _ _ _ _ _ _ _)
   | (with_reducible exact spec_l10Twins.mono _ _ _ _ _ _ _ _ _ _ _ _ _)
   | (with_reducible exact LeO.refl _)
   | (with_reducible exact LeO.none _)
   | (with_reducible refine LeO.ite ?_ ?_)
   | (with_reducible refine LeO.bind ?_ (fun _ => ?_))
   | exact ih0 _ _ _ _ _ _ _ _ _ _ _ _ _ _ _ _ _ _ _
   | exact ih1 _ _ _ _ _ _ _ _ _ _ _ _ _ _ _ _ _ _ _ _
   | exact ih2 _ _ _ _ _ _ _ _ _ _ _ _ _ _ _ _ _ _ _ _ _
   | exact ih3 _ _ _ _ _ _ _ _ _ _ _ _ _ _ _ _ _ _
   | exact ih4 _ _ _ _ _ _ _ _ _ _ _ _ _ _ _ _ _ _ _
   | exact spec_PrefixOk.mono _ _ _ _ _ _ _
   | exact spec_l10Twins.mono _ _ _ _ _ _ _ _ _ _ _ _ _
   | exact LeO.none _
   | refine LeO.ite ?_ ?_
   | refine LeO.bind ?_ (fun _ => ?_)
  ·intro y0 y1 y2 y3 y4 y5 y6 y7 y8 y9 y10 y11 y12 y13 y14 y15 y16 y17 y18 y19
   unfold spec_ModuleOk.j1
   repeat' first
   | (with_reducible exact ih0 _ _ _ _ _ _ _ _ _ _ _ _ _ _ _ _ _ _ _)
   | (with_reducible exact ih1 _ _ _ _ _ _ _ _ _ _ _ _ _ _ _ _ _ _ _ _)
   | (with_reducible exact ih2 _ _ _ _ _ _ _ _ _ _ _ _ _ _ _ _ _ _ _ _ _)
   | (with_reducible exact ih3 _ _ _ _ _ _ _ _ _ _ _ _ _ _ _ _ _ _)
   | (with_reducible exact ih4 _ _ _ _ _ _ _ _ _ _ _ _ _ _ _ _ _ _ _)
   | (with_reducible exact spec_PrefixOk.mono _ _ _ _ _ _ _)
   | (with_reducible exact spec_l10Twins.mono _ _ _ _ _ _ _ _ _ _ _ _ _)
   | (with_reducible exact LeO.refl _)
   | (with_reducible exact LeO.none _)
   | (with_reducible refine LeO.ite ?_ ?_)
   | (with_reducible refine LeO.bind ?_ (fun _ => ?_))
   | exact ih0 _ _ _ _ _ _ _ _ _ _ _ _ _ _ _ _ _ _ _
   | exact ih1 _ _ _ _ _ _ _ _ _ _ _ _ _ _ _ _ _ _ _ _
   | exact ih2 _ _ _ _ _ _ _ _ _ _ _ _ _ _ _ _ _ _ _ _ _
   | exact ih3 _ _ _ _ _ _ _ _ _ _ _ _ _ _ _ _ _ _
   | exact ih4 _ _ _ _ _ _ _ _ _ _ _ _ _ _ _ _ _ _ _
   | exact spec_PrefixOk.mono _ _ _ _ _ _ _
   | exact spec_l10Twins.mono _ _ _ _ _ _ _ _ _ _ _ _ _
   | exact LeO.none _
   | refine LeO.ite ?_ ?_
   | refine LeO.bind ?_ (fun _ => ?_)
  ·intro y0 y1 y2 y3 y4 y5 y6 y7 y8 y9 y10 y11 y12 y13 y14 y15 y16 y17 y18 y19 y20
   unfold spec_ModuleOk.j2
   repeat' first
   | (with_reducible exact ih0 _ _ _ _ _ _ _ _ _ _ _ _ _ _ _ _ _ _ _)
   | (with_reducible exact ih1 _ _ _ _ _ _ _ _ _ _ _ _ _ _ _ _ _ _ _ _)
   | (with_reducible exact ih2 _ _ _ _ _ _ _ _ _ _ _ _ _ _ _ _ _ _ _ _ _)
   | (with_reducible exact ih3 _ _ _ _ _ _ _ _ _ _ _ _ _ _ _ _ _ _)
   | (with_reducible exact ih4 _ _ _ _ _ _ _ _ _ _ _ _ _ _ _ _ _ _ _)
   | (with_reducible exact spec_PrefixOk.mono _ _ _ _ _ _ _)
   | (with_reducible exact spec_l10Twins.mono _ _ _ _ _ _ _ _ _ _ _ _ _)
   | (with_reducible exact LeO.refl _)
   | (with_reducible exact LeO.none _)
   | (with_reducible refine LeO.ite ?_ ?_)
   | (with_reducible refine LeO.bind ?_ (fun _ => ?_))
   | exact ih0 _ _ _ _ _ _ _ _ _ _ _ _ _ _ _ _ _ _ _
   | exact ih1 _ _ _ _ _ _ _ _ _ _ _ _ _ _ _ _ _ _ _ _
   | exact ih2 _ _ _ _ _ _ _ _ _ _ _ _ _ _ _ _ _ _ _ _ _
   | exact ih3 _ _ _ _ _ _ _ _ _ _ _ _ _ _ _ _ _ _
   | exact ih4 _ _ _ _ _ _ _ _ _ _ _ _ _ _ _ _ _ _ _
   | exact spec_PrefixOk.mono _ _ _ _ _ _ _
   | exact spec_l10Twins.mono _ _ _ _ _ _ _ _ _ _ _ _ _
   | exact LeO.none _
   | refine LeO.ite ?_ ?_
   | refine LeO.bind ?_ (fun _ => ?_)
  ·intro y0 y1 y2 y3 y4 y5 y6 y7 y8 y9 y10 y11 y12 y13 y14 y15 y16 y17
   unfold spec_ModuleOk.j3
   repeat' first
   | (with_reducible exact ih0 _ _ _ _ _ _ _ _ _ _ _ _ _ _ _ _ _ _ _)
   | (with_reducible exact ih1 _ _ _ _ _ _ _ _ _ _ _ _ _ _ _ _ _ _ _ _)
   | (with_reducible exact ih2 _ _ _ _ _ _ _ _ _ _ _ _ _ _ _ _ _ _ _ _ _)
   | (with_reducible exact ih3 _ _ _ _ _ _ _ _ _ _ _ _ _ _ _ _ _ _)
   | (with_reducible exact ih4 _ _ _ _ _ _ _ _ _ _ _ _ _ _ _ _ _ _ _)
   | (with_reducible exact spec_PrefixOk.mono _ _ _ _ _ _ _)
   | (with_reducible exact spec_l10Twins.mono _ _ _ _ _ _ _ _ _ _ _ _ _)
   | (with_reducible exact LeO.refl _)
   | (with_reducible exact LeO.none _)
   | (with_reducible refine LeO.ite ?_ ?_)
   | (with_reducible refine LeO.bind ?_ (fun _ => ?_))
   | exact ih0 _ _ _ _ _ _ _ _ _ _ _ _ _ _ _ _ _ _ _
   | exact ih1 _ _ _ _ _ _ _ _ _ _ _ _ _ _ _ _ _ _ _ _
   | exact ih2 _ _ _ _ _ _ _ _ _ _ _ _ _ _ _ _ _ _ _ _ _
   | exact ih3 _ _ _ _ _ _ _ _ _ _ _ _ _ _ _ _ _ _
   | exact ih4 _ _ _ _ _ _ _ _ _ _ _ _ _ _ _ _ _ _ _
   | exact spec_PrefixOk.mono _ _ _ _ _ _ _
   | exact spec_l10Twins.mono _ _ _ _ _ _ _ _ _ _ _ _ _
   | exact LeO.none _
   | refine LeO.ite ?_ ?_
   | refine LeO.bind ?_ (fun _ => ?_)
  ·intro y0 y1 y2 y3 y4 y5 y6 y7 y8 y9 y10 y11 y12 y13 y14 y15 y16 y17 y18
   unfold spec_ModuleOk.j4
   repeat' first
   | (with_reducible exact ih0 _ _ _ _ _ _ _ _ _ _ _ _ _ _ _ _ _ _ _)
   | (with_reducible exact ih1 _ _ _ _ _ _ _ _ _ _ _ _ _ _ _ _ _ _ _ _)
   | (with_reducible exact ih2 _ _ _ _ _ _ _ _ _ _ _ _ _ _ _ _ _ _ _ _ _)
   | (with_reducible exact ih3 _ _ _ _ _ _ _ _ _ _ _ _ _ _ _ _ _ _)
   | (with_reducible exact ih4 _ _ _ _ _ _ _ _ _ _ _ _ _ _ _ _ _ _ _)
   | (with_reducible exact spec_PrefixOk.mono _ _ _ _ _ _ _)
   | (with_reducible exact spec_l10Twins.mono _ _ _ _ _ _ _ _ _ _ _ _ _)
   | (with_reducible exact LeO.refl _)
   | (with_reducible exact LeO.none _)
   | (with_reducible refine LeO.ite ?_ ?_)
   | (with_reducible refine LeO.bind ?_ (fun _ => ?_))
   | exact ih0 _ _ _ _ _ _ _ _ _ _ _ _ _ _ _ _ _ _ _
   | exact ih1 _ _ _ _ _ _ _ _ _ _ _ _ _ _ _ _ _ _ _ _
   | exact ih2 _ _ _ _ _ _ _ _ _ _ _ _ _ _ _ _ _ _ _ _ _
   | exact ih3 _ _ _ _ _ _ _ _ _ _ _ _ _ _ _ _ _ _
   | exact ih4 _ _ _ _ _ _ _ _ _ _ _ _ _ _ _ _ _ _ _
   | exact spec_PrefixOk.mono _ _ _ _ _ _ _
   | exact spec_l10Twins.mono _ _ _ _ _ _ _ _ _ _ _ _ _
   | exact LeO.none _
   | refine LeO.ite ?_ ?_
   | refine LeO.bind ?_ (fun _ => ?_)
theorem spec_ModuleOk.mono : ∀ a0 a1 a2 a3 a4 a5 a6 a7 a8 a9 a10 a11 a12 a13 a14 a15 a16 k, LeO (spec_ModuleOk.f k a0 a1 a2 a3 a4 a5 a6 a7 a8 a9 a10 a11 a12 a13 a14 a15 a16) (spec_ModuleOk.f (k + 1) a0 a1 a2 a3 a4 a5 a6 a7 a8 a9 a10 a11 a12 a13 a14 a15 a16) := by
 intro a0 a1 a2 a3 a4 a5 a6 a7 a8 a9 a10 a11 a12 a13 a14 a15 a16 k
 obtain ⟨ih0, ih1, ih2, ih3, ih4⟩ := spec_ModuleOk.mono_l k
 unfold spec_ModuleOk.f
 repeat' first
   | (with_reducible exact ih0 _ _ _ _ _ _ _ _ _ _ _ _ _ _ _ _ _ _ _)
   | (with_reducible exact ih1 _ _ _ _ _ _ _ _ _ _ _ _ _ _ _ _ _ _ _ _)
   | (with_reducible exact ih2 _ _ _ _ _ _ _ _ _ _ _ _ _ _ _ _ _ _ _ _ _)
   | (with_reducible exact ih3 _ _ _ _ _ _ _ _ _ _ _ _ _ _ _ _ _ _)
   | (with_reducible exact ih4 _ _ _ _ _ _ _ _ _ _ _ _ _ _ _ _ _ _ _)
   | (with_reducible exact spec_PrefixOk.mono _ _ _ _ _ _ _)
   | (with_reducible exact spec_l10Twins.mono _ _ _ _ _ _ _ _ _ _ _ _ _)
   | (with_reducible exact LeO.refl _)
   | (with_reducible exact LeO.none _)
   | (with_reducible refine LeO.ite ?_ ?_)
   | (with_reducible refine LeO.bind ?_ (fun _ => ?_))
   | exact ih0 _ _ _ _ _ _ _ _ _ _ _ _ _ _ _ _ _ _ _
   | exact ih1 _ _ _ _ _ _ _ _ _ _ _ _ _ _ _ _ _ _ _ _
   | exact ih2 _ _ _ _ _ _ _ _ _ _ _ _ _ _ _ _ _ _ _ _ _
   | exact ih3 _ _ _ _ _ _ _ _ _ _ _ _ _ _ _ _ _ _
   | exact ih4 _ _ _ _ _ _ _ _ _ _ _ _ _ _ _ _ _ _ _
   | exact spec_PrefixOk.mono _ _ _ _ _ _ _
   | exact spec_l10Twins.mono _ _ _ _ _ _ _ _ _ _ _ _ _
   | exact LeO.none _
   | refine LeO.ite ?_ ?_
   | refine LeO.bind ?_ (fun _ => ?_)
set_option maxHeartbeats 8000000 in
set_option maxRecDepth 100000 in
theorem spec_ModuleOk.calls (k : Nat) (a0_0 : Int) (a0_1 : Int) (a0_2 : Int) (a0_3 : Int) (a0_4 : Int) (a0_5 : Int) (a0_6 : Int) (a0_7 : Int) (a0_8 : Int) (a0_9 : Int) (a0_10 : Int) (a0_11 : Int) (a0_12 : Int) (a0_13 : Int) (a0_14 : Int) (a0_15 : Int) (a0_16 : Int) (r : Bool) (w : World) (h : spec_ModuleOk.f k a0_0 a0_1 a0_2 a0_3 a0_4 a0_5 a0_6 a0_7 a0_8 a0_9 a0_10 a0_11 a0_12 a0_13 a0_14 a0_15 a0_16 = some r) :
  Calls Try.prog 13 #[.agg #[.int .i64 a0_0, .int .i64 a0_1, .int .i64 a0_2, .int .i64 a0_3, .int .i64 a0_4, .int .i64 a0_5, .int .i64 a0_6, .int .i64 a0_7, .int .i64 a0_8, .int .i64 a0_9, .int .i64 a0_10, .int .i64 a0_11, .int .i64 a0_12, .int .i64 a0_13, .int .i64 a0_14, .int .i64 a0_15, .int .i64 a0_16]] w fun e w' => e = .returned (.bool r) ∧ Below w.heap.size w w' := by
 have hu38 := Try.underlying38
 have hu29 := Try.underlying29
 have HB := Gv.a0 (Below.refl w.heap.size w)
 have H : (if a0_0 = 2 then (spec_ModuleOk.j0 k (a0_0 == 1) true a0_0 a0_1 a0_2 a0_3 a0_4 a0_5 a0_6 a0_7 a0_8 a0_9 a0_10 a0_11 a0_12 a0_13 a0_14 a0_15 a0_16) else (spec_ModuleOk.j0 k (a0_0 == 1) (a0_0 == 3) a0_0 a0_1 a0_2 a0_3 a0_4 a0_5 a0_6 a0_7 a0_8 a0_9 a0_10 a0_11 a0_12 a0_13 a0_14 a0_15 a0_16)) = some r := h
 clear h
 have HC2 := Gv.a0 H
 clear H
 go_enter Try.func13, Try.ntmps13
 go_upto_region 2 with (first | ((with_reducible refine gate_dst (N := 1) rfl ?_); refine box_event ?hg (N := 1) ?hd (cs := #[.int .i64 a0_0, .int .i64 a0_1, .int .i64 a0_2, .int .i64 a0_3, .int .i64 a0_4, .int .i64 a0_5, .int .i64 a0_6, .int .i64 a0_7, .int .i64 a0_8, .int .i64 a0_9, .int .i64 a0_10, .int .i64 a0_11, .int .i64 a0_12, .int .i64 a0_13, .int .i64 a0_14, .int .i64 a0_15, .int .i64 a0_16]) (t := 38) ?hr ?_; (case hd => rfl); (case hg => rfl); (case hr => first | (go_simp; done) | (go_simp; rfl)); intro gb254 hg w3 hbox hb; have n0_ := Gv.a0 (below_step Gv.bw hb); have n1_ := Gv.a0 (hbox); have n2_ := Gv.a0 ((Gv.ble hg Gv.bw : w.heap.size ≤ gb254)); have n3_ := Gv.a0 ((Gv.ble hg Gv.bw : w.heap.size ≤ gb254)); clear HB; have HB := n0_; have BK254 := n1_; have GW254 := n2_; have GE254 := n3_; clear n0_ n1_ n2_ n3_; clear hb hbox hg; obtain ⟨hcz4_0, hcz4_1, hcz4_2, hcz4_3, hcz4_4, hcz4_5, hcz4_6, hcz4_7, hcz4_8, hcz4_9, hcz4_10, hcz4_11, hcz4_12, hcz4_13, hcz4_14, hcz4_15, hcz4_16⟩ := Gv.c17 BK254.out) | ((with_reducible refine gate_store (t := 38) (p := 1) rfl ?_); refine Gv.store_event rfl rfl rfl rfl rfl (Gv.kb BK254.out) (by kernel_rfl) rfl (by simp; and_intros <;> rfl) ?_; intro w3s hbox hoth hbel; have n0_ := Gv.a0 (hbox); have n1_ := Gv.a0 (hbel w Gv.bw GE254.out); clear BK254 HB; have BK254 := n0_; have HB := n1_; clear n0_ n1_ hbox hoth hbel; (try clear hcz4_0 hcz4_1 hcz4_2 hcz4_3 hcz4_4 hcz4_5 hcz4_6 hcz4_7 hcz4_8 hcz4_9 hcz4_10 hcz4_11 hcz4_12 hcz4_13 hcz4_14 hcz4_15 hcz4_16); obtain ⟨hcz4_0, hcz4_1, hcz4_2, hcz4_3, hcz4_4, hcz4_5, hcz4_6, hcz4_7, hcz4_8, hcz4_9, hcz4_10, hcz4_11, hcz4_12, hcz4_13, hcz4_14, hcz4_15, hcz4_16⟩ := Gv.c17 BK254.out) | ((with_reducible refine Gv.gate_load (t := 38) rfl ?_); (try (refine gate_guard (by rfl) ?_; dsimp only)); refine wpList_load_row rfl 38 _ rfl gb254 rfl 38 _ _ _ (by first | exact Gv.kb0 BK254.out | exact Gv.kb1 (Gv.kb0 BK254.out)) Try.underlying38 rfl (by kernel_rfl) ?_))
 (try simp only [Act.put, List.setIfInBounds_toArray, List.set_cons_zero, List.set_cons_succ])
 go_cut [4] (fun v4 wc => ∃ (kq : Nat) (x4_1 : Bool), v4 = .bool x4_1 ∧ Aside0 (spec_ModuleOk.j0 kq (a0_0 == 1) x4_1 a0_0 a0_1 a0_2 a0_3 a0_4 a0_5 a0_6 a0_7 a0_8 a0_9 a0_10 a0_11 a0_12 a0_13 a0_14 a0_15 a0_16 = some r) ∧ Aside0 (kq ≤ k) ∧ Aside0 (wc.heap[gb254]? = some (.cells #[.int .i64 a0_0, .int .i64 a0_1, .int .i64 a0_2, .int .i64 a0_3, .int .i64 a0_4, .int .i64 a0_5, .int .i64 a0_6, .int .i64 a0_7, .int .i64 a0_8, .int .i64 a0_9, .int .i64 a0_10, .int .i64 a0_11, .int .i64 a0_12, .int .i64 a0_13, .int .i64 a0_14, .int .i64 a0_15, .int .i64 a0_16] 38 (0, 0))) ∧ Aside0 (Below w.heap.size w wc))
 case first =>
  have H := HC2.out
  clear HC2
  by_cases c5 : a0_0 = 2
  ·rw [if_pos c5] at H
   have c5b0 : (a0_0 == 2) = true := beq_iff_eq.mpr c5
   have c5b1 : (a0_0 != 2) = false := bne_eq_false_iff_eq.mpr c5
   clear c5
   (first | rw [c5b0] | (simp only [i64_w, i32_w]; rw [c5b0]) | skip)
   have H' := Gv.a0 H
   clear H
   obtain ⟨hcz6_0, hcz6_1, hcz6_2, hcz6_3, hcz6_4, hcz6_5, hcz6_6, hcz6_7, hcz6_8, hcz6_9, hcz6_10, hcz6_11, hcz6_12, hcz6_13, hcz6_14, hcz6_15, hcz6_16⟩ := Gv.c17 BK254.out
   go_wp2_with (first | ((with_reducible refine Gv.gate_load (t := 38) rfl ?_); (try (refine gate_guard (by rfl) ?_; dsimp only)); refine wpList_load_row rfl 38 _ rfl gb254 rfl 38 _ _ _ (by first | exact Gv.kb0 BK254.out | exact Gv.kb1 (Gv.kb0 BK254.out)) Try.underlying38 rfl (by kernel_rfl) ?_))
   refine Met.intro ?_
   go_step
   (repeat apply Exists.intro)
   refine ⟨?rel, ?eq_⟩
   case eq_ => first | rfl | (rw [c5b0]; rfl) | (simp only [c5b0]; rfl)
   case rel => exact ⟨_, (true), Gv.rq, H', ⟨by first | omega | exact Nat.le_refl _⟩, ⟨by (with_reducible repeat (first | refine blk_drewN ?_ _ | refine blk_drew ?_ | refine blk_alloc ?_ _)); exact BK254.out⟩, ⟨Gv.bw⟩⟩
  ·rw [if_neg c5] at H
   have c5b0 : (a0_0 == 2) = false := beq_eq_false_iff_ne.mpr c5
   have c5b1 : (a0_0 != 2) = true := bne_iff_ne.mpr c5
   (first | rw [c5b0] | (simp only [i64_w, i32_w]; rw [c5b0]) | skip)
   have H' := Gv.a0 H
   clear H
   obtain ⟨hcz7_0, hcz7_1, hcz7_2, hcz7_3, hcz7_4, hcz7_5, hcz7_6, hcz7_7, hcz7_8, hcz7_9, hcz7_10, hcz7_11, hcz7_12, hcz7_13, hcz7_14, hcz7_15, hcz7_16⟩ := Gv.c17 BK254.out
   go_wp2_with (first | ((with_reducible refine Gv.gate_load (t := 38) rfl ?_); (try (refine gate_guard (by rfl) ?_; dsimp only)); refine wpList_load_row rfl 38 _ rfl gb254 rfl 38 _ _ _ (by first | exact Gv.kb0 BK254.out | exact Gv.kb1 (Gv.kb0 BK254.out)) Try.underlying38 rfl (by kernel_rfl) ?_))
   refine Met.intro ?_
   go_step
   (repeat apply Exists.intro)
   refine ⟨?rel, ?eq_⟩
   case eq_ => first | rfl | (rw [c5b0]; rfl) | (simp only [c5b0]; rfl)
   case rel => exact ⟨_, ((a0_0 == 3)), Gv.rq, H', ⟨by first | omega | exact Nat.le_refl _⟩, ⟨by (with_reducible repeat (first | refine blk_drewN ?_ _ | refine blk_drew ?_ | refine blk_alloc ?_ _)); exact BK254.out⟩, ⟨Gv.bw⟩⟩
 case rest =>
  clear HC2
  try clear c1
  try clear p2
  try clear c5
  try clear c5b0
  try clear c5b1
  try clear hcz4_0 hcz4_1
  try clear hcz4_10 hcz4_11 hcz4_12 hcz4_13 hcz4_14 hcz4_15 hcz4_16
  try clear hcz4_2 hcz4_3 hcz4_4 hcz4_5 hcz4_6 hcz4_7 hcz4_8 hcz4_9
  try clear hcz6_0 hcz6_1
  try clear hcz6_10 hcz6_11 hcz6_12 hcz6_13 hcz6_14 hcz6_15 hcz6_16
  try clear hcz6_2 hcz6_3 hcz6_4 hcz6_5 hcz6_6 hcz6_7 hcz6_8 hcz6_9
  try clear hcz7_0 hcz7_1
  try clear hcz7_10 hcz7_11 hcz7_12 hcz7_13 hcz7_14 hcz7_15 hcz7_16
  try clear hcz7_2 hcz7_3 hcz7_4 hcz7_5 hcz7_6 hcz7_7 hcz7_8 hcz7_9
  obtain ⟨kq, x4_1, rfl, HA, HJ1, BK254, HB⟩ := hcut
  cases kq with
  | zero => exact absurd HA.out (by simp [spec_ModuleOk.j0])
  | succ kj1 =>
   have H := HA.out
   clear HA
   simp only [spec_ModuleOk.j0] at H
   have HC8 := Gv.a0 H
   clear H
   go_upto_region 3 with (fail)
   go_cut [5] (fun v5 wc => ∃ (kq : Nat) (x5_7 : Bool), v5 = .bool x5_7 ∧ Aside0 (spec_ModuleOk.j1 kq (a0_0 == 1) x4_1 x5_7 a0_0 a0_1 a0_2 a0_3 a0_4 a0_5 a0_6 a0_7 a0_8 a0_9 a0_10 a0_11 a0_12 a0_13 a0_14 a0_15 a0_16 = some r) ∧ Aside0 (kq ≤ kj1) ∧ Aside0 (wc.heap[gb254]? = some (.cells #[.int .i64 a0_0, .int .i64 a0_1, .int .i64 a0_2, .int .i64 a0_3, .int .i64 a0_4, .int .i64 a0_5, .int .i64 a0_6, .int .i64 a0_7, .int .i64 a0_8, .int .i64 a0_9, .int .i64 a0_10, .int .i64 a0_11, .int .i64 a0_12, .int .i64 a0_13, .int .i64 a0_14, .int .i64 a0_15, .int .i64 a0_16] 38 (0, 0))) ∧ Aside0 (Below w.heap.size w wc))
   case first =>
    have H := HC8.out
    clear HC8
    by_cases c9 : a0_0 = 5
    ·rw [if_pos c9] at H
     have c9b0 : (a0_0 == 5) = true := beq_iff_eq.mpr c9
     have c9b1 : (a0_0 != 5) = false := bne_eq_false_iff_eq.mpr c9
     clear c9
     (first | rw [c9b0] | (simp only [i64_w, i32_w]; rw [c9b0]) | skip)
     have H' := Gv.a0 H
     clear H
     obtain ⟨hcz10_0, hcz10_1, hcz10_2, hcz10_3, hcz10_4, hcz10_5, hcz10_6, hcz10_7, hcz10_8, hcz10_9, hcz10_10, hcz10_11, hcz10_12, hcz10_13, hcz10_14, hcz10_15, hcz10_16⟩ := Gv.c17 BK254.out
     go_wp2_with (first | ((with_reducible refine Gv.gate_load (t := 38) rfl ?_); (try (refine gate_guard (by rfl) ?_; dsimp only)); refine wpList_load_row rfl 38 _ rfl gb254 rfl 38 _ _ _ (by first | exact Gv.kb0 BK254.out | exact Gv.kb1 (Gv.kb0 BK254.out)) Try.underlying38 rfl (by kernel_rfl) ?_))
     refine Met.intro ?_
     go_step
     (repeat apply Exists.intro)
     refine ⟨?rel, ?eq_⟩
     case eq_ => first | rfl | (rw [c9b0]; rfl) | (simp only [c9b0]; rfl)
     case rel => exact ⟨_, (true), Gv.rq, H', ⟨by have := HJ1.out; first | omega | exact Nat.le_refl _⟩, ⟨by (with_reducible repeat (first | refine blk_drewN ?_ _ | refine blk_drew ?_ | refine blk_alloc ?_ _)); exact BK254.out⟩, ⟨Gv.bw⟩⟩
    ·rw [if_neg c9] at H
     have c9b0 : (a0_0 == 5) = false := beq_eq_false_iff_ne.mpr c9
     have c9b1 : (a0_0 != 5) = true := bne_iff_ne.mpr c9
     (first | rw [c9b0] | (simp only [i64_w, i32_w]; rw [c9b0]) | skip)
     have H' := Gv.a0 H
     clear H
     obtain ⟨hcz11_0, hcz11_1, hcz11_2, hcz11_3, hcz11_4, hcz11_5, hcz11_6, hcz11_7, hcz11_8, hcz11_9, hcz11_10, hcz11_11, hcz11_12, hcz11_13, hcz11_14, hcz11_15, hcz11_16⟩ := Gv.c17 BK254.out
     go_wp2_with (first | ((with_reducible refine Gv.gate_load (t := 38) rfl ?_); (try (refine gate_guard (by rfl) ?_; dsimp only)); refine wpList_load_row rfl 38 _ rfl gb254 rfl 38 _ _ _ (by first | exact Gv.kb0 BK254.out | exact Gv.kb1 (Gv.kb0 BK254.out)) Try.underlying38 rfl (by kernel_rfl) ?_))
     refine Met.intro ?_
     go_step
     (repeat apply Exists.intro)
     refine ⟨?rel, ?eq_⟩
     case eq_ => first | rfl | (rw [c9b0]; rfl) | (simp only [c9b0]; rfl)
     case rel => exact ⟨_, ((a0_0 == 7)), Gv.rq, H', ⟨by have := HJ1.out; first | omega | exact Nat.le_refl _⟩, ⟨by (with_reducible repeat (first | refine blk_drewN ?_ _ | refine blk_drew ?_ | refine blk_alloc ?_ _)); exact BK254.out⟩, ⟨Gv.bw⟩⟩
   case rest =>
    clear HC8
    try clear c1
    try clear p2
    try clear c5
    try clear c5b0
    try clear c5b1
    try clear c9
    try clear c9b0
    try clear c9b1
    try clear hcz10_0 hcz10_1
    try clear hcz10_10 hcz10_11 hcz10_12 hcz10_13 hcz10_14 hcz10_15 hcz10_16
    try clear hcz10_2 hcz10_3 hcz10_4 hcz10_5 hcz10_6 hcz10_7 hcz10_8 hcz10_9
    try clear hcz11_0 hcz11_1
    try clear hcz11_10 hcz11_11 hcz11_12 hcz11_13 hcz11_14 hcz11_15 hcz11_16
    try clear hcz11_2 hcz11_3 hcz11_4 hcz11_5 hcz11_6 hcz11_7 hcz11_8 hcz11_9
    try clear hcz4_0 hcz4_1
    try clear hcz4_10 hcz4_11 hcz4_12 hcz4_13 hcz4_14 hcz4_15 hcz4_16
    try clear hcz4_2 hcz4_3 hcz4_4 hcz4_5 hcz4_6 hcz4_7 hcz4_8 hcz4_9
    try clear hcz6_0 hcz6_1
    try clear hcz6_10 hcz6_11 hcz6_12 hcz6_13 hcz6_14 hcz6_15 hcz6_16
    try clear hcz6_2 hcz6_3 hcz6_4 hcz6_5 hcz6_6 hcz6_7 hcz6_8 hcz6_9
    try clear hcz7_0 hcz7_1
    try clear hcz7_10 hcz7_11 hcz7_12 hcz7_13 hcz7_14 hcz7_15 hcz7_16
    try clear hcz7_2 hcz7_3 hcz7_4 hcz7_5 hcz7_6 hcz7_7 hcz7_8 hcz7_9
    try clear p2
    obtain ⟨kq, x5_7, rfl, HA, HJ7, BK254, HB⟩ := hcut
    cases kq with
    | zero => exact absurd HA.out (by simp [spec_ModuleOk.j1])
    | succ kj7 =>
     have H := HA.out
     clear HA
     simp only [spec_ModuleOk.j1] at H
     have HC12 := Gv.a0 H
     clear H
     go_upto_region 4 with (fail)
     go_cut [32] (fun v32 wc => ∃ (kq : Nat) (x32_11 : Bool), v32 = .bool x32_11 ∧ Aside0 (spec_ModuleOk.j2 kq (a0_0 == 1) x4_1 x5_7 x32_11 a0_0 a0_1 a0_2 a0_3 a0_4 a0_5 a0_6 a0_7 a0_8 a0_9 a0_10 a0_11 a0_12 a0_13 a0_14 a0_15 a0_16 = some r) ∧ Aside0 (kq ≤ kj7) ∧ Aside0 (wc.heap[gb254]? = some (.cells #[.int .i64 a0_0, .int .i64 a0_1, .int .i64 a0_2, .int .i64 a0_3, .int .i64 a0_4, .int .i64 a0_5, .int .i64 a0_6, .int .i64 a0_7, .int .i64 a0_8, .int .i64 a0_9, .int .i64 a0_10, .int .i64 a0_11, .int .i64 a0_12, .int .i64 a0_13, .int .i64 a0_14, .int .i64 a0_15, .int .i64 a0_16] 38 (0, 0))) ∧ Aside0 (Below w.heap.size w wc))
     case first =>
      have H := HC12.out
      clear HC12
      by_cases c13 : a0_0 < 1
      ·rw [if_pos c13] at H
       have c13b0 : decide (a0_0 < 1) = true := decide_eq_true c13
       clear c13
       (first | rw [c13b0] | (simp only [i64_w, i32_w]; rw [c13b0]) | skip)
       have H' := Gv.a0 H
       clear H
       obtain ⟨hcz14_0, hcz14_1, hcz14_2, hcz14_3, hcz14_4, hcz14_5, hcz14_6, hcz14_7, hcz14_8, hcz14_9, hcz14_10, hcz14_11, hcz14_12, hcz14_13, hcz14_14, hcz14_15, hcz14_16⟩ := Gv.c17 BK254.out
       go_wp2_with (first | ((with_reducible refine Gv.gate_load (t := 38) rfl ?_); (try (refine gate_guard (by rfl) ?_; dsimp only)); refine wpList_load_row rfl 38 _ rfl gb254 rfl 38 _ _ _ (by first | exact Gv.kb0 BK254.out | exact Gv.kb1 (Gv.kb0 BK254.out)) Try.underlying38 rfl (by kernel_rfl) ?_))
       go_meet
       case rel => exact ⟨_, (true), Gv.rq, H', ⟨by have := HJ1.out; have := HJ7.out; first | omega | exact Nat.le_refl _⟩, ⟨by (with_reducible repeat (first | refine blk_drewN ?_ _ | refine blk_drew ?_ | refine blk_alloc ?_ _)); exact BK254.out⟩, ⟨Gv.bw⟩⟩
      ·rw [if_neg c13] at H
       have c13b0 : decide (a0_0 < 1) = false := decide_eq_false c13
       clear c13
       (first | rw [c13b0] | (simp only [i64_w, i32_w]; rw [c13b0]) | skip)
       have H' := Gv.a0 H
       clear H
       obtain ⟨hcz15_0, hcz15_1, hcz15_2, hcz15_3, hcz15_4, hcz15_5, hcz15_6, hcz15_7, hcz15_8, hcz15_9, hcz15_10, hcz15_11, hcz15_12, hcz15_13, hcz15_14, hcz15_15, hcz15_16⟩ := Gv.c17 BK254.out
       go_wp2_with (first | ((with_reducible refine Gv.gate_load (t := 38) rfl ?_); (try (refine gate_guard (by rfl) ?_; dsimp only)); refine wpList_load_row rfl 38 _ rfl gb254 rfl 38 _ _ _ (by first | exact Gv.kb0 BK254.out | exact Gv.kb1 (Gv.kb0 BK254.out)) Try.underlying38 rfl (by kernel_rfl) ?_))
       go_meet
       case rel => exact ⟨_, (decide (a0_0 > 7)), Gv.rq, H', ⟨by have := HJ1.out; have := HJ7.out; first | omega | exact Nat.le_refl _⟩, ⟨by (with_reducible repeat (first | refine blk_drewN ?_ _ | refine blk_drew ?_ | refine blk_alloc ?_ _)); exact BK254.out⟩, ⟨Gv.bw⟩⟩
     case rest =>
      clear HC12
      try clear c1
      try clear p2
      try clear c5
      try clear c5b0
      try clear c5b1
      try clear c9
      try clear c9b0
      try clear c9b1
      try clear c13
      try clear c13b0
      try clear hcz10_0 hcz10_1
      try clear hcz10_10 hcz10_11 hcz10_12 hcz10_13 hcz10_14 hcz10_15 hcz10_16
      try clear hcz10_2 hcz10_3 hcz10_4 hcz10_5 hcz10_6 hcz10_7 hcz10_8 hcz10_9
      try clear hcz11_0 hcz11_1
      try clear hcz11_10 hcz11_11 hcz11_12 hcz11_13 hcz11_14 hcz11_15 hcz11_16
      try clear hcz11_2 hcz11_3 hcz11_4 hcz11_5 hcz11_6 hcz11_7 hcz11_8 hcz11_9
      try clear hcz14_0 hcz14_1
      try clear hcz14_10 hcz14_11 hcz14_12 hcz14_13 hcz14_14 hcz14_15 hcz14_16
      try clear hcz14_2 hcz14_3 hcz14_4 hcz14_5 hcz14_6 hcz14_7 hcz14_8 hcz14_9
      try clear hcz15_0 hcz15_1
      try clear hcz15_10 hcz15_11 hcz15_12 hcz15_13 hcz15_14 hcz15_15 hcz15_16
      try clear hcz15_2 hcz15_3 hcz15_4 hcz15_5 hcz15_6 hcz15_7 hcz15_8 hcz15_9
      try clear hcz4_0 hcz4_1
      try clear hcz4_10 hcz4_11 hcz4_12 hcz4_13 hcz4_14 hcz4_15 hcz4_16
      try clear hcz4_2 hcz4_3 hcz4_4 hcz4_5 hcz4_6 hcz4_7 hcz4_8 hcz4_9
      try clear hcz6_0 hcz6_1
      try clear hcz6_10 hcz6_11 hcz6_12 hcz6_13 hcz6_14 hcz6_15 hcz6_16
      try clear hcz6_2 hcz6_3 hcz6_4 hcz6_5 hcz6_6 hcz6_7 hcz6_8 hcz6_9
      try clear hcz7_0 hcz7_1
      try clear hcz7_10 hcz7_11 hcz7_12 hcz7_13 hcz7_14 hcz7_15 hcz7_16
      try clear hcz7_2 hcz7_3 hcz7_4 hcz7_5 hcz7_6 hcz7_7 hcz7_8 hcz7_9
      try clear p2
      obtain ⟨kq, x32_11, rfl, HA, HJ11, BK254, HB⟩ := hcut
      cases kq with
      | zero => exact absurd HA.out (by simp [spec_ModuleOk.j2])
      | succ kj11 =>
       have H := HA.out
       clear HA
       simp only [spec_ModuleOk.j2] at H
       by_cases c16 : x32_11 = true
       ·subst c16
        have H1 : (some false) = some r := by rw [if_pos rfl] at H; exact H
        clear H
        have H := H1
        clear H1
        obtain rfl := Option.some.inj H
        go_wp2_with (first | ((with_reducible refine Gv.gate_load (t := 38) rfl ?_); (try (refine gate_guard (by rfl) ?_; dsimp only)); refine wpList_load_row rfl 38 _ rfl gb254 rfl 38 _ _ _ (by first | exact Gv.kb0 BK254.out | exact Gv.kb1 (Gv.kb0 BK254.out)) Try.underlying38 rfl (by kernel_rfl) ?_))
        go_ret
        exact ⟨Gv.rt, Gv.bw⟩
       ·replace c16 := Bool.eq_false_iff.mpr c16
        subst c16
        have H1 : (if (a0_0 == 1) = true then (if x5_7 = true then (spec_ModuleOk.j3 kj11 false a0_0 a0_1 a0_2 a0_3 a0_4 a0_5 a0_6 a0_7 a0_8 a0_9 a0_10 a0_11 a0_12 a0_13 a0_14 a0_15 a0_16) else (if a0_16 = 0 then (spec_ModuleOk.j3 kj11 false a0_0 a0_1 a0_2 a0_3 a0_4 a0_5 a0_6 a0_7 a0_8 a0_9 a0_10 a0_11 a0_12 a0_13 a0_14 a0_15 a0_16) else (spec_ModuleOk.j3 kj11 true a0_0 a0_1 a0_2 a0_3 a0_4 a0_5 a0_6 a0_7 a0_8 a0_9 a0_10 a0_11 a0_12 a0_13 a0_14 a0_15 a0_16))) else (if a0_13 = 0 then (if a0_14 = 0 then (if a0_15 = 0 then (if x5_7 = true then (if x4_1 = true then (spec_ModuleOk.j3 kj11 false a0_0 a0_1 a0_2 a0_3 a0_4 a0_5 a0_6 a0_7 a0_8 a0_9 a0_10 a0_11 a0_12 a0_13 a0_14 a0_15 a0_16) else ((spec_l03Any.f a0_1 a0_2 a0_3 a0_4 a0_5 a0_6).bind fun t255 => (if t255 = true then ((spec_l03Any.f a0_7 a0_8 a0_9 a0_10 a0_11 a0_12).bind fun t256 => (spec_ModuleOk.j3 kj11 (!t256) a0_0 a0_1 a0_2 a0_3 a0_4 a0_5 a0_6 a0_7 a0_8 a0_9 a0_10 a0_11 a0_12 a0_13 a0_14 a0_15 a0_16)) else (spec_ModuleOk.j3 kj11 true a0_0 a0_1 a0_2 a0_3 a0_4 a0_5 a0_6 a0_7 a0_8 a0_9 a0_10 a0_11 a0_12 a0_13 a0_14 a0_15 a0_16)))) else (if a0_16 = 0 then (if x4_1 = true then (spec_ModuleOk.j3 kj11 false a0_0 a0_1 a0_2 a0_3 a0_4 a0_5 a0_6 a0_7 a0_8 a0_9 a0_10 a0_11 a0_12 a0_13 a0_14 a0_15 a0_16) else ((spec_l03Any.f a0_1 a0_2 a0_3 a0_4 a0_5 a0_6).bind fun t257 => (if t257 = true then ((spec_l03Any.f a0_7 a0_8 a0_9 a0_10 a0_11 a0_12).bind fun t258 => (spec_ModuleOk.j3 kj11 (!t258) a0_0 a0_1 a0_2 a0_3 a0_4 a0_5 a0_6 a0_7 a0_8 a0_9 a0_10 a0_11 a0_12 a0_13 a0_14 a0_15 a0_16)) else (spec_ModuleOk.j3 kj11 true a0_0 a0_1 a0_2 a0_3 a0_4 a0_5 a0_6 a0_7 a0_8 a0_9 a0_10 a0_11 a0_12 a0_13 a0_14 a0_15 a0_16)))) else (spec_ModuleOk.j3 kj11 true a0_0 a0_1 a0_2 a0_3 a0_4 a0_5 a0_6 a0_7 a0_8 a0_9 a0_10 a0_11 a0_12 a0_13 a0_14 a0_15 a0_16))) else (spec_ModuleOk.j3 kj11 true a0_0 a0_1 a0_2 a0_3 a0_4 a0_5 a0_6 a0_7 a0_8 a0_9 a0_10 a0_11 a0_12 a0_13 a0_14 a0_15 a0_16)) else (spec_ModuleOk.j3 kj11 true a0_0 a0_1 a0_2 a0_3 a0_4 a0_5 a0_6 a0_7 a0_8 a0_9 a0_10 a0_11 a0_12 a0_13 a0_14 a0_15 a0_16)) else (spec_ModuleOk.j3 kj11 true a0_0 a0_1 a0_2 a0_3 a0_4 a0_5 a0_6 a0_7 a0_8 a0_9 a0_10 a0_11 a0_12 a0_13 a0_14 a0_15 a0_16))) = some r := by rw [if_neg (show ¬ (false = true) by decide)] at H; exact H
        clear H
        have H := H1
        clear H1
        have HC17 := Gv.a0 H
        clear H
        go_upto_region 6 with (fail)
        go_cut [78] (fun v78 wc => ∃ (kq : Nat) (x78_16 : Bool), v78 = .bool x78_16 ∧ Aside0 (spec_ModuleOk.j3 kq x78_16 a0_0 a0_1 a0_2 a0_3 a0_4 a0_5 a0_6 a0_7 a0_8 a0_9 a0_10 a0_11 a0_12 a0_13 a0_14 a0_15 a0_16 = some r) ∧ Aside0 (kq ≤ kj11) ∧ Aside0 (wc.heap[gb254]? = some (.cells #[.int .i64 a0_0, .int .i64 a0_1, .int .i64 a0_2, .int .i64 a0_3, .int .i64 a0_4, .int .i64 a0_5, .int .i64 a0_6, .int .i64 a0_7, .int .i64 a0_8, .int .i64 a0_9, .int .i64 a0_10, .int .i64 a0_11, .int .i64 a0_12, .int .i64 a0_13, .int .i64 a0_14, .int .i64 a0_15, .int .i64 a0_16] 38 (0, 0))) ∧ Aside0 (Below w.heap.size w wc))
        case first =>
         have H := HC17.out
         clear HC17
         by_cases c18 : (a0_0 == 1) = true
         ·rw [if_pos c18] at H
          have c18b0 : (a0_0 == 1) = true := c18
          (try (have c18b1 : decide (a0_0 = 1) = true := by simpa using c18))
          (try (have c18b2 : (a0_0 == 1) = true := by simpa using c18))
          clear c18
          (first | rw [c18b0] | (simp only [i64_w, i32_w]; rw [c18b0]) | skip)
          by_cases c19 : x5_7 = true
          ·subst c19
           have H1 : (spec_ModuleOk.j3 kj11 false a0_0 a0_1 a0_2 a0_3 a0_4 a0_5 a0_6 a0_7 a0_8 a0_9 a0_10 a0_11 a0_12 a0_13 a0_14 a0_15 a0_16) = some r := by rw [if_pos rfl] at H; exact H
           clear H
           have H := H1
           clear H1
           have H' := Gv.a0 H
           clear H
           go_wp2_with (first | ((with_reducible refine Gv.gate_load (t := 38) rfl ?_); (try (refine gate_guard (by rfl) ?_; dsimp only)); refine wpList_load_row rfl 38 _ rfl gb254 rfl 38 _ _ _ (by first | exact Gv.kb0 BK254.out | exact Gv.kb1 (Gv.kb0 BK254.out)) Try.underlying38 rfl (by kernel_rfl) ?_))
           refine Met.intro ?_
           go_step
           (repeat apply Exists.intro)
           refine ⟨?rel, ?eq_⟩
           case eq_ => first | rfl | (rw [c18b0]; rfl) | (simp only [c18b0]; rfl)
           case rel => exact ⟨_, (false), Gv.rq, H', ⟨by have := HJ1.out; have := HJ7.out; have := HJ11.out; first | omega | exact Nat.le_refl _⟩, ⟨by (with_reducible repeat (first | refine blk_drewN ?_ _ | refine blk_drew ?_ | refine blk_alloc ?_ _)); exact BK254.out⟩, ⟨Gv.bw⟩⟩
          ·replace c19 := Bool.eq_false_iff.mpr c19
           subst c19
           have H1 : (if a0_16 = 0 then (spec_ModuleOk.j3 kj11 false a0_0 a0_1 a0_2 a0_3 a0_4 a0_5 a0_6 a0_7 a0_8 a0_9 a0_10 a0_11 a0_12 a0_13 a0_14 a0_15 a0_16) else (spec_ModuleOk.j3 kj11 true a0_0 a0_1 a0_2 a0_3 a0_4 a0_5 a0_6 a0_7 a0_8 a0_9 a0_10 a0_11 a0_12 a0_13 a0_14 a0_15 a0_16)) = some r := by rw [if_neg (show ¬ (false = true) by decide)] at H; exact H
           clear H
           have H := H1
           clear H1
           by_cases c20 : a0_16 = 0
           ·rw [if_pos c20] at H
            have c20b0 : (a0_16 == 0) = true := beq_iff_eq.mpr c20
            have c20b1 : (a0_16 != 0) = false := bne_eq_false_iff_eq.mpr c20
            clear c20
            have H' := Gv.a0 H
            clear H
            obtain ⟨hcz21_0, hcz21_1, hcz21_2, hcz21_3, hcz21_4, hcz21_5, hcz21_6, hcz21_7, hcz21_8, hcz21_9, hcz21_10, hcz21_11, hcz21_12, hcz21_13, hcz21_14, hcz21_15, hcz21_16⟩ := Gv.c17 BK254.out
            go_wp2_with (first | ((with_reducible refine Gv.gate_load (t := 38) rfl ?_); (try (refine gate_guard (by rfl) ?_; dsimp only)); refine wpList_load_row rfl 38 _ rfl gb254 rfl 38 _ _ _ (by first | exact Gv.kb0 BK254.out | exact Gv.kb1 (Gv.kb0 BK254.out)) Try.underlying38 rfl (by kernel_rfl) ?_))
            refine Met.intro ?_
            go_step
            (repeat apply Exists.intro)
            refine ⟨?rel, ?eq_⟩
            case eq_ => first | rfl | (rw [c18b0]; rfl) | (rw [c20b0]; rfl) | (simp only [c18b0, c20b0]; rfl)
            case rel => exact ⟨_, (false), Gv.rq, H', ⟨by have := HJ1.out; have := HJ7.out; have := HJ11.out; first | omega | exact Nat.le_refl _⟩, ⟨by (with_reducible repeat (first | refine blk_drewN ?_ _ | refine blk_drew ?_ | refine blk_alloc ?_ _)); exact BK254.out⟩, ⟨Gv.bw⟩⟩
           ·rw [if_neg c20] at H
            have c20b0 : (a0_16 == 0) = false := beq_eq_false_iff_ne.mpr c20
            have c20b1 : (a0_16 != 0) = true := bne_iff_ne.mpr c20
            have H' := Gv.a0 H
            clear H
            obtain ⟨hcz22_0, hcz22_1, hcz22_2, hcz22_3, hcz22_4, hcz22_5, hcz22_6, hcz22_7, hcz22_8, hcz22_9, hcz22_10, hcz22_11, hcz22_12, hcz22_13, hcz22_14, hcz22_15, hcz22_16⟩ := Gv.c17 BK254.out
            go_wp2_with (first | ((with_reducible refine Gv.gate_load (t := 38) rfl ?_); (try (refine gate_guard (by rfl) ?_; dsimp only)); refine wpList_load_row rfl 38 _ rfl gb254 rfl 38 _ _ _ (by first | exact Gv.kb0 BK254.out | exact Gv.kb1 (Gv.kb0 BK254.out)) Try.underlying38 rfl (by kernel_rfl) ?_))
            refine Met.intro ?_
            go_step
            (repeat apply Exists.intro)
            refine ⟨?rel, ?eq_⟩
            case eq_ => first | rfl | (rw [c18b0]; rfl) | (rw [c20b0]; rfl) | (simp only [c18b0, c20b0]; rfl)
            case rel => exact ⟨_, (true), Gv.rq, H', ⟨by have := HJ1.out; have := HJ7.out; have := HJ11.out; first | omega | exact Nat.le_refl _⟩, ⟨by (with_reducible repeat (first | refine blk_drewN ?_ _ | refine blk_drew ?_ | refine blk_alloc ?_ _)); exact BK254.out⟩, ⟨Gv.bw⟩⟩
         ·rw [if_neg c18] at H
          have c18b0 : (a0_0 == 1) = false := by simpa using c18
          (try (have c18b1 : decide (a0_0 = 1) = false := by simpa using c18))
          (try (have c18b2 : (a0_0 == 1) = false := by simpa using c18))
          (try (have c18b3 : ¬ (a0_0 = 1) := by simpa using c18))
          clear c18
          (first | rw [c18b0] | (simp only [i64_w, i32_w]; rw [c18b0]) | skip)
          by_cases c23 : a0_13 = 0
          ·rw [if_pos c23] at H
           have c23b0 : (a0_13 == 0) = true := beq_iff_eq.mpr c23
           have c23b1 : (a0_13 != 0) = false := bne_eq_false_iff_eq.mpr c23
           clear c23
           by_cases c24 : a0_14 = 0
           ·rw [if_pos c24] at H
            have c24b0 : (a0_14 == 0) = true := beq_iff_eq.mpr c24
            have c24b1 : (a0_14 != 0) = false := bne_eq_false_iff_eq.mpr c24
            clear c24
            by_cases c25 : a0_15 = 0
            ·rw [if_pos c25] at H
             have c25b0 : (a0_15 == 0) = true := beq_iff_eq.mpr c25
             have c25b1 : (a0_15 != 0) = false := bne_eq_false_iff_eq.mpr c25
             clear c25
             by_cases c26 : x5_7 = true
             ·subst c26
              have H1 : (if x4_1 = true then (spec_ModuleOk.j3 kj11 false a0_0 a0_1 a0_2 a0_3 a0_4 a0_5 a0_6 a0_7 a0_8 a0_9 a0_10 a0_11 a0_12 a0_13 a0_14 a0_15 a0_16) else ((spec_l03Any.f a0_1 a0_2 a0_3 a0_4 a0_5 a0_6).bind fun t255 => (if t255 = true then ((spec_l03Any.f a0_7 a0_8 a0_9 a0_10 a0_11 a0_12).bind fun t256 => (spec_ModuleOk.j3 kj11 (!t256) a0_0 a0_1 a0_2 a0_3 a0_4 a0_5 a0_6 a0_7 a0_8 a0_9 a0_10 a0_11 a0_12 a0_13 a0_14 a0_15 a0_16)) else (spec_ModuleOk.j3 kj11 true a0_0 a0_1 a0_2 a0_3 a0_4 a0_5 a0_6 a0_7 a0_8 a0_9 a0_10 a0_11 a0_12 a0_13 a0_14 a0_15 a0_16)))) = some r := by rw [if_pos rfl] at H; exact H
              clear H
              have H := H1
              clear H1
              by_cases c27 : x4_1 = true
              ·subst c27
               have H1 : (spec_ModuleOk.j3 kj11 false a0_0 a0_1 a0_2 a0_3 a0_4 a0_5 a0_6 a0_7 a0_8 a0_9 a0_10 a0_11 a0_12 a0_13 a0_14 a0_15 a0_16) = some r := by rw [if_pos rfl] at H; exact H
               clear H
               have H := H1
               clear H1
               have H' := Gv.a0 H
               clear H
               obtain ⟨hcz28_0, hcz28_1, hcz28_2, hcz28_3, hcz28_4, hcz28_5, hcz28_6, hcz28_7, hcz28_8, hcz28_9, hcz28_10, hcz28_11, hcz28_12, hcz28_13, hcz28_14, hcz28_15, hcz28_16⟩ := Gv.c17 BK254.out
               go_wp2_with (first | ((with_reducible refine Gv.gate_load (t := 38) rfl ?_); (try (refine gate_guard (by rfl) ?_; dsimp only)); refine wpList_load_row rfl 38 _ rfl gb254 rfl 38 _ _ _ (by first | exact Gv.kb0 BK254.out | exact Gv.kb1 (Gv.kb0 BK254.out)) Try.underlying38 rfl (by kernel_rfl) ?_))
               refine Met.intro ?_
               go_step
               (repeat apply Exists.intro)
               refine ⟨?rel, ?eq_⟩
               case eq_ => first | rfl | (rw [c18b0]; rfl) | (rw [c23b0]; rfl) | (rw [c24b0]; rfl) | (rw [c25b0]; rfl) | (simp only [c18b0, c23b0, c24b0, c25b0]; rfl)
               case rel => exact ⟨_, (false), Gv.rq, H', ⟨by have := HJ1.out; have := HJ7.out; have := HJ11.out; first | omega | exact Nat.le_refl _⟩, ⟨by (with_reducible repeat (first | refine blk_drewN ?_ _ | refine blk_drew ?_ | refine blk_alloc ?_ _)); exact BK254.out⟩, ⟨Gv.bw⟩⟩
              ·replace c27 := Bool.eq_false_iff.mpr c27
               subst c27
               have H1 : ((spec_l03Any.f a0_1 a0_2 a0_3 a0_4 a0_5 a0_6).bind fun t255 => (if t255 = true then ((spec_l03Any.f a0_7 a0_8 a0_9 a0_10 a0_11 a0_12).bind fun t256 => (spec_ModuleOk.j3 kj11 (!t256) a0_0 a0_1 a0_2 a0_3 a0_4 a0_5 a0_6 a0_7 a0_8 a0_9 a0_10 a0_11 a0_12 a0_13 a0_14 a0_15 a0_16)) else (spec_ModuleOk.j3 kj11 true a0_0 a0_1 a0_2 a0_3 a0_4 a0_5 a0_6 a0_7 a0_8 a0_9 a0_10 a0_11 a0_12 a0_13 a0_14 a0_15 a0_16))) = some r := by rw [if_neg (show ¬ (false = true) by decide)] at H; exact H
               clear H
               have H := H1
               clear H1
               replace H := Option.bind_eq_some_iff.mp H
               obtain ⟨t255, A290, H⟩ := H
               replace H : (if t255 = true then ((spec_l03Any.f a0_7 a0_8 a0_9 a0_10 a0_11 a0_12).bind fun t256 => (spec_ModuleOk.j3 kj11 (!t256) a0_0 a0_1 a0_2 a0_3 a0_4 a0_5 a0_6 a0_7 a0_8 a0_9 a0_10 a0_11 a0_12 a0_13 a0_14 a0_15 a0_16)) else (spec_ModuleOk.j3 kj11 true a0_0 a0_1 a0_2 a0_3 a0_4 a0_5 a0_6 a0_7 a0_8 a0_9 a0_10 a0_11 a0_12 a0_13 a0_14 a0_15 a0_16)) = some r := H
               have A29 := Gv.a0 A290
               clear A290
               by_cases c30 : t255 = true
               ·subst c30
                have H1 : ((spec_l03Any.f a0_7 a0_8 a0_9 a0_10 a0_11 a0_12).bind fun t256 => (spec_ModuleOk.j3 kj11 (!t256) a0_0 a0_1 a0_2 a0_3 a0_4 a0_5 a0_6 a0_7 a0_8 a0_9 a0_10 a0_11 a0_12 a0_13 a0_14 a0_15 a0_16)) = some r := by rw [if_pos rfl] at H; exact H
                clear H
                have H := H1
                clear H1
                replace H := Option.bind_eq_some_iff.mp H
                obtain ⟨t256, A310, H⟩ := H
                replace H : (spec_ModuleOk.j3 kj11 (!t256) a0_0 a0_1 a0_2 a0_3 a0_4 a0_5 a0_6 a0_7 a0_8 a0_9 a0_10 a0_11 a0_12 a0_13 a0_14 a0_15 a0_16) = some r := H
                have A31 := Gv.a0 A310
                clear A310
                have H' := Gv.a0 H
                clear H
                obtain ⟨hcz32_0, hcz32_1, hcz32_2, hcz32_3, hcz32_4, hcz32_5, hcz32_6, hcz32_7, hcz32_8, hcz32_9, hcz32_10, hcz32_11, hcz32_12, hcz32_13, hcz32_14, hcz32_15, hcz32_16⟩ := Gv.c17 BK254.out
                go_wp2_with (first | (go_at_call 39; (with_reducible refine (spec_l03Any.calls a0_1 a0_2 a0_3 a0_4 a0_5 a0_6 true _ A29.out).mono ?_); rintro e w33 ⟨rfl, hb⟩; have n0_ := Gv.a0 (Gv.bb BK254.out hb); have n1_ := Gv.a0 (below_step Gv.bw hb); clear BK254; clear HB; have BK254 := n0_; have HB := n1_; clear n0_ n1_; (try clear hb); (try clear hb2); (try clear hk); (try clear hi); obtain ⟨hcz34_0, hcz34_1, hcz34_2, hcz34_3, hcz34_4, hcz34_5, hcz34_6, hcz34_7, hcz34_8, hcz34_9, hcz34_10, hcz34_11, hcz34_12, hcz34_13, hcz34_14, hcz34_15, hcz34_16⟩ := Gv.c17 BK254.out) | (go_at_call 39; (with_reducible refine (spec_l03Any.calls a0_7 a0_8 a0_9 a0_10 a0_11 a0_12 t256 _ A31.out).mono ?_); rintro e w35 ⟨rfl, hb⟩; have n0_ := Gv.a0 (Gv.bb BK254.out hb); have n1_ := Gv.a0 (below_step Gv.bw hb); clear BK254; clear HB; have BK254 := n0_; have HB := n1_; clear n0_ n1_; (try clear hb); (try clear hb2); (try clear hk); (try clear hi)) | ((with_reducible refine Gv.gate_load (t := 38) rfl ?_); (try (refine gate_guard (by rfl) ?_; dsimp only)); refine wpList_load_row rfl 38 _ rfl gb254 rfl 38 _ _ _ (by first | exact Gv.kb0 BK254.out | exact Gv.kb1 (Gv.kb0 BK254.out)) Try.underlying38 rfl (by kernel_rfl) ?_))
                refine Met.intro ?_
                go_step
                (repeat apply Exists.intro)
                refine ⟨?rel, ?eq_⟩
                case eq_ => first | rfl | (rw [c18b0]; rfl) | (rw [c23b0]; rfl) | (rw [c24b0]; rfl) | (rw [c25b0]; rfl) | (simp only [c18b0, c23b0, c24b0, c25b0]; rfl)
                case rel => exact ⟨_, (!t256), Gv.rq, H', ⟨by have := HJ1.out; have := HJ7.out; have := HJ11.out; first | omega | exact Nat.le_refl _⟩, ⟨by (with_reducible repeat (first | refine blk_drewN ?_ _ | refine blk_drew ?_ | refine blk_alloc ?_ _)); exact BK254.out⟩, ⟨Gv.bw⟩⟩
               ·replace c30 := Bool.eq_false_iff.mpr c30
                subst c30
                have H1 : (spec_ModuleOk.j3 kj11 true a0_0 a0_1 a0_2 a0_3 a0_4 a0_5 a0_6 a0_7 a0_8 a0_9 a0_10 a0_11 a0_12 a0_13 a0_14 a0_15 a0_16) = some r := by rw [if_neg (show ¬ (false = true) by decide)] at H; exact H
                clear H
                have H := H1
                clear H1
                have H' := Gv.a0 H
                clear H
                obtain ⟨hcz36_0, hcz36_1, hcz36_2, hcz36_3, hcz36_4, hcz36_5, hcz36_6, hcz36_7, hcz36_8, hcz36_9, hcz36_10, hcz36_11, hcz36_12, hcz36_13, hcz36_14, hcz36_15, hcz36_16⟩ := Gv.c17 BK254.out
                go_wp2_with (first | (go_at_call 39; (with_reducible refine (spec_l03Any.calls a0_1 a0_2 a0_3 a0_4 a0_5 a0_6 false _ A29.out).mono ?_); rintro e w37 ⟨rfl, hb⟩; have n0_ := Gv.a0 (Gv.bb BK254.out hb); have n1_ := Gv.a0 (below_step Gv.bw hb); clear BK254; clear HB; have BK254 := n0_; have HB := n1_; clear n0_ n1_; (try clear hb); (try clear hb2); (try clear hk); (try clear hi)) | ((with_reducible refine Gv.gate_load (t := 38) rfl ?_); (try (refine gate_guard (by rfl) ?_; dsimp only)); refine wpList_load_row rfl 38 _ rfl gb254 rfl 38 _ _ _ (by first | exact Gv.kb0 BK254.out | exact Gv.kb1 (Gv.kb0 BK254.out)) Try.underlying38 rfl (by kernel_rfl) ?_))
                refine Met.intro ?_
                go_step
                (repeat apply Exists.intro)
                refine ⟨?rel, ?eq_⟩
                case eq_ => first | rfl | (rw [c18b0]; rfl) | (rw [c23b0]; rfl) | (rw [c24b0]; rfl) | (rw [c25b0]; rfl) | (simp only [c18b0, c23b0, c24b0, c25b0]; rfl)
                case rel => exact ⟨_, (true), Gv.rq, H', ⟨by have := HJ1.out; have := HJ7.out; have := HJ11.out; first | omega | exact Nat.le_refl _⟩, ⟨by (with_reducible repeat (first | refine blk_drewN ?_ _ | refine blk_drew ?_ | refine blk_alloc ?_ _)); exact BK254.out⟩, ⟨Gv.bw⟩⟩
             ·replace c26 := Bool.eq_false_iff.mpr c26
              subst c26
              have H1 : (if a0_16 = 0 then (if x4_1 = true then (spec_ModuleOk.j3 kj11 false a0_0 a0_1 a0_2 a0_3 a0_4 a0_5 a0_6 a0_7 a0_8 a0_9 a0_10 a0_11 a0_12 a0_13 a0_14 a0_15 a0_16) else ((spec_l03Any.f a0_1 a0_2 a0_3 a0_4 a0_5 a0_6).bind fun t257 => (if t257 = true then ((spec_l03Any.f a0_7 a0_8 a0_9 a0_10 a0_11 a0_12).bind fun t258 => (spec_ModuleOk.j3 kj11 (!t258) a0_0 a0_1 a0_2 a0_3 a0_4 a0_5 a0_6 a0_7 a0_8 a0_9 a0_10 a0_11 a0_12 a0_13 a0_14 a0_15 a0_16)) else (spec_ModuleOk.j3 kj11 true a0_0 a0_1 a0_2 a0_3 a0_4 a0_5 a0_6 a0_7 a0_8 a0_9 a0_10 a0_11 a0_12 a0_13 a0_14 a0_15 a0_16)))) else (spec_ModuleOk.j3 kj11 true a0_0 a0_1 a0_2 a0_3 a0_4 a0_5 a0_6 a0_7 a0_8 a0_9 a0_10 a0_11 a0_12 a0_13 a0_14 a0_15 a0_16)) = some r := by rw [if_neg (show ¬ (false = true) by decide)] at H; exact H
              clear H
              have H := H1
              clear H1
              by_cases c38 : a0_16 = 0
              ·rw [if_pos c38] at H
               have c38b0 : (a0_16 == 0) = true := beq_iff_eq.mpr c38
               have c38b1 : (a0_16 != 0) = false := bne_eq_false_iff_eq.mpr c38
               clear c38
               by_cases c39 : x4_1 = true
               ·subst c39
                have H1 : (spec_ModuleOk.j3 kj11 false a0_0 a0_1 a0_2 a0_3 a0_4 a0_5 a0_6 a0_7 a0_8 a0_9 a0_10 a0_11 a0_12 a0_13 a0_14 a0_15 a0_16) = some r := by rw [if_pos rfl] at H; exact H
                clear H
                have H := H1
                clear H1
                have H' := Gv.a0 H
                clear H
                obtain ⟨hcz40_0, hcz40_1, hcz40_2, hcz40_3, hcz40_4, hcz40_5, hcz40_6, hcz40_7, hcz40_8, hcz40_9, hcz40_10, hcz40_11, hcz40_12, hcz40_13, hcz40_14, hcz40_15, hcz40_16⟩ := Gv.c17 BK254.out
                go_wp2_with (first | ((with_reducible refine Gv.gate_load (t := 38) rfl ?_); (try (refine gate_guard (by rfl) ?_; dsimp only)); refine wpList_load_row rfl 38 _ rfl gb254 rfl 38 _ _ _ (by first | exact Gv.kb0 BK254.out | exact Gv.kb1 (Gv.kb0 BK254.out)) Try.underlying38 rfl (by kernel_rfl) ?_))
                refine Met.intro ?_
                go_step
                (repeat apply Exists.intro)
                refine ⟨?rel, ?eq_⟩
                case eq_ => first | rfl | (rw [c18b0]; rfl) | (rw [c23b0]; rfl) | (rw [c24b0]; rfl) | (rw [c25b0]; rfl) | (rw [c38b0]; rfl) | (simp only [c18b0, c23b0, c24b0, c25b0, c38b0]; rfl)
                case rel => exact ⟨_, (false), Gv.rq, H', ⟨by have := HJ1.out; have := HJ7.out; have := HJ11.out; first | omega | exact Nat.le_refl _⟩, ⟨by (with_reducible repeat (first | refine blk_drewN ?_ _ | refine blk_drew ?_ | refine blk_alloc ?_ _)); exact BK254.out⟩, ⟨Gv.bw⟩⟩
               ·replace c39 := Bool.eq_false_iff.mpr c39
                subst c39
                have H1 : ((spec_l03Any.f a0_1 a0_2 a0_3 a0_4 a0_5 a0_6).bind fun t257 => (if t257 = true then ((spec_l03Any.f a0_7 a0_8 a0_9 a0_10 a0_11 a0_12).bind fun t258 => (spec_ModuleOk.j3 kj11 (!t258) a0_0 a0_1 a0_2 a0_3 a0_4 a0_5 a0_6 a0_7 a0_8 a0_9 a0_10 a0_11 a0_12 a0_13 a0_14 a0_15 a0_16)) else (spec_ModuleOk.j3 kj11 true a0_0 a0_1 a0_2 a0_3 a0_4 a0_5 a0_6 a0_7 a0_8 a0_9 a0_10 a0_11 a0_12 a0_13 a0_14 a0_15 a0_16))) = some r := by rw [if_neg (show ¬ (false = true) by decide)] at H; exact H
                clear H
                have H := H1
                clear H1
                replace H := Option.bind_eq_some_iff.mp H
                obtain ⟨t257, A410, H⟩ := H
                replace H : (if t257 = true then ((spec_l03Any.f a0_7 a0_8 a0_9 a0_10 a0_11 a0_12).bind fun t258 => (spec_ModuleOk.j3 kj11 (!t258) a0_0 a0_1 a0_2 a0_3 a0_4 a0_5 a0_6 a0_7 a0_8 a0_9 a0_10 a0_11 a0_12 a0_13 a0_14 a0_15 a0_16)) else (spec_ModuleOk.j3 kj11 true a0_0 a0_1 a0_2 a0_3 a0_4 a0_5 a0_6 a0_7 a0_8 a0_9 a0_10 a0_11 a0_12 a0_13 a0_14 a0_15 a0_16)) = some r := H
                have A41 := Gv.a0 A410
                clear A410
                by_cases c42 : t257 = true
                ·subst c42
                 have H1 : ((spec_l03Any.f a0_7 a0_8 a0_9 a0_10 a0_11 a0_12).bind fun t258 => (spec_ModuleOk.j3 kj11 (!t258) a0_0 a0_1 a0_2 a0_3 a0_4 a0_5 a0_6 a0_7 a0_8 a0_9 a0_10 a0_11 a0_12 a0_13 a0_14 a0_15 a0_16)) = some r := by rw [if_pos rfl] at H; exact H
                 clear H
                 have H := H1
                 clear H1
                 replace H := Option.bind_eq_some_iff.mp H
                 obtain ⟨t258, A430, H⟩ := H
                 replace H : (spec_ModuleOk.j3 kj11 (!t258) a0_0 a0_1 a0_2 a0_3 a0_4 a0_5 a0_6 a0_7 a0_8 a0_9 a0_10 a0_11 a0_12 a0_13 a0_14 a0_15 a0_16) = some r := H
                 have A43 := Gv.a0 A430
                 clear A430
                 have H' := Gv.a0 H
                 clear H
                 obtain ⟨hcz44_0, hcz44_1, hcz44_2, hcz44_3, hcz44_4, hcz44_5, hcz44_6, hcz44_7, hcz44_8, hcz44_9, hcz44_10, hcz44_11, hcz44_12, hcz44_13, hcz44_14, hcz44_15, hcz44_16⟩ := Gv.c17 BK254.out
                 go_wp2_with (first | (go_at_call 39; (with_reducible refine (spec_l03Any.calls a0_1 a0_2 a0_3 a0_4 a0_5 a0_6 true _ A41.out).mono ?_); rintro e w45 ⟨rfl, hb⟩; have n0_ := Gv.a0 (Gv.bb BK254.out hb); have n1_ := Gv.a0 (below_step Gv.bw hb); clear BK254; clear HB; have BK254 := n0_; have HB := n1_; clear n0_ n1_; (try clear hb); (try clear hb2); (try clear hk); (try clear hi); obtain ⟨hcz46_0, hcz46_1, hcz46_2, hcz46_3, hcz46_4, hcz46_5, hcz46_6, hcz46_7, hcz46_8, hcz46_9, hcz46_10, hcz46_11, hcz46_12, hcz46_13, hcz46_14, hcz46_15, hcz46_16⟩ := Gv.c17 BK254.out) | (go_at_call 39; (with_reducible refine (spec_l03Any.calls a0_7 a0_8 a0_9 a0_10 a0_11 a0_12 t258 _ A43.out).mono ?_); rintro e w47 ⟨rfl, hb⟩; have n0_ := Gv.a0 (Gv.bb BK254.out hb); have n1_ := Gv.a0 (below_step Gv.bw hb); clear BK254; clear HB; have BK254 := n0_; have HB := n1_; clear n0_ n1_; (try clear hb); (try clear hb2); (try clear hk); (try clear hi)) | ((with_reducible refine Gv.gate_load (t := 38) rfl ?_); (try (refine gate_guard (by rfl) ?_; dsimp only)); refine wpList_load_row rfl 38 _ rfl gb254 rfl 38 _ _ _ (by first | exact Gv.kb0 BK254.out | exact Gv.kb1 (Gv.kb0 BK254.out)) Try.underlying38 rfl (by kernel_rfl) ?_))
                 refine Met.intro ?_
                 go_step
                 (repeat apply Exists.intro)
                 refine ⟨?rel, ?eq_⟩
                 case eq_ => first | rfl | (rw [c18b0]; rfl) | (rw [c23b0]; rfl) | (rw [c24b0]; rfl) | (rw [c25b0]; rfl) | (rw [c38b0]; rfl) | (simp only [c18b0, c23b0, c24b0, c25b0, c38b0]; rfl)
                 case rel => exact ⟨_, (!t258), Gv.rq, H', ⟨by have := HJ1.out; have := HJ7.out; have := HJ11.out; first | omega | exact Nat.le_refl _⟩, ⟨by (with_reducible repeat (first | refine blk_drewN ?_ _ | refine blk_drew ?_ | refine blk_alloc ?_ _)); exact BK254.out⟩, ⟨Gv.bw⟩⟩
                ·replace c42 := Bool.eq_false_iff.mpr c42
                 subst c42
                 have H1 : (spec_ModuleOk.j3 kj11 true a0_0 a0_1 a0_2 a0_3 a0_4 a0_5 a0_6 a0_7 a0_8 a0_9 a0_10 a0_11 a0_12 a0_13 a0_14 a0_15 a0_16) = some r := by rw [if_neg (show ¬ (false = true) by decide)] at H; exact H
                 clear H
                 have H := H1
                 clear H1
                 have H' := Gv.a0 H
                 clear H
                 obtain ⟨hcz48_0, hcz48_1, hcz48_2, hcz48_3, hcz48_4, hcz48_5, hcz48_6, hcz48_7, hcz48_8, hcz48_9, hcz48_10, hcz48_11, hcz48_12, hcz48_13, hcz48_14, hcz48_15, hcz48_16⟩ := Gv.c17 BK254.out
                 go_wp2_with (first | (go_at_call 39; (with_reducible refine (spec_l03Any.calls a0_1 a0_2 a0_3 a0_4 a0_5 a0_6 false _ A41.out).mono ?_); rintro e w49 ⟨rfl, hb⟩; have n0_ := Gv.a0 (Gv.bb BK254.out hb); have n1_ := Gv.a0 (below_step Gv.bw hb); clear BK254; clear HB; have BK254 := n0_; have HB := n1_; clear n0_ n1_; (try clear hb); (try clear hb2); (try clear hk); (try clear hi)) | ((with_reducible refine Gv.gate_load (t := 38) rfl ?_); (try (refine gate_guard (by rfl) ?_; dsimp only)); refine wpList_load_row rfl 38 _ rfl gb254 rfl 38 _ _ _ (by first | exact Gv.kb0 BK254.out | exact Gv.kb1 (Gv.kb0 BK254.out)) Try.underlying38 rfl (by kernel_rfl) ?_))
                 refine Met.intro ?_
                 go_step
                 (repeat apply Exists.intro)
                 refine ⟨?rel, ?eq_⟩
                 case eq_ => first | rfl | (rw [c18b0]; rfl) | (rw [c23b0]; rfl) | (rw [c24b0]; rfl) | (rw [c25b0]; rfl) | (rw [c38b0]; rfl) | (simp only [c18b0, c23b0, c24b0, c25b0, c38b0]; rfl)
                 case rel => exact ⟨_, (true), Gv.rq, H', ⟨by have := HJ1.out; have := HJ7.out; have := HJ11.out; first | omega | exact Nat.le_refl _⟩, ⟨by (with_reducible repeat (first | refine blk_drewN ?_ _ | refine blk_drew ?_ | refine blk_alloc ?_ _)); exact BK254.out⟩, ⟨Gv.bw⟩⟩
              ·rw [if_neg c38] at H
               have c38b0 : (a0_16 == 0) = false := beq_eq_false_iff_ne.mpr c38
               have c38b1 : (a0_16 != 0) = true := bne_iff_ne.mpr c38
               have H' := Gv.a0 H
               clear H
               obtain ⟨hcz50_0, hcz50_1, hcz50_2, hcz50_3, hcz50_4, hcz50_5, hcz50_6, hcz50_7, hcz50_8, hcz50_9, hcz50_10, hcz50_11, hcz50_12, hcz50_13, hcz50_14, hcz50_15, hcz50_16⟩ := Gv.c17 BK254.out
               go_wp2_with (first | ((with_reducible refine Gv.gate_load (t := 38) rfl ?_); (try (refine gate_guard (by rfl) ?_; dsimp only)); refine wpList_load_row rfl 38 _ rfl gb254 rfl 38 _ _ _ (by first | exact Gv.kb0 BK254.out | exact Gv.kb1 (Gv.kb0 BK254.out)) Try.underlying38 rfl (by kernel_rfl) ?_))
               refine Met.intro ?_
               go_step
               (repeat apply Exists.intro)
               refine ⟨?rel, ?eq_⟩
               case eq_ => first | rfl | (rw [c18b0]; rfl) | (rw [c23b0]; rfl) | (rw [c24b0]; rfl) | (rw [c25b0]; rfl) | (rw [c38b0]; rfl) | (simp only [c18b0, c23b0, c24b0, c25b0, c38b0]; rfl)
               case rel => exact ⟨_, (true), Gv.rq, H', ⟨by have := HJ1.out; have := HJ7.out; have := HJ11.out; first | omega | exact Nat.le_refl _⟩, ⟨by (with_reducible repeat (first | refine blk_drewN ?_ _ | refine blk_drew ?_ | refine blk_alloc ?_ _)); exact BK254.out⟩, ⟨Gv.bw⟩⟩
            ·rw [if_neg c25] at H
             have c25b0 : (a0_15 == 0) = false := beq_eq_false_iff_ne.mpr c25
             have c25b1 : (a0_15 != 0) = true := bne_iff_ne.mpr c25
             have H' := Gv.a0 H
             clear H
             obtain ⟨hcz51_0, hcz51_1, hcz51_2, hcz51_3, hcz51_4, hcz51_5, hcz51_6, hcz51_7, hcz51_8, hcz51_9, hcz51_10, hcz51_11, hcz51_12, hcz51_13, hcz51_14, hcz51_15, hcz51_16⟩ := Gv.c17 BK254.out
             go_wp2_with (first | ((with_reducible refine Gv.gate_load (t := 38) rfl ?_); (try (refine gate_guard (by rfl) ?_; dsimp only)); refine wpList_load_row rfl 38 _ rfl gb254 rfl 38 _ _ _ (by first | exact Gv.kb0 BK254.out | exact Gv.kb1 (Gv.kb0 BK254.out)) Try.underlying38 rfl (by kernel_rfl) ?_))
             refine Met.intro ?_
             go_step
             (repeat apply Exists.intro)
             refine ⟨?rel, ?eq_⟩
             case eq_ => first | rfl | (rw [c18b0]; rfl) | (rw [c23b0]; rfl) | (rw [c24b0]; rfl) | (rw [c25b0]; rfl) | (simp only [c18b0, c23b0, c24b0, c25b0]; rfl)
             case rel => exact ⟨_, (true), Gv.rq, H', ⟨by have := HJ1.out; have := HJ7.out; have := HJ11.out; first | omega | exact Nat.le_refl _⟩, ⟨by (with_reducible repeat (first | refine blk_drewN ?_ _ | refine blk_drew ?_ | refine blk_alloc ?_ _)); exact BK254.out⟩, ⟨Gv.bw⟩⟩
           ·rw [if_neg c24] at H
            have c24b0 : (a0_14 == 0) = false := beq_eq_false_iff_ne.mpr c24
            have c24b1 : (a0_14 != 0) = true := bne_iff_ne.mpr c24
            have H' := Gv.a0 H
            clear H
            obtain ⟨hcz52_0, hcz52_1, hcz52_2, hcz52_3, hcz52_4, hcz52_5, hcz52_6, hcz52_7, hcz52_8, hcz52_9, hcz52_10, hcz52_11, hcz52_12, hcz52_13, hcz52_14, hcz52_15, hcz52_16⟩ := Gv.c17 BK254.out
            go_wp2_with (first | ((with_reducible refine Gv.gate_load (t := 38) rfl ?_); (try (refine gate_guard (by rfl) ?_; dsimp only)); refine wpList_load_row rfl 38 _ rfl gb254 rfl 38 _ _ _ (by first | exact Gv.kb0 BK254.out | exact Gv.kb1 (Gv.kb0 BK254.out)) Try.underlying38 rfl (by kernel_rfl) ?_))
            refine Met.intro ?_
            go_step
            (repeat apply Exists.intro)
            refine ⟨?rel, ?eq_⟩
            case eq_ => first | rfl | (rw [c18b0]; rfl) | (rw [c23b0]; rfl) | (rw [c24b0]; rfl) | (simp only [c18b0, c23b0, c24b0]; rfl)
            case rel => exact ⟨_, (true), Gv.rq, H', ⟨by have := HJ1.out; have := HJ7.out; have := HJ11.out; first | omega | exact Nat.le_refl _⟩, ⟨by (with_reducible repeat (first | refine blk_drewN ?_ _ | refine blk_drew ?_ | refine blk_alloc ?_ _)); exact BK254.out⟩, ⟨Gv.bw⟩⟩
          ·rw [if_neg c23] at H
           have c23b0 : (a0_13 == 0) = false := beq_eq_false_iff_ne.mpr c23
           have c23b1 : (a0_13 != 0) = true := bne_iff_ne.mpr c23
           have H' := Gv.a0 H
           clear H
           obtain ⟨hcz53_0, hcz53_1, hcz53_2, hcz53_3, hcz53_4, hcz53_5, hcz53_6, hcz53_7, hcz53_8, hcz53_9, hcz53_10, hcz53_11, hcz53_12, hcz53_13, hcz53_14, hcz53_15, hcz53_16⟩ := Gv.c17 BK254.out
           go_wp2_with (first | ((with_reducible refine Gv.gate_load (t := 38) rfl ?_); (try (refine gate_guard (by rfl) ?_; dsimp only)); refine wpList_load_row rfl 38 _ rfl gb254 rfl 38 _ _ _ (by first | exact Gv.kb0 BK254.out | exact Gv.kb1 (Gv.kb0 BK254.out)) Try.underlying38 rfl (by kernel_rfl) ?_))
           refine Met.intro ?_
           go_step
           (repeat apply Exists.intro)
           refine ⟨?rel, ?eq_⟩
           case eq_ => first | rfl | (rw [c18b0]; rfl) | (rw [c23b0]; rfl) | (simp only [c18b0, c23b0]; rfl)
           case rel => exact ⟨_, (true), Gv.rq, H', ⟨by have := HJ1.out; have := HJ7.out; have := HJ11.out; first | omega | exact Nat.le_refl _⟩, ⟨by (with_reducible repeat (first | refine blk_drewN ?_ _ | refine blk_drew ?_ | refine blk_alloc ?_ _)); exact BK254.out⟩, ⟨Gv.bw⟩⟩
        case rest =>
         clear HC17
         try clear c1
         try clear c2
         try clear p2
         try clear c3
         try clear c4
         try clear c18
         try clear c18b0
         try clear c18b1
         try clear c18b2
         try clear c20
         try clear c20b0
         try clear c20b1
         try clear c23
         try clear c23b0
         try clear c23b1
         try clear c24
         try clear c24b0
         try clear c24b1
         try clear c25
         try clear c25b0
         try clear c25b1
         try clear c26
         try clear c27
         try clear c30
         try clear c38
         try clear c38b0
         try clear c38b1
         try clear c39
         try clear c42
         try clear hcz21_0 hcz21_1
         try clear hcz21_10 hcz21_11 hcz21_12 hcz21_13 hcz21_14 hcz21_15 hcz21_16
         try clear hcz21_2 hcz21_3 hcz21_4 hcz21_5 hcz21_6 hcz21_7 hcz21_8 hcz21_9
         try clear hcz22_0 hcz22_1
         try clear hcz22_10 hcz22_11 hcz22_12 hcz22_13 hcz22_14 hcz22_15 hcz22_16
         try clear hcz22_2 hcz22_3 hcz22_4 hcz22_5 hcz22_6 hcz22_7 hcz22_8 hcz22_9
         try clear hcz28_0 hcz28_1
         try clear hcz28_10 hcz28_11 hcz28_12 hcz28_13 hcz28_14 hcz28_15 hcz28_16
         try clear hcz28_2 hcz28_3 hcz28_4 hcz28_5 hcz28_6 hcz28_7 hcz28_8 hcz28_9
         try clear hcz32_0 hcz32_1
         try clear hcz32_10 hcz32_11 hcz32_12 hcz32_13 hcz32_14 hcz32_15 hcz32_16
         try clear hcz32_2 hcz32_3 hcz32_4 hcz32_5 hcz32_6 hcz32_7 hcz32_8 hcz32_9
         try clear hcz34_0 hcz34_1
         try clear hcz34_10 hcz34_11 hcz34_12 hcz34_13 hcz34_14 hcz34_15 hcz34_16
         try clear hcz34_2 hcz34_3 hcz34_4 hcz34_5 hcz34_6 hcz34_7 hcz34_8 hcz34_9
         try clear hcz36_0 hcz36_1
         try clear hcz36_10 hcz36_11 hcz36_12 hcz36_13 hcz36_14 hcz36_15 hcz36_16
         try clear hcz36_2 hcz36_3 hcz36_4 hcz36_5 hcz36_6 hcz36_7 hcz36_8 hcz36_9
         try clear hcz40_0 hcz40_1
         try clear hcz40_10 hcz40_11 hcz40_12 hcz40_13 hcz40_14 hcz40_15 hcz40_16
         try clear hcz40_2 hcz40_3 hcz40_4 hcz40_5 hcz40_6 hcz40_7 hcz40_8 hcz40_9
         try clear hcz44_0 hcz44_1
         try clear hcz44_10 hcz44_11 hcz44_12 hcz44_13 hcz44_14 hcz44_15 hcz44_16
         try clear hcz44_2 hcz44_3 hcz44_4 hcz44_5 hcz44_6 hcz44_7 hcz44_8 hcz44_9
         try clear hcz46_0 hcz46_1
         try clear hcz46_10 hcz46_11 hcz46_12 hcz46_13 hcz46_14 hcz46_15 hcz46_16
         try clear hcz46_2 hcz46_3 hcz46_4 hcz46_5 hcz46_6 hcz46_7 hcz46_8 hcz46_9
         try clear hcz48_0 hcz48_1
         try clear hcz48_10 hcz48_11 hcz48_12 hcz48_13 hcz48_14 hcz48_15 hcz48_16
         try clear hcz48_2 hcz48_3 hcz48_4 hcz48_5 hcz48_6 hcz48_7 hcz48_8 hcz48_9
         try clear hcz50_0 hcz50_1
         try clear hcz50_10 hcz50_11 hcz50_12 hcz50_13 hcz50_14 hcz50_15 hcz50_16
         try clear hcz50_2 hcz50_3 hcz50_4 hcz50_5 hcz50_6 hcz50_7 hcz50_8 hcz50_9
         try clear hcz51_0 hcz51_1
         try clear hcz51_10 hcz51_11 hcz51_12 hcz51_13 hcz51_14 hcz51_15 hcz51_16
         try clear hcz51_2 hcz51_3 hcz51_4 hcz51_5 hcz51_6 hcz51_7 hcz51_8 hcz51_9
         try clear hcz52_0 hcz52_1
         try clear hcz52_10 hcz52_11 hcz52_12 hcz52_13 hcz52_14 hcz52_15 hcz52_16
         try clear hcz52_2 hcz52_3 hcz52_4 hcz52_5 hcz52_6 hcz52_7 hcz52_8 hcz52_9
         try clear hcz53_0 hcz53_1
         try clear hcz53_10 hcz53_11 hcz53_12 hcz53_13 hcz53_14 hcz53_15 hcz53_16
         try clear hcz53_2 hcz53_3 hcz53_4 hcz53_5 hcz53_6 hcz53_7 hcz53_8 hcz53_9
         obtain ⟨kq, x78_16, rfl, HA, HJ16, BK254, HB⟩ := hcut
         cases kq with
         | zero => exact absurd HA.out (by simp [spec_ModuleOk.j3])
         | succ kj16 =>
          have H := HA.out
          clear HA
          simp only [spec_ModuleOk.j3] at H
          by_cases c54 : x78_16 = true
          ·subst c54
           have H1 : (some false) = some r := by rw [if_pos rfl] at H; exact H
           clear H
           have H := H1
           clear H1
           obtain rfl := Option.some.inj H
           go_wp2_with (first | ((with_reducible refine Gv.gate_load (t := 38) rfl ?_); (try (refine gate_guard (by rfl) ?_; dsimp only)); refine wpList_load_row rfl 38 _ rfl gb254 rfl 38 _ _ _ (by first | exact Gv.kb0 BK254.out | exact Gv.kb1 (Gv.kb0 BK254.out)) Try.underlying38 rfl (by kernel_rfl) ?_))
           go_ret
           exact ⟨Gv.rt, Gv.bw⟩
          ·replace c54 := Bool.eq_false_iff.mpr c54
           subst c54
           have H1 : (if a0_0 = 1 then ((spec_PrefixOk.f kj16 a0_1 a0_2 a0_3 a0_4 a0_5 a0_6).bind fun t259 => (if t259 = true then ((spec_PrefixOk.f kj16 a0_7 a0_8 a0_9 a0_10 a0_11 a0_12).bind fun t260 => (if t260 = true then (if a0_13 ≥ (-1) then (if a0_13 ≤ 255 then ((spec_l09Range.f a0_14 a0_15).bind fun t261 => (some t261)) else (some false)) else (some false)) else (some false))) else (some false))) else (if a0_0 = 2 then (spec_ModuleOk.j4 kj16 a0_0 (a0_0 == 2) a0_0 a0_1 a0_2 a0_3 a0_4 a0_5 a0_6 a0_7 a0_8 a0_9 a0_10 a0_11 a0_12 a0_13 a0_14 a0_15 a0_16) else (spec_ModuleOk.j4 kj16 a0_0 (a0_0 == 3) a0_0 a0_1 a0_2 a0_3 a0_4 a0_5 a0_6 a0_7 a0_8 a0_9 a0_10 a0_11 a0_12 a0_13 a0_14 a0_15 a0_16))) = some r := by rw [if_neg (show ¬ (false = true) by decide)] at H; exact H
           clear H
           have H := H1
           clear H1
           by_cases c55 : a0_0 = 1
           ·rw [if_pos c55] at H
            have c55b0 : (a0_0 == 1) = true := beq_iff_eq.mpr c55
            have c55b1 : (a0_0 != 1) = false := bne_eq_false_iff_eq.mpr c55
            clear c55
            replace H := Option.bind_eq_some_iff.mp H
            obtain ⟨t259, A560, H⟩ := H
            replace H : (if t259 = true then ((spec_PrefixOk.f kj16 a0_7 a0_8 a0_9 a0_10 a0_11 a0_12).bind fun t260 => (if t260 = true then (if a0_13 ≥ (-1) then (if a0_13 ≤ 255 then ((spec_l09Range.f a0_14 a0_15).bind fun t261 => (some t261)) else (some false)) else (some false)) else (some false))) else (some false)) = some r := H
            have A56 := Gv.a0 A560
            clear A560
            by_cases c57 : t259 = true
            ·subst c57
             have H1 : ((spec_PrefixOk.f kj16 a0_7 a0_8 a0_9 a0_10 a0_11 a0_12).bind fun t260 => (if t260 = true then (if a0_13 ≥ (-1) then (if a0_13 ≤ 255 then ((spec_l09Range.f a0_14 a0_15).bind fun t261 => (some t261)) else (some false)) else (some false)) else (some false))) = some r := by rw [if_pos rfl] at H; exact H
             clear H
             have H := H1
             clear H1
             replace H := Option.bind_eq_some_iff.mp H
             obtain ⟨t260, A580, H⟩ := H
             replace H : (if t260 = true then (if a0_13 ≥ (-1) then (if a0_13 ≤ 255 then ((spec_l09Range.f a0_14 a0_15).bind fun t261 => (some t261)) else (some false)) else (some false)) else (some false)) = some r := H
             have A58 := Gv.a0 A580
             clear A580
             by_cases c59 : t260 = true
             ·subst c59
              have H1 : (if a0_13 ≥ (-1) then (if a0_13 ≤ 255 then ((spec_l09Range.f a0_14 a0_15).bind fun t261 => (some t261)) else (some false)) else (some false)) = some r := by rw [if_pos rfl] at H; exact H
              clear H
              have H := H1
              clear H1
              by_cases c60 : a0_13 ≥ (-1)
              ·rw [if_pos c60] at H
               have c60b0 : decide ((-1) ≤ a0_13) = true := decide_eq_true c60
               clear c60
               by_cases c61 : a0_13 ≤ 255
               ·rw [if_pos c61] at H
                have c61b0 : decide (a0_13 ≤ 255) = true := decide_eq_true c61
                clear c61
                replace H := Option.bind_eq_some_iff.mp H
                obtain ⟨t261, A620, H⟩ := H
                replace H : (some t261) = some r := H
                have A62 := Gv.a0 A620
                clear A620
                obtain rfl := Option.some.inj H
                obtain ⟨hcz63_0, hcz63_1, hcz63_2, hcz63_3, hcz63_4, hcz63_5, hcz63_6, hcz63_7, hcz63_8, hcz63_9, hcz63_10, hcz63_11, hcz63_12, hcz63_13, hcz63_14, hcz63_15, hcz63_16⟩ := Gv.c17 BK254.out
                go_wp2_with (first | ((with_reducible refine gate_callee (f := 40) rfl ?_); refine goesL_ (some 85) rfl rfl Try.func40 (by kernel_rfl) rfl #[.agg #[.int .i64 a0_1, .int .i64 a0_2, .int .i64 a0_3, .int .i64 a0_4, .int .i64 a0_5, .int .i64 a0_6]] rfl Gv.lm ?_; (with_reducible refine (spec_PrefixOk.calls kj16 a0_1 a0_2 a0_3 a0_4 a0_5 a0_6 true _ A56.out).mono ?_); rintro e w64 ⟨rfl, hb⟩; refine ⟨_, rfl, ?_⟩; have n0_ := Gv.a0 (Gv.bb BK254.out hb); have n1_ := Gv.a0 (below_step Gv.bw hb); clear BK254; clear HB; have BK254 := n0_; have HB := n1_; clear n0_ n1_; (try clear hb); (try clear hb2); (try clear hk); (try clear hi); obtain ⟨hcz65_0, hcz65_1, hcz65_2, hcz65_3, hcz65_4, hcz65_5, hcz65_6, hcz65_7, hcz65_8, hcz65_9, hcz65_10, hcz65_11, hcz65_12, hcz65_13, hcz65_14, hcz65_15, hcz65_16⟩ := Gv.c17 BK254.out) | (go_at_call 40; (with_reducible refine (spec_PrefixOk.calls kj16 a0_7 a0_8 a0_9 a0_10 a0_11 a0_12 true _ A58.out).mono ?_); rintro e w66 ⟨rfl, hb⟩; have n0_ := Gv.a0 (Gv.bb BK254.out hb); have n1_ := Gv.a0 (below_step Gv.bw hb); clear BK254; clear HB; have BK254 := n0_; have HB := n1_; clear n0_ n1_; (try clear hb); (try clear hb2); (try clear hk); (try clear hi); obtain ⟨hcz67_0, hcz67_1, hcz67_2, hcz67_3, hcz67_4, hcz67_5, hcz67_6, hcz67_7, hcz67_8, hcz67_9, hcz67_10, hcz67_11, hcz67_12, hcz67_13, hcz67_14, hcz67_15, hcz67_16⟩ := Gv.c17 BK254.out) | (go_at_call 41; (with_reducible refine (spec_l09Range.calls a0_14 a0_15 t261 _ A62.out).mono ?_); rintro e w' ⟨rfl, ⟨nd, rfl⟩⟩) | ((with_reducible refine Gv.gate_load (t := 38) rfl ?_); (try (refine gate_guard (by rfl) ?_; dsimp only)); refine wpList_load_row rfl 38 _ rfl gb254 rfl 38 _ _ _ (by first | exact Gv.kb0 BK254.out | exact Gv.kb1 (Gv.kb0 BK254.out)) Try.underlying38 rfl (by kernel_rfl) ?_))
                go_ret
                exact ⟨Gv.rt, Gv.bw⟩
               ·rw [if_neg c61] at H
                have c61b0 : decide (a0_13 ≤ 255) = false := decide_eq_false c61
                clear c61
                obtain rfl := Option.some.inj H
                obtain ⟨hcz68_0, hcz68_1, hcz68_2, hcz68_3, hcz68_4, hcz68_5, hcz68_6, hcz68_7, hcz68_8, hcz68_9, hcz68_10, hcz68_11, hcz68_12, hcz68_13, hcz68_14, hcz68_15, hcz68_16⟩ := Gv.c17 BK254.out
                go_wp2_with (first | ((with_reducible refine gate_callee (f := 40) rfl ?_); refine goesL_ (some 85) rfl rfl Try.func40 (by kernel_rfl) rfl #[.agg #[.int .i64 a0_1, .int .i64 a0_2, .int .i64 a0_3, .int .i64 a0_4, .int .i64 a0_5, .int .i64 a0_6]] rfl Gv.lm ?_; (with_reducible refine (spec_PrefixOk.calls kj16 a0_1 a0_2 a0_3 a0_4 a0_5 a0_6 true _ A56.out).mono ?_); rintro e w69 ⟨rfl, hb⟩; refine ⟨_, rfl, ?_⟩; have n0_ := Gv.a0 (Gv.bb BK254.out hb); have n1_ := Gv.a0 (below_step Gv.bw hb); clear BK254; clear HB; have BK254 := n0_; have HB := n1_; clear n0_ n1_; (try clear hb); (try clear hb2); (try clear hk); (try clear hi); obtain ⟨hcz70_0, hcz70_1, hcz70_2, hcz70_3, hcz70_4, hcz70_5, hcz70_6, hcz70_7, hcz70_8, hcz70_9, hcz70_10, hcz70_11, hcz70_12, hcz70_13, hcz70_14, hcz70_15, hcz70_16⟩ := Gv.c17 BK254.out) | (go_at_call 40; (with_reducible refine (spec_PrefixOk.calls kj16 a0_7 a0_8 a0_9 a0_10 a0_11 a0_12 true _ A58.out).mono ?_); rintro e w71 ⟨rfl, hb⟩; have n0_ := Gv.a0 (Gv.bb BK254.out hb); have n1_ := Gv.a0 (below_step Gv.bw hb); clear BK254; clear HB; have BK254 := n0_; have HB := n1_; clear n0_ n1_; (try clear hb); (try clear hb2); (try clear hk); (try clear hi); obtain ⟨hcz72_0, hcz72_1, hcz72_2, hcz72_3, hcz72_4, hcz72_5, hcz72_6, hcz72_7, hcz72_8, hcz72_9, hcz72_10, hcz72_11, hcz72_12, hcz72_13, hcz72_14, hcz72_15, hcz72_16⟩ := Gv.c17 BK254.out) | ((with_reducible refine Gv.gate_load (t := 38) rfl ?_); (try (refine gate_guard (by rfl) ?_; dsimp only)); refine wpList_load_row rfl 38 _ rfl gb254 rfl 38 _ _ _ (by first | exact Gv.kb0 BK254.out | exact Gv.kb1 (Gv.kb0 BK254.out)) Try.underlying38 rfl (by kernel_rfl) ?_))
                go_ret
                exact ⟨Gv.rt, Gv.bw⟩
              ·rw [if_neg c60] at H
               have c60b0 : decide ((-1) ≤ a0_13) = false := decide_eq_false c60
               clear c60
               obtain rfl := Option.some.inj H
               obtain ⟨hcz73_0, hcz73_1, hcz73_2, hcz73_3, hcz73_4, hcz73_5, hcz73_6, hcz73_7, hcz73_8, hcz73_9, hcz73_10, hcz73_11, hcz73_12, hcz73_13, hcz73_14, hcz73_15, hcz73_16⟩ := Gv.c17 BK254.out
               go_wp2_with (first | ((with_reducible refine gate_callee (f := 40) rfl ?_); refine goesL_ (some 85) rfl rfl Try.func40 (by kernel_rfl) rfl #[.agg #[.int .i64 a0_1, .int .i64 a0_2, .int .i64 a0_3, .int .i64 a0_4, .int .i64 a0_5, .int .i64 a0_6]] rfl Gv.lm ?_; (with_reducible refine (spec_PrefixOk.calls kj16 a0_1 a0_2 a0_3 a0_4 a0_5 a0_6 true _ A56.out).mono ?_); rintro e w74 ⟨rfl, hb⟩; refine ⟨_, rfl, ?_⟩; have n0_ := Gv.a0 (Gv.bb BK254.out hb); have n1_ := Gv.a0 (below_step Gv.bw hb); clear BK254; clear HB; have BK254 := n0_; have HB := n1_; clear n0_ n1_; (try clear hb); (try clear hb2); (try clear hk); (try clear hi); obtain ⟨hcz75_0, hcz75_1, hcz75_2, hcz75_3, hcz75_4, hcz75_5, hcz75_6, hcz75_7, hcz75_8, hcz75_9, hcz75_10, hcz75_11, hcz75_12, hcz75_13, hcz75_14, hcz75_15, hcz75_16⟩ := Gv.c17 BK254.out) | (go_at_call 40; (with_reducible refine (spec_PrefixOk.calls kj16 a0_7 a0_8 a0_9 a0_10 a0_11 a0_12 true _ A58.out).mono ?_); rintro e w76 ⟨rfl, hb⟩; have n0_ := Gv.a0 (Gv.bb BK254.out hb); have n1_ := Gv.a0 (below_step Gv.bw hb); clear BK254; clear HB; have BK254 := n0_; have HB := n1_; clear n0_ n1_; (try clear hb); (try clear hb2); (try clear hk); (try clear hi); obtain ⟨hcz77_0, hcz77_1, hcz77_2, hcz77_3, hcz77_4, hcz77_5, hcz77_6, hcz77_7, hcz77_8, hcz77_9, hcz77_10, hcz77_11, hcz77_12, hcz77_13, hcz77_14, hcz77_15, hcz77_16⟩ := Gv.c17 BK254.out) | ((with_reducible refine Gv.gate_load (t := 38) rfl ?_); (try (refine gate_guard (by rfl) ?_; dsimp only)); refine wpList_load_row rfl 38 _ rfl gb254 rfl 38 _ _ _ (by first | exact Gv.kb0 BK254.out | exact Gv.kb1 (Gv.kb0 BK254.out)) Try.underlying38 rfl (by kernel_rfl) ?_))
               go_ret
               exact ⟨Gv.rt, Gv.bw⟩
             ·replace c59 := Bool.eq_false_iff.mpr c59
              subst c59
              have H1 : (some false) = some r := by rw [if_neg (show ¬ (false = true) by decide)] at H; exact H
              clear H
              have H := H1
              clear H1
              obtain rfl := Option.some.inj H
              obtain ⟨hcz78_0, hcz78_1, hcz78_2, hcz78_3, hcz78_4, hcz78_5, hcz78_6, hcz78_7, hcz78_8, hcz78_9, hcz78_10, hcz78_11, hcz78_12, hcz78_13, hcz78_14, hcz78_15, hcz78_16⟩ := Gv.c17 BK254.out
              go_wp2_with (first | ((with_reducible refine gate_callee (f := 40) rfl ?_); refine goesL_ (some 85) rfl rfl Try.func40 (by kernel_rfl) rfl #[.agg #[.int .i64 a0_1, .int .i64 a0_2, .int .i64 a0_3, .int .i64 a0_4, .int .i64 a0_5, .int .i64 a0_6]] rfl Gv.lm ?_; (with_reducible refine (spec_PrefixOk.calls kj16 a0_1 a0_2 a0_3 a0_4 a0_5 a0_6 true _ A56.out).mono ?_); rintro e w79 ⟨rfl, hb⟩; refine ⟨_, rfl, ?_⟩; have n0_ := Gv.a0 (Gv.bb BK254.out hb); have n1_ := Gv.a0 (below_step Gv.bw hb); clear BK254; clear HB; have BK254 := n0_; have HB := n1_; clear n0_ n1_; (try clear hb); (try clear hb2); (try clear hk); (try clear hi); obtain ⟨hcz80_0, hcz80_1, hcz80_2, hcz80_3, hcz80_4, hcz80_5, hcz80_6, hcz80_7, hcz80_8, hcz80_9, hcz80_10, hcz80_11, hcz80_12, hcz80_13, hcz80_14, hcz80_15, hcz80_16⟩ := Gv.c17 BK254.out) | (go_at_call 40; (with_reducible refine (spec_PrefixOk.calls kj16 a0_7 a0_8 a0_9 a0_10 a0_11 a0_12 false _ A58.out).mono ?_); rintro e w81 ⟨rfl, hb⟩; have n0_ := Gv.a0 (Gv.bb BK254.out hb); have n1_ := Gv.a0 (below_step Gv.bw hb); clear BK254; clear HB; have BK254 := n0_; have HB := n1_; clear n0_ n1_; (try clear hb); (try clear hb2); (try clear hk); (try clear hi)) | ((with_reducible refine Gv.gate_load (t := 38) rfl ?_); (try (refine gate_guard (by rfl) ?_; dsimp only)); refine wpList_load_row rfl 38 _ rfl gb254 rfl 38 _ _ _ (by first | exact Gv.kb0 BK254.out | exact Gv.kb1 (Gv.kb0 BK254.out)) Try.underlying38 rfl (by kernel_rfl) ?_))
              go_ret
              exact ⟨Gv.rt, Gv.bw⟩
            ·replace c57 := Bool.eq_false_iff.mpr c57
             subst c57
             have H1 : (some false) = some r := by rw [if_neg (show ¬ (false = true) by decide)] at H; exact H
             clear H
             have H := H1
             clear H1
             obtain rfl := Option.some.inj H
             obtain ⟨hcz82_0, hcz82_1, hcz82_2, hcz82_3, hcz82_4, hcz82_5, hcz82_6, hcz82_7, hcz82_8, hcz82_9, hcz82_10, hcz82_11, hcz82_12, hcz82_13, hcz82_14, hcz82_15, hcz82_16⟩ := Gv.c17 BK254.out
             go_wp2_with (first | ((with_reducible refine gate_callee (f := 40) rfl ?_); refine goesL_ (some 85) rfl rfl Try.func40 (by kernel_rfl) rfl #[.agg #[.int .i64 a0_1, .int .i64 a0_2, .int .i64 a0_3, .int .i64 a0_4, .int .i64 a0_5, .int .i64 a0_6]] rfl Gv.lm ?_; (with_reducible refine (spec_PrefixOk.calls kj16 a0_1 a0_2 a0_3 a0_4 a0_5 a0_6 false _ A56.out).mono ?_); rintro e w83 ⟨rfl, hb⟩; refine ⟨_, rfl, ?_⟩; have n0_ := Gv.a0 (Gv.bb BK254.out hb); have n1_ := Gv.a0 (below_step Gv.bw hb); clear BK254; clear HB; have BK254 := n0_; have HB := n1_; clear n0_ n1_; (try clear hb); (try clear hb2); (try clear hk); (try clear hi)) | ((with_reducible refine Gv.gate_load (t := 38) rfl ?_); (try (refine gate_guard (by rfl) ?_; dsimp only)); refine wpList_load_row rfl 38 _ rfl gb254 rfl 38 _ _ _ (by first | exact Gv.kb0 BK254.out | exact Gv.kb1 (Gv.kb0 BK254.out)) Try.underlying38 rfl (by kernel_rfl) ?_))
             go_ret
             exact ⟨Gv.rt, Gv.bw⟩
           ·rw [if_neg c55] at H
            have c55b0 : (a0_0 == 1) = false := beq_eq_false_iff_ne.mpr c55
            have c55b1 : (a0_0 != 1) = true := bne_iff_ne.mpr c55
            have HC84 := Gv.a0 H
            clear H
            obtain ⟨hcz85_0, hcz85_1, hcz85_2, hcz85_3, hcz85_4, hcz85_5, hcz85_6, hcz85_7, hcz85_8, hcz85_9, hcz85_10, hcz85_11, hcz85_12, hcz85_13, hcz85_14, hcz85_15, hcz85_16⟩ := Gv.c17 BK254.out
            go_upto_if 108 with (fail)
            go_cut [108] (fun v108 wc => ∃ (kq : Nat) (x108_83 : Bool), v108 = .bool x108_83 ∧ Aside0 (spec_ModuleOk.j4 kq a0_0 x108_83 a0_0 a0_1 a0_2 a0_3 a0_4 a0_5 a0_6 a0_7 a0_8 a0_9 a0_10 a0_11 a0_12 a0_13 a0_14 a0_15 a0_16 = some r) ∧ Aside0 (kq ≤ kj16) ∧ Aside0 (wc.heap[gb254]? = some (.cells #[.int .i64 a0_0, .int .i64 a0_1, .int .i64 a0_2, .int .i64 a0_3, .int .i64 a0_4, .int .i64 a0_5, .int .i64 a0_6, .int .i64 a0_7, .int .i64 a0_8, .int .i64 a0_9, .int .i64 a0_10, .int .i64 a0_11, .int .i64 a0_12, .int .i64 a0_13, .int .i64 a0_14, .int .i64 a0_15, .int .i64 a0_16] 38 (0, 0))) ∧ Aside0 (Below w.heap.size w wc))
            case first =>
             have H := HC84.out
             clear HC84
             by_cases c86 : a0_0 = 2
             ·rw [if_pos c86] at H
              have c86b0 : (a0_0 == 2) = true := beq_iff_eq.mpr c86
              have c86b1 : (a0_0 != 2) = false := bne_eq_false_iff_eq.mpr c86
              clear c86
              (first | rw [c86b0] | (simp only [i64_w, i32_w]; rw [c86b0]) | skip)
              have H' := Gv.a0 H
              clear H
              go_wp2_with (first | ((with_reducible refine Gv.gate_load (t := 38) rfl ?_); (try (refine gate_guard (by rfl) ?_; dsimp only)); refine wpList_load_row rfl 38 _ rfl gb254 rfl 38 _ _ _ (by first | exact Gv.kb0 BK254.out | exact Gv.kb1 (Gv.kb0 BK254.out)) Try.underlying38 rfl (by kernel_rfl) ?_))
              refine Met.intro ?_
              go_step
              (repeat apply Exists.intro)
              refine ⟨?rel, ?eq_⟩
              case eq_ => first | rfl | (rw [c55b0]; rfl) | (rw [c86b0]; rfl) | (simp only [c55b0, c86b0]; rfl)
              case rel => exact ⟨_, ((a0_0 == 2)), Gv.rq, H', ⟨by have := HJ1.out; have := HJ7.out; have := HJ11.out; have := HJ16.out; first | omega | exact Nat.le_refl _⟩, ⟨by (with_reducible repeat (first | refine blk_drewN ?_ _ | refine blk_drew ?_ | refine blk_alloc ?_ _)); exact BK254.out⟩, ⟨Gv.bw⟩⟩
             ·rw [if_neg c86] at H
              have c86b0 : (a0_0 == 2) = false := beq_eq_false_iff_ne.mpr c86
              have c86b1 : (a0_0 != 2) = true := bne_iff_ne.mpr c86
              (first | rw [c86b0] | (simp only [i64_w, i32_w]; rw [c86b0]) | skip)
              have H' := Gv.a0 H
              clear H
              go_wp2_with (first | ((with_reducible refine Gv.gate_load (t := 38) rfl ?_); (try (refine gate_guard (by rfl) ?_; dsimp only)); refine wpList_load_row rfl 38 _ rfl gb254 rfl 38 _ _ _ (by first | exact Gv.kb0 BK254.out | exact Gv.kb1 (Gv.kb0 BK254.out)) Try.underlying38 rfl (by kernel_rfl) ?_))
              refine Met.intro ?_
              go_step
              (repeat apply Exists.intro)
              refine ⟨?rel, ?eq_⟩
              case eq_ => first | rfl | (rw [c55b0]; rfl) | (rw [c86b0]; rfl) | (simp only [c55b0, c86b0]; rfl)
              case rel => exact ⟨_, ((a0_0 == 3)), Gv.rq, H', ⟨by have := HJ1.out; have := HJ7.out; have := HJ11.out; have := HJ16.out; first | omega | exact Nat.le_refl _⟩, ⟨by (with_reducible repeat (first | refine blk_drewN ?_ _ | refine blk_drew ?_ | refine blk_alloc ?_ _)); exact BK254.out⟩, ⟨Gv.bw⟩⟩
            case rest =>
             clear HC84
             try clear p2
             try clear c4
             try clear c5
             try clear c6
             try clear c8
             try clear c40
             try clear c54
             try clear c55
             try clear c55b0
             try clear c55b1
             try clear c57
             try clear c59
             try clear c60
             try clear c60b0
             try clear c61
             try clear c61b0
             try clear c86
             try clear c86b0
             try clear c86b1
             try clear hcz52_2 hcz52_3 hcz52_4 hcz52_5 hcz52_6 hcz52_7 hcz52_8 hcz52_9
             try clear hcz53_0 hcz53_1
             try clear hcz53_10 hcz53_11 hcz53_12 hcz53_13 hcz53_14 hcz53_15 hcz53_16
             try clear hcz53_2 hcz53_3 hcz53_4 hcz53_5 hcz53_6 hcz53_7 hcz53_8 hcz53_9
             try clear hcz63_0 hcz63_1
             try clear hcz63_10 hcz63_11 hcz63_12 hcz63_13 hcz63_14 hcz63_15 hcz63_16
             try clear hcz63_2 hcz63_3 hcz63_4 hcz63_5 hcz63_6 hcz63_7 hcz63_8 hcz63_9
             try clear hcz65_0 hcz65_1
             try clear hcz65_10 hcz65_11 hcz65_12 hcz65_13 hcz65_14 hcz65_15 hcz65_16
             try clear hcz65_2 hcz65_3 hcz65_4 hcz65_5 hcz65_6 hcz65_7 hcz65_8 hcz65_9
             try clear hcz67_0 hcz67_1
             try clear hcz67_10 hcz67_11 hcz67_12 hcz67_13 hcz67_14 hcz67_15 hcz67_16
             try clear hcz67_2 hcz67_3 hcz67_4 hcz67_5 hcz67_6 hcz67_7 hcz67_8 hcz67_9
             try clear hcz68_0 hcz68_1
             try clear hcz68_10 hcz68_11 hcz68_12 hcz68_13 hcz68_14 hcz68_15 hcz68_16
             try clear hcz68_2 hcz68_3 hcz68_4 hcz68_5 hcz68_6 hcz68_7 hcz68_8 hcz68_9
             try clear hcz70_0 hcz70_1
             try clear hcz70_10 hcz70_11 hcz70_12 hcz70_13 hcz70_14 hcz70_15 hcz70_16
             try clear hcz70_2 hcz70_3 hcz70_4 hcz70_5 hcz70_6 hcz70_7 hcz70_8 hcz70_9
             try clear hcz72_0 hcz72_1
             try clear hcz72_10 hcz72_11 hcz72_12 hcz72_13 hcz72_14 hcz72_15 hcz72_16
             try clear hcz72_2 hcz72_3 hcz72_4 hcz72_5 hcz72_6 hcz72_7 hcz72_8 hcz72_9
             try clear hcz73_0 hcz73_1
             try clear hcz73_10 hcz73_11 hcz73_12 hcz73_13 hcz73_14 hcz73_15 hcz73_16
             try clear hcz73_2 hcz73_3 hcz73_4 hcz73_5 hcz73_6 hcz73_7 hcz73_8 hcz73_9
             try clear hcz75_0 hcz75_1
             try clear hcz75_10 hcz75_11 hcz75_12 hcz75_13 hcz75_14 hcz75_15 hcz75_16
             try clear hcz75_2 hcz75_3 hcz75_4 hcz75_5 hcz75_6 hcz75_7 hcz75_8 hcz75_9
             try clear hcz77_0 hcz77_1
             try clear hcz77_10 hcz77_11 hcz77_12 hcz77_13 hcz77_14 hcz77_15 hcz77_16
             try clear hcz77_2 hcz77_3 hcz77_4 hcz77_5 hcz77_6 hcz77_7 hcz77_8 hcz77_9
             try clear hcz78_0 hcz78_1
             try clear hcz78_10 hcz78_11 hcz78_12 hcz78_13 hcz78_14 hcz78_15 hcz78_16
             try clear hcz78_2 hcz78_3 hcz78_4 hcz78_5 hcz78_6 hcz78_7 hcz78_8 hcz78_9
             try clear hcz80_0 hcz80_1
             try clear hcz80_10 hcz80_11 hcz80_12 hcz80_13 hcz80_14 hcz80_15 hcz80_16
             try clear hcz80_2 hcz80_3 hcz80_4 hcz80_5 hcz80_6 hcz80_7 hcz80_8 hcz80_9
             try clear hcz82_0 hcz82_1
             try clear hcz82_10 hcz82_11 hcz82_12 hcz82_13 hcz82_14 hcz82_15 hcz82_16
             try clear hcz82_2 hcz82_3 hcz82_4 hcz82_5 hcz82_6 hcz82_7 hcz82_8 hcz82_9
             try clear hcz85_0 hcz85_1
             try clear hcz85_10 hcz85_11 hcz85_12 hcz85_13 hcz85_14 hcz85_15 hcz85_16
             try clear hcz85_2 hcz85_3 hcz85_4 hcz85_5 hcz85_6 hcz85_7 hcz85_8 hcz85_9
             obtain ⟨kq, x108_83, rfl, HA, HJ83, BK254, HB⟩ := hcut
             cases kq with
             | zero => exact absurd HA.out (by simp [spec_ModuleOk.j4])
             | succ kj83 =>
              have H := HA.out
              clear HA
              simp only [spec_ModuleOk.j4] at H
              by_cases c87 : x108_83 = true
              ·subst c87
               have H1 : ((spec_l10Twins.f kj83 a0_1 a0_2 a0_3 a0_4 a0_5 a0_6 a0_7 a0_8 a0_9 a0_10 a0_11 a0_12).bind fun t262 => (some t262)) = some r := by rw [if_pos rfl] at H; exact H
               clear H
               have H := H1
               clear H1
               replace H := Option.bind_eq_some_iff.mp H
               obtain ⟨t262, A880, H⟩ := H
               replace H : (some t262) = some r := H
               have A88 := Gv.a0 A880
               clear A880
               obtain rfl := Option.some.inj H
               obtain ⟨hcz89_0, hcz89_1, hcz89_2, hcz89_3, hcz89_4, hcz89_5, hcz89_6, hcz89_7, hcz89_8, hcz89_9, hcz89_10, hcz89_11, hcz89_12, hcz89_13, hcz89_14, hcz89_15, hcz89_16⟩ := Gv.c17 BK254.out
               go_wp2_with (first | ((with_reducible refine gate_callee (f := 31) rfl ?_); refine goesL_ (some 115) rfl rfl Try.func31 (by kernel_rfl) rfl #[.agg #[.int .i64 a0_1, .int .i64 a0_2, .int .i64 a0_3, .int .i64 a0_4, .int .i64 a0_5, .int .i64 a0_6], .agg #[.int .i64 a0_7, .int .i64 a0_8, .int .i64 a0_9, .int .i64 a0_10, .int .i64 a0_11, .int .i64 a0_12]] rfl Gv.lm ?_; (with_reducible refine (spec_l10Twins.calls kj83 a0_1 a0_2 a0_3 a0_4 a0_5 a0_6 a0_7 a0_8 a0_9 a0_10 a0_11 a0_12 t262 _ A88.out).mono ?_); rintro e w90 ⟨rfl, hb⟩; refine ⟨_, rfl, ?_⟩; have n0_ := Gv.a0 (Gv.bb BK254.out hb); have n1_ := Gv.a0 (below_step Gv.bw hb); clear BK254; clear HB; have BK254 := n0_; have HB := n1_; clear n0_ n1_; (try clear hb); (try clear hb2); (try clear hk); (try clear hi)) | ((with_reducible refine Gv.gate_load (t := 38) rfl ?_); (try (refine gate_guard (by rfl) ?_; dsimp only)); refine wpList_load_row rfl 38 _ rfl gb254 rfl 38 _ _ _ (by first | exact Gv.kb0 BK254.out | exact Gv.kb1 (Gv.kb0 BK254.out)) Try.underlying38 rfl (by kernel_rfl) ?_))
               go_ret
               exact ⟨Gv.rt, Gv.bw⟩
              ·replace c87 := Bool.eq_false_iff.mpr c87
               subst c87
               have H1 : (if a0_0 = 5 then ((spec_l05In.f a0_16 63).bind fun t263 => (some t263)) else (if a0_0 = 7 then (if a0_16 ≥ 1 then (some (decide (a0_16 ≤ 4))) else (some false)) else (some true))) = some r := by rw [if_neg (show ¬ (false = true) by decide)] at H; exact H
               clear H
               have H := H1
               clear H1
               by_cases c91 : a0_0 = 5
               ·rw [if_pos c91] at H
                have c91b0 : (a0_0 == 5) = true := beq_iff_eq.mpr c91
                have c91b1 : (a0_0 != 5) = false := bne_eq_false_iff_eq.mpr c91
                clear c91
                replace H := Option.bind_eq_some_iff.mp H
                obtain ⟨t263, A920, H⟩ := H
                replace H : (some t263) = some r := H
                have A92 := Gv.a0 A920
                clear A920
                obtain rfl := Option.some.inj H
                obtain ⟨hcz93_0, hcz93_1, hcz93_2, hcz93_3, hcz93_4, hcz93_5, hcz93_6, hcz93_7, hcz93_8, hcz93_9, hcz93_10, hcz93_11, hcz93_12, hcz93_13, hcz93_14, hcz93_15, hcz93_16⟩ := Gv.c17 BK254.out
                go_wp2_with (first | ((with_reducible refine gate_callee (f := 42) rfl ?_); refine goesL_ (some 120) rfl rfl Try.func42 (by kernel_rfl) rfl #[.int .i64 a0_16, .int .i64 63] rfl Gv.lm ?_; (with_reducible refine (spec_l05In.calls a0_16 63 t263 _ A92.out).mono ?_); rintro e w' ⟨rfl, ⟨nd, rfl⟩⟩; refine ⟨_, rfl, ?_⟩) | ((with_reducible refine Gv.gate_load (t := 38) rfl ?_); (try (refine gate_guard (by rfl) ?_; dsimp only)); refine wpList_load_row rfl 38 _ rfl gb254 rfl 38 _ _ _ (by first | exact Gv.kb0 BK254.out | exact Gv.kb1 (Gv.kb0 BK254.out)) Try.underlying38 rfl (by kernel_rfl) ?_))
                go_ret
                exact ⟨Gv.rt, Gv.bw⟩
               ·rw [if_neg c91] at H
                have c91b0 : (a0_0 == 5) = false := beq_eq_false_iff_ne.mpr c91
                have c91b1 : (a0_0 != 5) = true := bne_iff_ne.mpr c91
                by_cases c94 : a0_0 = 7
                ·rw [if_pos c94] at H
                 have c94b0 : (a0_0 == 7) = true := beq_iff_eq.mpr c94
                 have c94b1 : (a0_0 != 7) = false := bne_eq_false_iff_eq.mpr c94
                 clear c94
                 by_cases c95 : a0_16 ≥ 1
                 ·rw [if_pos c95] at H
                  have c95b0 : decide (1 ≤ a0_16) = true := decide_eq_true c95
                  clear c95
                  obtain rfl := Option.some.inj H
                  obtain ⟨hcz96_0, hcz96_1, hcz96_2, hcz96_3, hcz96_4, hcz96_5, hcz96_6, hcz96_7, hcz96_8, hcz96_9, hcz96_10, hcz96_11, hcz96_12, hcz96_13, hcz96_14, hcz96_15, hcz96_16⟩ := Gv.c17 BK254.out
                  go_wp2_with (first | ((with_reducible refine Gv.gate_load (t := 38) rfl ?_); (try (refine gate_guard (by rfl) ?_; dsimp only)); refine wpList_load_row rfl 38 _ rfl gb254 rfl 38 _ _ _ (by first | exact Gv.kb0 BK254.out | exact Gv.kb1 (Gv.kb0 BK254.out)) Try.underlying38 rfl (by kernel_rfl) ?_))
                  go_ret
                  exact ⟨Gv.rt, Gv.bw⟩
                 ·rw [if_neg c95] at H
                  have c95b0 : decide (1 ≤ a0_16) = false := decide_eq_false c95
                  clear c95
                  obtain rfl := Option.some.inj H
                  obtain ⟨hcz97_0, hcz97_1, hcz97_2, hcz97_3, hcz97_4, hcz97_5, hcz97_6, hcz97_7, hcz97_8, hcz97_9, hcz97_10, hcz97_11, hcz97_12, hcz97_13, hcz97_14, hcz97_15, hcz97_16⟩ := Gv.c17 BK254.out
                  go_wp2_with (first | ((with_reducible refine Gv.gate_load (t := 38) rfl ?_); (try (refine gate_guard (by rfl) ?_; dsimp only)); refine wpList_load_row rfl 38 _ rfl gb254 rfl 38 _ _ _ (by first | exact Gv.kb0 BK254.out | exact Gv.kb1 (Gv.kb0 BK254.out)) Try.underlying38 rfl (by kernel_rfl) ?_))
                  go_ret
                  exact ⟨Gv.rt, Gv.bw⟩
                ·rw [if_neg c94] at H
                 have c94b0 : (a0_0 == 7) = false := beq_eq_false_iff_ne.mpr c94
                 have c94b1 : (a0_0 != 7) = true := bne_iff_ne.mpr c94
                 obtain rfl := Option.some.inj H
                 go_wp2_with (first | ((with_reducible refine Gv.gate_load (t := 38) rfl ?_); (try (refine gate_guard (by rfl) ?_; dsimp only)); refine wpList_load_row rfl 38 _ rfl gb254 rfl 38 _ _ _ (by first | exact Gv.kb0 BK254.out | exact Gv.kb1 (Gv.kb0 BK254.out)) Try.underlying38 rfl (by kernel_rfl) ?_))
                 go_ret
                 exact ⟨Gv.rt, Gv.bw⟩

/-! ### spec_ChainOk: function 17 -/
def spec_ChainOk.l0 : Nat → List (S38) → Int → Option (Bool)
 | 0, _, _ => none
 | k + 1, x0, x3 => if x3 < (x0.length : Int) then (if 0 ≤ x3 then ((spec_ModuleOk.f k ((rd_T38 x0 x3).f0) ((rd_T38 x0 x3).f1.f0.f0) ((rd_T38 x0 x3).f1.f0.f1) ((rd_T38 x0 x3).f1.f0.f2) ((rd_T38 x0 x3).f1.f0.f3) ((rd_T38 x0 x3).f1.f0.f4) ((rd_T38 x0 x3).f1.f1) ((rd_T38 x0 x3).f2.f0.f0) ((rd_T38 x0 x3).f2.f0.f1) ((rd_T38 x0 x3).f2.f0.f2) ((rd_T38 x0 x3).f2.f0.f3) ((rd_T38 x0 x3).f2.f0.f4) ((rd_T38 x0 x3).f2.f1) ((rd_T38 x0 x3).f3) ((rd_T38 x0 x3).f4) ((rd_T38 x0 x3).f5) ((rd_T38 x0 x3).f6)).bind fun t265 => (if t265 = true then (spec_ChainOk.l0 k x0 (wrap64 (x3 + 1))) else (some false))) else (none)) else (some true)
def spec_ChainOk.f (k : Nat) (l0 : List (S38)) : Option (Bool) := if (l0.length : Int) > 8 then (some false) else (spec_ChainOk.l0 k l0 0)
theorem spec_ChainOk.mono_l : ∀ k, (∀ y0 y1, LeO (spec_ChainOk.l0 k y0 y1) (spec_ChainOk.l0 (k + 1) y0 y1))
 | 0 => fun _ _ r h => by simp [spec_ChainOk.l0] at h
 | k + 1 => by
  have ih0 := spec_ChainOk.mono_l k
  ·intro y0 y1
   unfold spec_ChainOk.l0
   repeat' first
   | (with_reducible exact ih0 _ _)
   | (with_reducible exact spec_ModuleOk.mono _ _ _ _ _ _ _ _ _ _ _ _ _ _ _ _ _ _)
   | (with_reducible exact LeO.refl _)
   | (with_reducible exact LeO.none _)
   | (with_reducible refine LeO.ite ?_ ?_)
   | (with_reducible refine LeO.bind ?_ (fun _ => ?_))
   | exact ih0 _ _
   | exact spec_ModuleOk.mono _ _ _ _ _ _ _ _ _ _ _ _ _ _ _ _ _ _
   | exact LeO.none _
   | refine LeO.ite ?_ ?_
   | refine LeO.bind ?_ (fun _ => ?_)
theorem spec_ChainOk.mono : ∀ a0 k, LeO (spec_ChainOk.f k a0) (spec_ChainOk.f (k + 1) a0) := by
 intro a0 k
 have ih0 := spec_ChainOk.mono_l k
 unfold spec_ChainOk.f
 repeat' first
   | (with_reducible exact ih0 _ _)
   | (with_reducible exact spec_ModuleOk.mono _ _ _ _ _ _ _ _ _ _ _ _ _ _ _ _ _ _)
   | (with_reducible exact LeO.refl _)
   | (with_reducible exact LeO.none _)
   | (with_reducible refine LeO.ite ?_ ?_)
   | (with_reducible refine LeO.bind ?_ (fun _ => ?_))
   | exact ih0 _ _
   | exact spec_ModuleOk.mono _ _ _ _ _ _ _ _ _ _ _ _ _ _ _ _ _ _
   | exact LeO.none _
   | refine LeO.ite ?_ ?_
   | refine LeO.bind ?_ (fun _ => ?_)
set_option maxHeartbeats 8000000 in
set_option maxRecDepth 100000 in
theorem spec_ChainOk.calls (k : Nat) (A0 : Option Addr) (c0 : Nat) (l0 : List (S38)) (r : Bool) (w : World) (hr0 : Kd.C k38 w A0 l0.length l0) (hc0 : l0.length ≤ c0) (h : spec_ChainOk.f k l0 = some r) :
  Calls Try.prog 17 #[.slice A0 l0.length c0] w fun e w' => e = .returned (.bool r) ∧ Below w.heap.size w w' := by
 have hu38 := Try.underlying38
 have HR0 := Gv.a0 hr0
 have HC0 := Gv.a0 hc0
 clear hr0 hc0
 have HB := Gv.a0 (Below.refl w.heap.size w)
 have H : (if (l0.length : Int) > 8 then (some false) else (spec_ChainOk.l0 k l0 0)) = some r := h
 clear h
 by_cases c2 : (l0.length : Int) > 8
 ·rw [if_pos c2] at H
  have c2b0 : decide (8 < (l0.length : Int)) = true := decide_eq_true c2
  have c2b1 : decide (8 < l0.length) = true := decide_eq_true (by omega)
  clear c2
  obtain rfl := Option.some.inj H
  go_enter Try.func17, Try.ntmps17
  go_wp2
  go_ret
  exact ⟨Gv.rt, Gv.bw⟩
 ·rw [if_neg c2] at H
  have c2b0 : decide (8 < (l0.length : Int)) = false := decide_eq_false c2
  have c2b1 : decide (8 < l0.length) = false := decide_eq_false (by omega)
  clear c2
  have H' := Gv.a0 H
  clear H
  go_enter Try.func17, Try.ntmps17
  go_wp2
  go_loopg [3] k (fun kq v3 w' => ∃ (x3_1 : Int), v3 = .int .i64 x3_1 ∧ Aside0 (spec_ChainOk.l0 kq l0 x3_1 = some r) ∧ Aside0 (kq ≤ k) ∧ Aside0 (Below w.heap.size w w'))
  case atStart => exact ⟨(0), Gv.rq, H', ⟨Nat.le_refl _⟩, ⟨Gv.bw⟩⟩
  case round =>
   clear H'
   try clear c1
   try clear c2
   try clear c2b0
   try clear c2b1
   try clear p2
   obtain ⟨x3_1, rfl, HA, HK1, HB⟩ := hrel
   cases gk with
   | zero => exact absurd HA.out (by simp [spec_ChainOk.l0])
   | succ k1 =>
    have H := HA.out
    clear HA
    simp only [spec_ChainOk.l0] at H
    by_cases c3 : x3_1 < (l0.length : Int)
    ·rw [if_pos c3] at H
     have c3b0 : decide (x3_1 < (l0.length : Int)) = true := decide_eq_true c3
     clear c3
     by_cases c4 : 0 ≤ x3_1
     ·rw [if_pos c4] at H
      have c4b0 : decide (0 ≤ x3_1) = true := decide_eq_true c4
      clear c4
      replace H := Option.bind_eq_some_iff.mp H
      obtain ⟨t265, A50, H⟩ := H
      replace H : (if t265 = true then (spec_ChainOk.l0 k1 l0 (wrap64 (x3_1 + 1))) else (some false)) = some r := H
      have A5 := Gv.a0 A50
      clear A50
      by_cases c6 : t265 = true
      ·subst c6
       have H1 : (spec_ChainOk.l0 k1 l0 (wrap64 (x3_1 + 1))) = some r := by rw [if_pos rfl] at H; exact H
       clear H
       have H := H1
       clear H1
       have H' := Gv.a0 H
       clear H
       have p264 : 0 ≤ (x3_1 : Int) := of_decide_eq_true (by first | (with_reducible assumption) | assumption)
       have q264 : x3_1 < (l0.length : Int) := of_decide_eq_true (by first | (with_reducible assumption) | assumption)
       obtain ⟨ad264, e264, hx264_0, hx264_1, hx264_2, hx264_3, hx264_4, hx264_5, hx264_6, hx264_7, hx264_8, hx264_9, hx264_10, hx264_11, hx264_12, hx264_13, hx264_14, hx264_15, hx264_16⟩ := at_T38 HR0.out x3_1 p264 q264
       cases e264
       replace hx264_0 := Gv.bx HB.out hx264_0
       replace hx264_1 := Gv.bx HB.out hx264_1
       replace hx264_2 := Gv.bx HB.out hx264_2
       replace hx264_3 := Gv.bx HB.out hx264_3
       replace hx264_4 := Gv.bx HB.out hx264_4
       replace hx264_5 := Gv.bx HB.out hx264_5
       replace hx264_6 := Gv.bx HB.out hx264_6
       replace hx264_7 := Gv.bx HB.out hx264_7
       replace hx264_8 := Gv.bx HB.out hx264_8
       replace hx264_9 := Gv.bx HB.out hx264_9
       replace hx264_10 := Gv.bx HB.out hx264_10
       replace hx264_11 := Gv.bx HB.out hx264_11
       replace hx264_12 := Gv.bx HB.out hx264_12
       replace hx264_13 := Gv.bx HB.out hx264_13
       replace hx264_14 := Gv.bx HB.out hx264_14
       replace hx264_15 := Gv.bx HB.out hx264_15
       replace hx264_16 := Gv.bx HB.out hx264_16
       replace p264 := eq_true p264
       replace q264 := eq_true q264
       go_wp2_with (first | ((with_reducible refine gate_callee (f := 13) rfl ?_); refine goesL_ (some 17) rfl rfl Try.func13 (by kernel_rfl) rfl #[.agg #[.int .i64 ((rd_T38 l0 x3_1).f0), .int .i64 ((rd_T38 l0 x3_1).f1.f0.f0), .int .i64 ((rd_T38 l0 x3_1).f1.f0.f1), .int .i64 ((rd_T38 l0 x3_1).f1.f0.f2), .int .i64 ((rd_T38 l0 x3_1).f1.f0.f3), .int .i64 ((rd_T38 l0 x3_1).f1.f0.f4), .int .i64 ((rd_T38 l0 x3_1).f1.f1), .int .i64 ((rd_T38 l0 x3_1).f2.f0.f0), .int .i64 ((rd_T38 l0 x3_1).f2.f0.f1), .int .i64 ((rd_T38 l0 x3_1).f2.f0.f2), .int .i64 ((rd_T38 l0 x3_1).f2.f0.f3), .int .i64 ((rd_T38 l0 x3_1).f2.f0.f4), .int .i64 ((rd_T38 l0 x3_1).f2.f1), .int .i64 ((rd_T38 l0 x3_1).f3), .int .i64 ((rd_T38 l0 x3_1).f4), .int .i64 ((rd_T38 l0 x3_1).f5), .int .i64 ((rd_T38 l0 x3_1).f6)]] rfl Gv.lm ?_; (with_reducible refine (spec_ModuleOk.calls k1 _ _ _ _ _ _ _ _ _ _ _ _ _ _ _ _ _ true _ A5.out).mono ?_); rintro e w7 ⟨rfl, hb⟩; refine ⟨_, rfl, ?_⟩; have n0_ := Gv.a0 (below_step Gv.bw hb); clear HB; have HB := n0_; clear n0_; (try clear hb); (try clear hb2); (try clear hk); (try clear hi)) | ((with_reducible refine Gv.gate_load (t := 38) rfl ?_); refine Gv.load_event (cs := [_, _, _, _, _, _, _, _, _, _, _, _, _, _, _, _, _]) rfl rfl rfl ⟨hx264_0, hx264_1, hx264_2, hx264_3, hx264_4, hx264_5, hx264_6, hx264_7, hx264_8, hx264_9, hx264_10, hx264_11, hx264_12, hx264_13, hx264_14, hx264_15, hx264_16, trivial⟩ Try.underlying38 rfl (by kernel_rfl) ?_))
       go_roundg k1
       case measure => have := HK1.out; omega
       case rel => exact ⟨(wrap64 (x3_1 + 1)), Gv.rq, H', ⟨by have := HK1.out; omega⟩, ⟨Gv.bw⟩⟩
      ·replace c6 := Bool.eq_false_iff.mpr c6
       subst c6
       have H1 : (some false) = some r := by rw [if_neg (show ¬ (false = true) by decide)] at H; exact H
       clear H
       have H := H1
       clear H1
       obtain rfl := Option.some.inj H
       have p264 : 0 ≤ (x3_1 : Int) := of_decide_eq_true (by first | (with_reducible assumption) | assumption)
       have q264 : x3_1 < (l0.length : Int) := of_decide_eq_true (by first | (with_reducible assumption) | assumption)
       obtain ⟨ad264, e264, hx264_0, hx264_1, hx264_2, hx264_3, hx264_4, hx264_5, hx264_6, hx264_7, hx264_8, hx264_9, hx264_10, hx264_11, hx264_12, hx264_13, hx264_14, hx264_15, hx264_16⟩ := at_T38 HR0.out x3_1 p264 q264
       cases e264
       replace hx264_0 := Gv.bx HB.out hx264_0
       replace hx264_1 := Gv.bx HB.out hx264_1
       replace hx264_2 := Gv.bx HB.out hx264_2
       replace hx264_3 := Gv.bx HB.out hx264_3
       replace hx264_4 := Gv.bx HB.out hx264_4
       replace hx264_5 := Gv.bx HB.out hx264_5
       replace hx264_6 := Gv.bx HB.out hx264_6
       replace hx264_7 := Gv.bx HB.out hx264_7
       replace hx264_8 := Gv.bx HB.out hx264_8
       replace hx264_9 := Gv.bx HB.out hx264_9
       replace hx264_10 := Gv.bx HB.out hx264_10
       replace hx264_11 := Gv.bx HB.out hx264_11
       replace hx264_12 := Gv.bx HB.out hx264_12
       replace hx264_13 := Gv.bx HB.out hx264_13
       replace hx264_14 := Gv.bx HB.out hx264_14
       replace hx264_15 := Gv.bx HB.out hx264_15
       replace hx264_16 := Gv.bx HB.out hx264_16
       replace p264 := eq_true p264
       replace q264 := eq_true q264
       go_wp2_with (first | ((with_reducible refine gate_callee (f := 13) rfl ?_); refine goesL_ (some 17) rfl rfl Try.func13 (by kernel_rfl) rfl #[.agg #[.int .i64 ((rd_T38 l0 x3_1).f0), .int .i64 ((rd_T38 l0 x3_1).f1.f0.f0), .int .i64 ((rd_T38 l0 x3_1).f1.f0.f1), .int .i64 ((rd_T38 l0 x3_1).f1.f0.f2), .int .i64 ((rd_T38 l0 x3_1).f1.f0.f3), .int .i64 ((rd_T38 l0 x3_1).f1.f0.f4), .int .i64 ((rd_T38 l0 x3_1).f1.f1), .int .i64 ((rd_T38 l0 x3_1).f2.f0.f0), .int .i64 ((rd_T38 l0 x3_1).f2.f0.f1), .int .i64 ((rd_T38 l0 x3_1).f2.f0.f2), .int .i64 ((rd_T38 l0 x3_1).f2.f0.f3), .int .i64 ((rd_T38 l0 x3_1).f2.f0.f4), .int .i64 ((rd_T38 l0 x3_1).f2.f1), .int .i64 ((rd_T38 l0 x3_1).f3), .int .i64 ((rd_T38 l0 x3_1).f4), .int .i64 ((rd_T38 l0 x3_1).f5), .int .i64 ((rd_T38 l0 x3_1).f6)]] rfl Gv.lm ?_; (with_reducible refine (spec_ModuleOk.calls k1 _ _ _ _ _ _ _ _ _ _ _ _ _ _ _ _ _ false _ A5.out).mono ?_); rintro e w8 ⟨rfl, hb⟩; refine ⟨_, rfl, ?_⟩; have n0_ := Gv.a0 (below_step Gv.bw hb); clear HB; have HB := n0_; clear n0_; (try clear hb); (try clear hb2); (try clear hk); (try clear hi)) | ((with_reducible refine Gv.gate_load (t := 38) rfl ?_); refine Gv.load_event (cs := [_, _, _, _, _, _, _, _, _, _, _, _, _, _, _, _, _]) rfl rfl rfl ⟨hx264_0, hx264_1, hx264_2, hx264_3, hx264_4, hx264_5, hx264_6, hx264_7, hx264_8, hx264_9, hx264_10, hx264_11, hx264_12, hx264_13, hx264_14, hx264_15, hx264_16, trivial⟩ Try.underlying38 rfl (by kernel_rfl) ?_))
       go_ret
       exact ⟨Gv.rt, Gv.bw⟩
     ·rw [if_neg c4] at H
      exact absurd H (by simp)
    ·rw [if_neg c3] at H
     have c3b0 : decide (x3_1 < (l0.length : Int)) = false := decide_eq_false c3
     clear c3
     obtain rfl := Option.some.inj H
     go_wp2
     go_ret
     exact ⟨Gv.rt, Gv.bw⟩

/-! ### spec_BackChain: function 27 -/
def spec_BackChain.f (k : Nat) (l0 : List (S38)) : Option ((List (S38))) := if l0.length ≤ 1048576 then (spec_ChainOk.f k l0).bind (fun b => some (if b = true then (l0.reverse.filterMap (fun m : S38 => if m.f0 = 2 then some (⟨3, m.f2, m.f1, 0, 0, 0, 0⟩ : S38) else if m.f0 = 3 then some (⟨2, m.f2, m.f1, 0, 0, 0, 0⟩ : S38) else none)) else [])) else none
theorem spec_BackChain.mono : ∀ a0 k, LeO (spec_BackChain.f k a0) (spec_BackChain.f (k + 1) a0) := by
 intro a0 k
 unfold spec_BackChain.f
 repeat' first
   | (with_reducible exact spec_ChainOk.mono _ _)
   | (with_reducible exact LeO.refl _)
   | (with_reducible exact LeO.none _)
   | (with_reducible refine LeO.ite ?_ ?_)
   | (with_reducible refine LeO.bind ?_ (fun _ => ?_))
   | exact spec_ChainOk.mono _ _
   | exact LeO.none _
   | refine LeO.ite ?_ ?_
   | refine LeO.bind ?_ (fun _ => ?_)
namespace Bs
open Go Go.RowKit
/-- A module's cells. -/
abbrev czS (x : S38) : List Value := [.int .i64 x.f0, .int .i64 x.f1.f0.f0, .int .i64 x.f1.f0.f1, .int .i64 x.f1.f0.f2, .int .i64 x.f1.f0.f3, .int .i64 x.f1.f0.f4, .int .i64 x.f1.f1, .int .i64 x.f2.f0.f0, .int .i64 x.f2.f0.f1, .int .i64 x.f2.f0.f2, .int .i64 x.f2.f0.f3, .int .i64 x.f2.f0.f4, .int .i64 x.f2.f1, .int .i64 x.f3, .int .i64 x.f4, .int .i64 x.f5, .int .i64 x.f6]
theorem cz_oneS (x : S38) : (czS x).toArray.all (·.oneCell') = true := by simp [Value.oneCell']
/-- A whole struct laid into a box, in a region that draws its order. -/
theorem store_step {P : Program} {ops : Array Oper} {Q : Exit → Act → World → Prop} {oi : Oper} {a : Act} {W : World} {K : Act → World → Prop} {t : TypeId} {p v : Operand} {g : Nat} {old cells : Array Value} (hw : Region.wanted oi (yielded ops a.tmps) = true) (hN : oi.dst = none) (ho : oi.op = .store t p v) (hx : a.eval p = .pointer (some ⟨g, 0, none⟩)) (hy : a.eval v = .agg cells) (hg : W.heap[g]? = some (.cells old t (0, 0))) (hi : (P.info? t).map (·.size) = some cells.size) (hold : old.size = cells.size) (h1 : cells.all (·.oneCell') = true)
  (h : ∀ w1 : World, w1.heap[g]? = some (.cells cells t (0, 0)) → (∀ i, i ≠ g → w1.heap[i]? = W.heap[i]?) → (∀ w0 : World, Below w0.heap.size w0 W → w0.heap.size ≤ g → Below w0.heap.size w0 w1) → K a w1) : if Region.wanted oi (yielded ops a.tmps) = true then Oper.wp P oi a W K Q else K (a.put none undef) W := by
 have hrun := run_storeVar_row (P := P) W g t t old cells hg hi hold h1
 refine skip_ (w1 := W.setRow g cells) hw hN ?_ ?_
 ·unfold execOp
  simp only [ho, hx, hy, Instr.storeAt, Instr.sureAddr, Sem.run_bind, Sem.run_pure, Result.andThen_ok, hrun]
 ·have hother : ∀ i, i ≠ g → (W.setRow g cells).heap[i]? = W.heap[i]? := by
   intro i hi
   simp only [World.setRow, Array.getElem?_modify]
   rw [if_neg (fun e => hi e.symm)]
  refine h _ ?_ hother ?_
  ·simp only [World.setRow, Array.getElem?_modify]
   rw [if_pos trivial, hg]
   rfl
  ·intro w0 hb hle
   exact hb.trans ⟨rfl, rfl, rfl, by simp [World.setRow], fun k hk => hother k (by omega)⟩
def T7 : Bool × List (List Nat × List Nat) := (true, [([], []), ([], []), ([0, 1], [0, 1]), ([2], [2]), ([3], [3]), ([], []), ([], []), ([5, 6], [5, 6]), ([7], [7]), ([8], [8]), ([4, 9], [4, 9]), ([], []), ([11, 10, 0, 1, 2, 3, 4, 5, 6, 7, 8, 9, 10, 11], [10, 11])])
def B7 : List Nat := [0, 0, 3, 7, 15, 0, 0, 96, 224, 480, 1023, 0, 4095]
theorem tab7 : rtab .any (opsOf Try.f27 7) = T7 := by kernel_rfl
theorem bits7 : waitsOk T7.2 B7 = true := by kernel_rfl
/-- The way back of oneS module. -/
def oneS (m : S38) : Option S38 := if m.f0 = 2 then some ⟨3, m.f2, m.f1, 0, 0, 0, 0⟩ else if m.f0 = 3 then some ⟨2, m.f2, m.f1, 0, 0, 0, 0⟩ else none
def bkS (l : List S38) : List S38 := l.reverse.filterMap oneS
theorem reps_flatS (base : Nat) (ok : Nat → Prop) (w : World) : ∀ l : List S38, Reps (k38.M w base ok) 17 l (l.flatMap czS)
 | [] => Reps.none _ _
 | x :: l => Reps.front (k38_mkM w base ok x) rfl (reps_flatS base ok w l) rfl
theorem CA_drew {w : World} {A : Addr} : ∀ {cs : List Value} {k : Nat}, Gv.CA w A k cs → Gv.CA w.drew A k cs
 | [], _, _ => trivial
 | _ :: _, _, h => ⟨h.1, CA_drew h.2⟩
theorem CA_below {w w1 : World} {A : Addr} : ∀ {cs : List Value} {k : Nat}, Gv.CA w A k cs → Below w.heap.size w w1 → Gv.CA w1 A k cs
 | [], _, _, _ => trivial
 | _ :: _, _, h, hb => ⟨pw_cell_below hb h.1, CA_below h.2 hb⟩
theorem CA_lt {w : World} {A : Addr} {v : Value} {cs : List Value} (h : Gv.CA w A 0 (v :: cs)) : A.block < w.heap.size := World.block_lt_of_cell? _ _ h.1
theorem drop_rev (l : List S38) (i : Int) (h0 : 0 ≤ i) (h1 : i < l.length) : (l.drop i.toNat).reverse = (l.drop (i + 1).toNat).reverse ++ [rd_T38 l i] := by
 obtain ⟨k, rfl⟩ : ∃ k : Nat, i = k := ⟨i.toNat, by omega⟩
 rw [show ((k : Int) + 1).toNat = k + 1 by omega, Int.toNat_natCast, List.drop_eq_getElem_cons (by omega), List.reverse_cons]
 unfold rd_T38
 rw [Int.toNat_natCast, List.getD_eq_getElem?_getD, List.getElem?_eq_getElem (by omega)]
 rfl
set_option maxRecDepth 100000 in
set_option maxHeartbeats 8000000 in
theorem spec_true (A0 : Option Addr) (c0 : Nat) (l0 : List S38) (w : World) (hr0 : Kd.C k38 w A0 l0.length l0) (hlen : l0.length ≤ 1048576)
  (hok : ∀ W, Below w.heap.size w W → Calls Try.prog 17 #[.slice A0 l0.length c0] W fun e w' => e = .returned (.bool true) ∧ Below W.heap.size W w') :
  Calls Try.prog 27 #[.slice A0 l0.length c0] w fun e W' => ∃ v, e = .returned v ∧ Kd.R k38 38 W' w.heap.size (fun _ => True) v (bkS l0) ∧ Below w.heap.size w W' := by
 have hu29 := Try.underlying29
 have hu38 := Try.underlying38
 have HR0 := Gv.a0 hr0
 have HOK := Gv.a0 hok
 clear hr0 hok
 have HB := Gv.a0 (Below.refl w.heap.size w)
 go_enter Try.func27, Try.ntmps27
 go_wp2_with (first | ((with_reducible refine gate_dst (N := 6) rfl ?_); refine Kd.R_lit k38 _ 38 ?hg (N := 6) ?hd (xs := ([] : List (S38))) (inner := []) (ok := fun _ => True) (okp := fun _ => True) ?hr ?hp (fun _ hk => hk) trivial (Below.refl _ _) (Nat.le_refl _) (by simp) ?_; (case hd => rfl); (case hg => rfl); (case hr => first | (go_simp; done) | (go_simp; rfl)); (case hp => exact (Reps.none _ _)); intro v267 w4 ho5 hb hg_ hnew_; clear hg_ hnew_; have n0_ := Gv.a0 (Kd.R_lower ho5 (below_size Gv.bw)); have n1_ := Gv.a0 (below_step Gv.bw hb); clear HB; have HO := n0_; have HB := n1_; clear n0_ n1_; clear hb ho5) | ((with_reducible refine gate_callee (f := 17) rfl ?_); refine goesL_ (some 8) rfl rfl Try.func17 (by kernel_rfl) rfl #[.slice A0 l0.length c0] rfl Gv.lm ?_; refine (HOK.out _ HB.out).mono ?_; rintro e w6 ⟨rfl, hb⟩; refine ⟨_, rfl, ?_⟩; have n0_ := Gv.a0 (Kd.R_below (Gv.kr HO.out) hb); have n1_ := Gv.a0 (below_step Gv.bw hb); clear HO HB; have HO := n0_; have HB := n1_; clear n0_ n1_ hb))
 go_loopg [3, 4] (l0.length) (fun gg v3 v4 w' => ∃ (x3 : List S38) (i : Int), v4 = .int .i64 i ∧ -1 ≤ i ∧ i < (l0.length : Int) ∧ (i + 1).toNat ≤ gg ∧ Aside0 (x3 = ((l0.drop (i + 1).toNat).reverse).filterMap oneS) ∧ Aside0 ((x3.length : Int) ≤ l0.length - (i + 1)) ∧ Aside0 (Kd.R k38 38 w' w.heap.size (fun _ => True) v3 x3) ∧ Aside0 (Below w.heap.size w w'))
 case atStart => exact ⟨[], (l0.length : Int) - 1, rfl, by omega, by omega, by omega, ⟨by rw [show ((l0.length : Int) - 1 + 1).toNat = l0.length by omega, List.drop_length]; rfl⟩, ⟨by simp⟩, ⟨Gv.kr HO.out⟩, ⟨Gv.bw⟩⟩
 case round =>
  obtain ⟨x3, i, rfl, hi1, hi2, hgg, HX3, HL, HO, HB⟩ := hrel
  by_cases hi : 0 ≤ i
  ·obtain ⟨ad, rfl, hx0, hx1, hx2, hx3, hx4, hx5, hx6, hx7, hx8, hx9, hx10, hx11, hx12, _, _, _, _⟩ := at_T38 HR0.out i hi hi2
   have HT := Gv.a0 (drop_rev l0 i hi hi2)
   obtain ⟨y, hy_⟩ : ∃ y, y = rd_T38 l0 i := ⟨_, rfl⟩
   rw [← hy_] at HT hx0 hx1 hx2 hx3 hx4 hx5 hx6 hx7 hx8 hx9 hx10 hx11 hx12
   obtain ⟨f0, ⟨⟨a0, a1, a2, a3, a4⟩, a5⟩, ⟨⟨b0, b1, b2, b3, b4⟩, b5⟩, f3, f4, f5, f6⟩ := y
   have H1 : Aside0 (Gv.CA w ⟨(ad.add (i.toNat * 17)).block, (ad.add (i.toNat * 17)).off + 1, none⟩ 0 [.int .i64 a0, .int .i64 a1, .int .i64 a2, .int .i64 a3, .int .i64 a4, .int .i64 a5]) := ⟨⟨hx1, hx2, hx3, hx4, hx5, hx6, trivial⟩⟩
   have H7 : Aside0 (Gv.CA w ⟨(ad.add (i.toNat * 17)).block, (ad.add (i.toNat * 17)).off + 7, none⟩ 0 [.int .i64 b0, .int .i64 b1, .int .i64 b2, .int .i64 b3, .int .i64 b4, .int .i64 b5]) := ⟨⟨hx7, hx8, hx9, hx10, hx11, hx12, trivial⟩⟩
   have H0 := Gv.a0 hx0
   clear hx0 hx1 hx2 hx3 hx4 hx5 hx6 hx7 hx8 hx9 hx10 hx11 hx12 hy_
   go_wp2_with fail
   have n0_ := Gv.a0 (Kd.R_drew HO.out)
   have n1_ := Gv.a0 (below_drew1 HB.out)
   clear HO HB
   have HO := n0_
   have HB := n1_
   clear n0_ n1_
   refine start_ (n := 13) (S := fun w' => Gv.CA w' ⟨(ad.add (i.toNat * 17)).block, (ad.add (i.toNat * 17)).off + 7, none⟩ 0 [.int .i64 b0, .int .i64 b1, .int .i64 b2, .int .i64 b3, .int .i64 b4, .int .i64 b5] ∧ Gv.CA w' ⟨(ad.add (i.toNat * 17)).block, (ad.add (i.toNat * 17)).off + 1, none⟩ 0 [.int .i64 a0, .int .i64 a1, .int .i64 a2, .int .i64 a3, .int .i64 a4, .int .i64 a5]) (ds := []) #[false, false, false, false, false, false, false, false, false, false, false, false, false] (by kernel_rfl) rfl rfl ⟨CA_below H7.out HB.out, CA_below H1.out HB.out⟩ (fun hHeld => ?_)
   refine with_tabW tab7 bits7 (fun HT_ HW_ => ?_)
   generalize wr.drew = w12 at HO HB hHeld ⊢
   refine Gv.pu 0 (some 18) HT_ ?_
   refine Gv.pu 1 (some 19) HT_ ?_
   refine Gv.pu 2 (some 20) HT_ ?_
   refine Gv.pu 3 (some 21) HT_ ?_
   refine Gv.pu 5 (some 23) HT_ ?_
   refine Gv.pu 6 (some 24) HT_ ?_
   refine Gv.pu 7 (some 25) HT_ ?_
   refine Gv.pu 8 (some 26) HT_ ?_
   refine take_ (i := 4) (N := some 22) (v := ?_) (a' := ?_) #[true, true, true, true, true, true, true, true, true, false, false, false, false] rfl rfl (take_ofW HT_.out HW_.out (by kernel_rfl)) (fun _ _ _ h => h) (Or.inl ⟨by rfl, ?_⟩) hHeld ?_ ?_
   rotate_left
   ·rintro w' ⟨s0, s1⟩
    refine Gv.load_run (t := 29) (cs := [.int .i64 b0, .int .i64 b1, .int .i64 b2, .int .i64 b3, .int .i64 b4, .int .i64 b5]) (x := ?xx1) ?ho1 ?hx1 s0 Try.underlying29 rfl (by kernel_rfl)
    case ho1 => rfl
    case hx1 => rfl
   rotate_left
   ·simp only [Act.put, List.setIfInBounds_toArray, List.set_cons_zero, List.set_cons_succ, i64_w, i32_w]
    rfl
   refine take_ (i := 9) (N := some 27) (v := ?_) (a' := ?_) #[true, true, true, true, true, true, true, true, true, true, false, false, false] rfl rfl (take_ofW HT_.out HW_.out (by kernel_rfl)) (fun _ _ _ h => h) (Or.inl ⟨by rfl, ?_⟩) hHeld ?_ ?_
   rotate_left
   ·rintro w' ⟨s0, s1⟩
    refine Gv.load_run (t := 29) (cs := [.int .i64 a0, .int .i64 a1, .int .i64 a2, .int .i64 a3, .int .i64 a4, .int .i64 a5]) (x := ?xx2) ?ho2 ?hx2 s1 Try.underlying29 rfl (by kernel_rfl)
    case ho2 => rfl
    case hx2 => rfl
   rotate_left
   ·simp only [Act.put, List.setIfInBounds_toArray, List.set_cons_zero, List.set_cons_succ, i64_w, i32_w]
    rfl
   refine Gv.pu 10 (some 28) HT_ ?_
   refine one_ (i := 11) (N := some 5) #[true, true, true, true, true, true, true, true, true, true, true, true, false] rfl rfl (one_of HT_.out (by kernel_rfl)) (by decide) (fun K hK => ?_)
   refine box_step ?hg (N := 5) ?hd (cs := #[.int .i64 0, .int .i64 0, .int .i64 0, .int .i64 0, .int .i64 0, .int .i64 0, .int .i64 0, .int .i64 0, .int .i64 0, .int .i64 0, .int .i64 0, .int .i64 0, .int .i64 0, .int .i64 0, .int .i64 0, .int .i64 0, .int .i64 0]) (t := 38) ?hr ?_; (case hd => rfl); (case hg => rfl); (case hr => exact Gv.alloc_run rfl (by kernel_rfl))
   intro gb hg w13 hbox hb
   have n0_ := Gv.a0 (Kd.R_below (Kd.R_elderB (Gv.kr HO.out) gb (Nat.le_of_eq hg.symm)) hb)
   have n1_ := Gv.a0 (below_step Gv.bw hb)
   have BK := Gv.a0 hbox
   have GE := Gv.a0 (Gv.ble hg Gv.bw : w.heap.size ≤ gb)
   clear HO HB hHeld
   have HO := n0_
   have HB := n1_
   clear n0_ n1_ hb hbox hg
   refine hK.out _ _ ⟨CA_below H7.out HB.out, CA_below H1.out HB.out⟩ (fun hHeld => ?_)
   clear hK K hHeld
   refine norm_ (a' := ?_) ?_ ?_
   rotate_left
   ·show Act.put _ (some 5) _ = _
    simp only [Act.put, List.setIfInBounds_toArray, List.set_cons_zero, List.set_cons_succ, i64_w, i32_w]
    rfl
   refine one_ (i := 12) (N := none) #[true, true, true, true, true, true, true, true, true, true, true, true, true] rfl rfl (one_of HT_.out (by kernel_rfl)) (by decide) (fun K hK => ?_)
   refine store_step (g := gb) (cells := #[.int .i64 0, .int .i64 b0, .int .i64 b1, .int .i64 b2, .int .i64 b3, .int .i64 b4, .int .i64 b5, .int .i64 a0, .int .i64 a1, .int .i64 a2, .int .i64 a3, .int .i64 a4, .int .i64 a5, .int .i64 0, .int .i64 0, .int .i64 0, .int .i64 0]) (by rfl) rfl rfl rfl rfl BK.out (by kernel_rfl) rfl (by simp [Value.oneCell']) ?_
   intro w14 hbox hoth hbel
   have n0_ := Gv.a0 (Kd.R_move HO.out (fun k hk => hoth k hk.2))
   have n1_ := Gv.a0 (hbel w HB.out GE.out)
   have n2_ := Gv.a0 hbox
   clear HO HB BK
   have HO := n0_
   have HB := n1_
   have BK := n2_
   clear n0_ n1_ n2_ hbox hoth hbel
   refine hK.out _ _ ⟨CA_below H7.out HB.out, CA_below H1.out HB.out⟩ (fun hHeld => ?_)
   clear hK K hHeld
   refine done_ (done_of HT_.out (by kernel_rfl)) ?_
   clear HT_ HW_
   have hx0 := Gv.bx HB.out H0.out
   have hk0 := (blk_cell BK.out 0).trans rfl
   by_cases h2 : f0 = 2
   ·subst h2
    have hh : oneS (⟨2, ⟨⟨a0, a1, a2, a3, a4⟩, a5⟩, ⟨⟨b0, b1, b2, b3, b4⟩, b5⟩, f3, f4, f5, f6⟩ : S38) = some (⟨3, ⟨⟨b0, b1, b2, b3, b4⟩, b5⟩, ⟨⟨a0, a1, a2, a3, a4⟩, a5⟩, 0, 0, 0, 0⟩ : S38) := rfl
    have HG := Gv.a0 hh
    clear hh
    go_wp2_with (first | ((with_reducible refine gate_store (t := 3) rfl ?_); refine Gv.put_event (g := gb) rfl rfl rfl rfl rfl (Gv.kb BK.out) (by kernel_rfl) (by simp) ?_; intro wp hbox hoth hbel; simp only [List.setIfInBounds_toArray, List.set_cons_succ, List.set_cons_zero] at hbox; have n0_ := Gv.a0 hbox; have n1_ := Gv.a0 (hbel w HB.out GE.out); have n2_ := Gv.a0 (Kd.R_move HO.out (fun k hk => hoth k hk.2)); clear BK HB HO; have BK := n0_; have HB := n1_; have HO := n2_; clear n0_ n1_ n2_ hbox hoth hbel; have hk0 := (blk_cell BK.out 0).trans rfl) | ((with_reducible refine Gv.gate_load (t := 38) rfl ?_); refine wpList_load_row rfl 38 _ rfl gb rfl 38 _ _ _ (Gv.kb BK.out) Try.underlying38 rfl (by kernel_rfl) ?_) | ((with_reducible refine gate_builtin (b := .append) (xs := #[.tmp 43, .tmp 45]) rfl ?_); at_builtin; refine Kd.R_append k38 (w0 := w) w.heap.size rfl (.tmp 43) (.tmp 45) 44 38 (.agg #[.int .i64 0, .int .i64 0, .int .i64 0, .int .i64 0, .int .i64 0, .int .i64 0, .int .i64 0, .int .i64 0, .int .i64 0, .int .i64 0, .int .i64 0, .int .i64 0, .int .i64 0, .int .i64 0, .int .i64 0, .int .i64 0, .int .i64 0]) 136 rfl Try.underlying44 info38 rfl (by decide) (by omega) u3 x3 (⟨3, ⟨⟨b0, b1, b2, b3, b4⟩, b5⟩, ⟨⟨a0, a1, a2, a3, a4⟩, a5⟩, 0, 0, 0, 0⟩ : S38) [.int .i64 3, .int .i64 b0, .int .i64 b1, .int .i64 b2, .int .i64 b3, .int .i64 b4, .int .i64 b5, .int .i64 a0, .int .i64 a1, .int .i64 a2, .int .i64 a3, .int .i64 a4, .int .i64 a5, .int .i64 0, .int .i64 0, .int .i64 0, .int .i64 0] (fun k_ => True ∧ k_ ≠ gb) (fun _ => False) rfl (by first | (go_simp; done) | (go_simp; rfl)) (k38_mkM _ _ _ _) (fun _ hk => hk.elim) (fun k_ hk => ⟨trivial, Kd.freshB (Gv.kb BK.out) k_ hk⟩) (Gv.kr HO.out) (Gv.bw) (below_size Gv.bw) (by have := HL.out; omega) ?_; intro v1 wa ho hb hg hat; have n0_ := Gv.a0 hb; have n1_ := Gv.a0 (Kd.R_mono ho (fun k_ hk => (trivial : True))); clear HB HO; have HB := n0_; have HO := n1_; clear n0_ n1_ ho hb hg hat))
    go_roundg i.toNat
    case measure => omega
    case rel =>
     refine ⟨x3 ++ [(⟨3, ⟨⟨b0, b1, b2, b3, b4⟩, b5⟩, ⟨⟨a0, a1, a2, a3, a4⟩, a5⟩, 0, 0, 0, 0⟩ : S38)], i - 1, rfl, by omega, by omega, by omega, ⟨?_⟩, ⟨?_⟩, HO, HB⟩
     ·rw [HX3.out, show i - 1 + 1 = i by omega, HT.out, List.filterMap_append]
      simp [HG.out]
     ·have := HL.out
      simp
      omega
   by_cases h3 : f0 = 3
   ·subst h3
    have hh : oneS (⟨3, ⟨⟨a0, a1, a2, a3, a4⟩, a5⟩, ⟨⟨b0, b1, b2, b3, b4⟩, b5⟩, f3, f4, f5, f6⟩ : S38) = some (⟨2, ⟨⟨b0, b1, b2, b3, b4⟩, b5⟩, ⟨⟨a0, a1, a2, a3, a4⟩, a5⟩, 0, 0, 0, 0⟩ : S38) := rfl
    have HG := Gv.a0 hh
    clear hh
    go_wp2_with (first | ((with_reducible refine gate_store (t := 3) rfl ?_); refine Gv.put_event (g := gb) rfl rfl rfl rfl rfl (Gv.kb BK.out) (by kernel_rfl) (by simp) ?_; intro wp hbox hoth hbel; simp only [List.setIfInBounds_toArray, List.set_cons_succ, List.set_cons_zero] at hbox; have n0_ := Gv.a0 hbox; have n1_ := Gv.a0 (hbel w HB.out GE.out); have n2_ := Gv.a0 (Kd.R_move HO.out (fun k hk => hoth k hk.2)); clear BK HB HO; have BK := n0_; have HB := n1_; have HO := n2_; clear n0_ n1_ n2_ hbox hoth hbel; have hk0 := (blk_cell BK.out 0).trans rfl) | ((with_reducible refine Gv.gate_load (t := 38) rfl ?_); refine wpList_load_row rfl 38 _ rfl gb rfl 38 _ _ _ (Gv.kb BK.out) Try.underlying38 rfl (by kernel_rfl) ?_) | ((with_reducible refine gate_builtin (b := .append) (xs := #[.tmp 43, .tmp 45]) rfl ?_); at_builtin; refine Kd.R_append k38 (w0 := w) w.heap.size rfl (.tmp 43) (.tmp 45) 44 38 (.agg #[.int .i64 0, .int .i64 0, .int .i64 0, .int .i64 0, .int .i64 0, .int .i64 0, .int .i64 0, .int .i64 0, .int .i64 0, .int .i64 0, .int .i64 0, .int .i64 0, .int .i64 0, .int .i64 0, .int .i64 0, .int .i64 0, .int .i64 0]) 136 rfl Try.underlying44 info38 rfl (by decide) (by omega) u3 x3 (⟨2, ⟨⟨b0, b1, b2, b3, b4⟩, b5⟩, ⟨⟨a0, a1, a2, a3, a4⟩, a5⟩, 0, 0, 0, 0⟩ : S38) [.int .i64 2, .int .i64 b0, .int .i64 b1, .int .i64 b2, .int .i64 b3, .int .i64 b4, .int .i64 b5, .int .i64 a0, .int .i64 a1, .int .i64 a2, .int .i64 a3, .int .i64 a4, .int .i64 a5, .int .i64 0, .int .i64 0, .int .i64 0, .int .i64 0] (fun k_ => True ∧ k_ ≠ gb) (fun _ => False) rfl (by first | (go_simp; done) | (go_simp; rfl)) (k38_mkM _ _ _ _) (fun _ hk => hk.elim) (fun k_ hk => ⟨trivial, Kd.freshB (Gv.kb BK.out) k_ hk⟩) (Gv.kr HO.out) (Gv.bw) (below_size Gv.bw) (by have := HL.out; omega) ?_; intro v1 wa ho hb hg hat; have n0_ := Gv.a0 hb; have n1_ := Gv.a0 (Kd.R_mono ho (fun k_ hk => (trivial : True))); clear HB HO; have HB := n0_; have HO := n1_; clear n0_ n1_ ho hb hg hat))
    go_roundg i.toNat
    case measure => omega
    case rel =>
     refine ⟨x3 ++ [(⟨2, ⟨⟨b0, b1, b2, b3, b4⟩, b5⟩, ⟨⟨a0, a1, a2, a3, a4⟩, a5⟩, 0, 0, 0, 0⟩ : S38)], i - 1, rfl, by omega, by omega, by omega, ⟨?_⟩, ⟨?_⟩, HO, HB⟩
     ·rw [HX3.out, show i - 1 + 1 = i by omega, HT.out, List.filterMap_append]
      simp [HG.out]
     ·have := HL.out
      simp
      omega
   have hm : oneS (⟨f0, ⟨⟨a0, a1, a2, a3, a4⟩, a5⟩, ⟨⟨b0, b1, b2, b3, b4⟩, b5⟩, f3, f4, f5, f6⟩ : S38) = none := by
    unfold oneS
    rw [if_neg h2, if_neg h3]
   have HG := Gv.a0 hm
   clear hm
   have e2 : (f0 == 2) = false := by simp [h2]
   have e3 : (f0 == 3) = false := by simp [h3]
   go_wp2_with fail
   go_roundg i.toNat
   case measure => omega
   case rel => exact ⟨x3, i - 1, rfl, by omega, by omega, by omega, ⟨by rw [HX3.out, show i - 1 + 1 = i by omega, HT.out, List.filterMap_append]; simp [HG.out]⟩, ⟨by have := HL.out; omega⟩, ⟨Kd.R_mono HO.out (fun _ _ => trivial)⟩, HB⟩
  ·have hl : x3 = bkS l0 := by
    rw [HX3.out, show (i + 1).toNat = 0 by omega, List.drop_zero]
    rfl
   have HBK := Gv.a0 hl
   clear hl
   go_wp2_with fail
   go_ret
   exact ⟨_, rfl, by rw [← HBK.out]; exact HO.out, HB.out⟩
end Bs
set_option maxHeartbeats 8000000 in
set_option maxRecDepth 100000 in
theorem spec_BackChain.calls (k : Nat) (A0 : Option Addr) (c0 : Nat) (l0 : List (S38)) (r : List (S38)) (w : World) (hr0 : Kd.C k38 w A0 l0.length l0) (hc0 : l0.length ≤ c0) (h : spec_BackChain.f k l0 = some r) :
  Calls Try.prog 27 #[.slice A0 l0.length c0] w fun e w' => ∃ v0_ : Value, e = .returned (v0_) ∧ Kd.R k38 38 w' w.heap.size (fun _ => True) v0_ r ∧ Below w.heap.size w w' := by
 unfold spec_BackChain.f at h
 by_cases hl : l0.length ≤ 1048576
 rotate_left
 ·rw [if_neg hl] at h
  cases h
 rw [if_pos hl] at h
 obtain ⟨b, h1, h⟩ := Option.bind_eq_some_iff.mp h
 obtain rfl := Option.some.inj h
 clear h
 cases b with
 | true =>
  rw [if_pos rfl]
  exact Bs.spec_true A0 c0 l0 w hr0 hl (fun W hW => spec_ChainOk.calls k A0 c0 l0 true W (Kd.C_below hr0 hW) hc0 h1)
 | false =>
  rw [if_neg (by decide)]
  have HR0 := Gv.a0 hr0
  have HC0 := Gv.a0 hc0
  have A2 := Gv.a0 h1
  have HB := Gv.a0 (Below.refl w.heap.size w)
  clear hr0 hc0 h1
  go_enter Try.func27, Try.ntmps27
  go_wp2_with (first | ((with_reducible refine gate_dst (N := 6) rfl ?_); refine Kd.R_lit k38 _ 38 ?hg (N := 6) ?hd (xs := ([] : List (S38))) (inner := []) (ok := fun _ => True) (okp := fun _ => True) ?hr ?hp (fun _ hk => hk) trivial (Below.refl _ _) (Nat.le_refl _) (by simp) ?_; (case hd => rfl); (case hg => rfl); (case hr => first | (go_simp; done) | (go_simp; rfl)); (case hp => exact (Reps.none _ _)); intro v267 w4 ho5 hb hg_ hnew_; clear hg_ hnew_; have n0_ := Gv.a0 (Kd.R_lower ho5 (below_size Gv.bw)); have n1_ := Gv.a0 (below_step Gv.bw hb); clear HB; have HO := n0_; have HB := n1_; clear n0_ n1_; clear hb ho5) | ((with_reducible refine gate_callee (f := 17) rfl ?_); refine goesL_ (some 8) rfl rfl Try.func17 (by kernel_rfl) rfl #[.slice A0 l0.length c0] rfl Gv.lm ?_; refine (spec_ChainOk.calls k _ _ l0 false _ (Kd.C_below HR0.out Gv.bw) HC0.out A2.out).mono ?_; rintro e w6 ⟨rfl, hb⟩; refine ⟨_, rfl, ?_⟩; have n0_ := Gv.a0 (below_step Gv.bw hb); have n1_ := Gv.a0 (Kd.R_below (Gv.kr HO.out) hb); clear HO; have HO := n1_; clear n1_; clear HB; have HB := n0_; clear n0_ hb))
  go_ret
  exact ⟨_, Gv.rt, by first | exact HO.out | exact Kd.R_nil _ _ _ _ _, Gv.bw⟩

/-! ### impl_within: function 44 -/
def impl_within.f (a0 : Int) (a1 : Int) (a2 : Int) : Option (Bool) := if a0 ≥ a1 then (some (decide (a0 ≤ a2))) else (some false)
set_option maxHeartbeats 8000000 in
set_option maxRecDepth 100000 in
theorem impl_within.calls (a0 : Int) (a1 : Int) (a2 : Int) (r : Bool) (w : World) (h : impl_within.f a0 a1 a2 = some r) :
  Calls Try.prog 44 #[.int .i64 a0, .int .i64 a1, .int .i64 a2] w fun e w' => e = .returned (.bool r) ∧ Drawn0 w w' := by
 have H : (if a0 ≥ a1 then (some (decide (a0 ≤ a2))) else (some false)) = some r := h
 clear h
 by_cases c4 : a0 ≥ a1
 ·rw [if_pos c4] at H
  have c4b0 : decide (a1 ≤ a0) = true := decide_eq_true c4
  clear c4
  obtain rfl := Option.some.inj H
  go_enter Try.func44, Try.ntmps44
  go_wp2
  go_ret
  exact ⟨by first | rfl | (simp; done) | (simp [Int.tdiv_eq_ediv_of_nonneg]; done) | (simp [*]; done), by repeat (first | exact Drawn0.refl _ | apply Drawn0.step)⟩
 ·rw [if_neg c4] at H
  have c4b0 : decide (a1 ≤ a0) = false := decide_eq_false c4
  clear c4
  obtain rfl := Option.some.inj H
  go_enter Try.func44, Try.ntmps44
  go_wp2
  go_ret
  exact ⟨by first | rfl | (simp; done) | (simp [Int.tdiv_eq_ediv_of_nonneg]; done) | (simp [*]; done), by repeat (first | exact Drawn0.refl _ | apply Drawn0.step)⟩

/-! ### impl_isAny: function 66 -/
def impl_isAny.f (a0_0 : Int) (a0_1 : Int) (a0_2 : Int) (a0_3 : Int) (a0_4 : Int) (a0_5 : Int) : Option (Bool) := some ((a0_0 == 0 && (a0_1 == 0 && (a0_2 == 0 && (a0_3 == 0 && (a0_4 == 0))))) && (a0_5 == 0))
set_option maxHeartbeats 8000000 in
set_option maxRecDepth 100000 in
theorem impl_isAny.calls (a0_0 : Int) (a0_1 : Int) (a0_2 : Int) (a0_3 : Int) (a0_4 : Int) (a0_5 : Int) (r : Bool) (w : World) (h : impl_isAny.f a0_0 a0_1 a0_2 a0_3 a0_4 a0_5 = some r) :
  Calls Try.prog 66 #[.agg #[.int .i64 a0_0, .int .i64 a0_1, .int .i64 a0_2, .int .i64 a0_3, .int .i64 a0_4, .int .i64 a0_5]] w fun e w' => e = .returned (.bool r) ∧ Below w.heap.size w w' := by
 have hu29 := Try.underlying29
 have HB := Gv.a0 (Below.refl w.heap.size w)
 have H : (some ((a0_0 == 0 && (a0_1 == 0 && (a0_2 == 0 && (a0_3 == 0 && (a0_4 == 0))))) && (a0_5 == 0))) = some r := h
 clear h
 obtain rfl := Option.some.inj H
 go_enter Try.func66, Try.ntmps66
 go_wp2_with (first | ((with_reducible refine gate_dst (N := 1) rfl ?_); refine box_event ?hg (N := 1) ?hd (cs := #[.int .i64 a0_0, .int .i64 a0_1, .int .i64 a0_2, .int .i64 a0_3, .int .i64 a0_4, .int .i64 a0_5]) (t := 29) ?hr ?_; (case hd => rfl); (case hg => rfl); (case hr => first | (go_simp; done) | (go_simp; rfl)); intro gb270 hg w2 hbox hb; have n0_ := Gv.a0 (below_step Gv.bw hb); have n1_ := Gv.a0 (hbox); have n2_ := Gv.a0 ((Gv.ble hg Gv.bw : w.heap.size ≤ gb270)); have n3_ := Gv.a0 ((Gv.ble hg Gv.bw : w.heap.size ≤ gb270)); clear HB; have HB := n0_; have BK270 := n1_; have GW270 := n2_; have GE270 := n3_; clear n0_ n1_ n2_ n3_; clear hb hbox hg; obtain ⟨hcz3_0, hcz3_1, hcz3_2, hcz3_3, hcz3_4, hcz3_5⟩ := Gv.c6 BK270.out; obtain ⟨hfz3_0, hfz3_1, hfz3_2, hfz3_3, hfz3_4, hfz3_5⟩ := Gv.f6 BK270.out))
 go_ret
 exact ⟨Gv.rt, Gv.bw⟩

/-! ### impl_isLong: function 85 -/
def impl_isLong.f (a0 : Int) : Option (Bool) := (impl_within.f a0 0 4294967295).bind fun t271 => (some t271)
set_option maxHeartbeats 8000000 in
set_option maxRecDepth 100000 in
theorem impl_isLong.calls (a0 : Int) (r : Bool) (w : World) (h : impl_isLong.f a0 = some r) :
  Calls Try.prog 85 #[.int .i64 a0] w fun e w' => e = .returned (.bool r) ∧ Drawn0 w w' := by
 have H : ((impl_within.f a0 0 4294967295).bind fun t271 => (some t271)) = some r := h
 clear h
 replace H := Option.bind_eq_some_iff.mp H
 obtain ⟨t271, A20, H⟩ := H
 replace H : (some t271) = some r := H
 have A2 := Gv.a0 A20
 clear A20
 obtain rfl := Option.some.inj H
 go_enter Try.func85, Try.ntmps85
 go_wp2_with (first | ((with_reducible refine gate_callee (f := 44) rfl ?_); refine goesL_ (some 4) rfl rfl Try.func44 (by kernel_rfl) rfl #[.int .i64 a0, .int .i64 0, .int .i64 4294967295] rfl Gv.lm ?_; (with_reducible refine (impl_within.calls a0 0 4294967295 t271 _ A2.out).mono ?_); rintro e w' ⟨rfl, ⟨nd, rfl⟩⟩; refine ⟨_, rfl, ?_⟩))
 go_ret
 exact ⟨by first | rfl | (simp; done) | (simp [Int.tdiv_eq_ediv_of_nonneg]; done) | (simp [*]; done), by repeat (first | exact Drawn0.refl _ | apply Drawn0.step)⟩

/-! ### impl_AddrOk: function 67 -/
def impl_AddrOk.f (a0_0 : Int) (a0_1 : Int) (a0_2 : Int) (a0_3 : Int) (a0_4 : Int) : Option (Bool) := if a0_0 = 4 then (if a0_1 = 0 then (if a0_2 = 0 then (if a0_3 = 0 then ((impl_isLong.f a0_4).bind fun t273 => (some t273)) else (some false)) else (some false)) else (some false)) else (if a0_0 = 6 then ((impl_isLong.f a0_1).bind fun t274 => (if t274 = true then ((impl_isLong.f a0_2).bind fun t275 => (if t275 = true then ((impl_isLong.f a0_3).bind fun t276 => (if t276 = true then ((impl_isLong.f a0_4).bind fun t277 => (some t277)) else (some false))) else (some false))) else (some false))) else (some false))
set_option maxHeartbeats 8000000 in
set_option maxRecDepth 100000 in
theorem impl_AddrOk.calls (a0_0 : Int) (a0_1 : Int) (a0_2 : Int) (a0_3 : Int) (a0_4 : Int) (r : Bool) (w : World) (h : impl_AddrOk.f a0_0 a0_1 a0_2 a0_3 a0_4 = some r) :
  Calls Try.prog 67 #[.agg #[.int .i64 a0_0, .int .i64 a0_1, .int .i64 a0_2, .int .i64 a0_3, .int .i64 a0_4]] w fun e w' => e = .returned (.bool r) ∧ Below w.heap.size w w' := by
 have hu26 := Try.underlying26
 have HB := Gv.a0 (Below.refl w.heap.size w)
 have H : (if a0_0 = 4 then (if a0_1 = 0 then (if a0_2 = 0 then (if a0_3 = 0 then ((impl_isLong.f a0_4).bind fun t273 => (some t273)) else (some false)) else (some false)) else (some false)) else (if a0_0 = 6 then ((impl_isLong.f a0_1).bind fun t274 => (if t274 = true then ((impl_isLong.f a0_2).bind fun t275 => (if t275 = true then ((impl_isLong.f a0_3).bind fun t276 => (if t276 = true then ((impl_isLong.f a0_4).bind fun t277 => (some t277)) else (some false))) else (some false))) else (some false))) else (some false))) = some r := h
 clear h
 by_cases c2 : a0_0 = 4
 ·rw [if_pos c2] at H
  have c2b0 : (a0_0 == 4) = true := beq_iff_eq.mpr c2
  have c2b1 : (a0_0 != 4) = false := bne_eq_false_iff_eq.mpr c2
  clear c2
  by_cases c3 : a0_1 = 0
  ·rw [if_pos c3] at H
   have c3b0 : (a0_1 == 0) = true := beq_iff_eq.mpr c3
   have c3b1 : (a0_1 != 0) = false := bne_eq_false_iff_eq.mpr c3
   clear c3
   by_cases c4 : a0_2 = 0
   ·rw [if_pos c4] at H
    have c4b0 : (a0_2 == 0) = true := beq_iff_eq.mpr c4
    have c4b1 : (a0_2 != 0) = false := bne_eq_false_iff_eq.mpr c4
    clear c4
    by_cases c5 : a0_3 = 0
    ·rw [if_pos c5] at H
     have c5b0 : (a0_3 == 0) = true := beq_iff_eq.mpr c5
     have c5b1 : (a0_3 != 0) = false := bne_eq_false_iff_eq.mpr c5
     clear c5
     replace H := Option.bind_eq_some_iff.mp H
     obtain ⟨t273, A60, H⟩ := H
     replace H : (some t273) = some r := H
     have A6 := Gv.a0 A60
     clear A60
     obtain rfl := Option.some.inj H
     go_enter Try.func67, Try.ntmps67
     go_wp2_with (first | ((with_reducible refine gate_dst (N := 1) rfl ?_); refine box_event ?hg (N := 1) ?hd (cs := #[.int .i64 a0_0, .int .i64 a0_1, .int .i64 a0_2, .int .i64 a0_3, .int .i64 a0_4]) (t := 26) ?hr ?_; (case hd => rfl); (case hg => rfl); (case hr => first | (go_simp; done) | (go_simp; rfl)); intro gb272 hg w7 hbox hb; have n0_ := Gv.a0 (below_step Gv.bw hb); have n1_ := Gv.a0 (hbox); have n2_ := Gv.a0 ((Gv.ble hg Gv.bw : w.heap.size ≤ gb272)); have n3_ := Gv.a0 ((Gv.ble hg Gv.bw : w.heap.size ≤ gb272)); clear HB; have HB := n0_; have BK272 := n1_; have GW272 := n2_; have GE272 := n3_; clear n0_ n1_ n2_ n3_; clear hb hbox hg; obtain ⟨hcz8_0, hcz8_1, hcz8_2, hcz8_3, hcz8_4⟩ := Gv.c5 BK272.out; obtain ⟨hfz8_0, hfz8_1, hfz8_2, hfz8_3, hfz8_4⟩ := Gv.f5 BK272.out) | (go_at_call 85; (with_reducible refine (impl_isLong.calls a0_4 t273 _ A6.out).mono ?_); rintro e w' ⟨rfl, ⟨nd, rfl⟩⟩))
     go_ret
     exact ⟨Gv.rt, Gv.bw⟩
    ·rw [if_neg c5] at H
     have c5b0 : (a0_3 == 0) = false := beq_eq_false_iff_ne.mpr c5
     have c5b1 : (a0_3 != 0) = true := bne_iff_ne.mpr c5
     obtain rfl := Option.some.inj H
     go_enter Try.func67, Try.ntmps67
     go_wp2_with (first | ((with_reducible refine gate_dst (N := 1) rfl ?_); refine box_event ?hg (N := 1) ?hd (cs := #[.int .i64 a0_0, .int .i64 a0_1, .int .i64 a0_2, .int .i64 a0_3, .int .i64 a0_4]) (t := 26) ?hr ?_; (case hd => rfl); (case hg => rfl); (case hr => first | (go_simp; done) | (go_simp; rfl)); intro gb272 hg w9 hbox hb; have n0_ := Gv.a0 (below_step Gv.bw hb); have n1_ := Gv.a0 (hbox); have n2_ := Gv.a0 ((Gv.ble hg Gv.bw : w.heap.size ≤ gb272)); have n3_ := Gv.a0 ((Gv.ble hg Gv.bw : w.heap.size ≤ gb272)); clear HB; have HB := n0_; have BK272 := n1_; have GW272 := n2_; have GE272 := n3_; clear n0_ n1_ n2_ n3_; clear hb hbox hg; obtain ⟨hcz10_0, hcz10_1, hcz10_2, hcz10_3, hcz10_4⟩ := Gv.c5 BK272.out; obtain ⟨hfz10_0, hfz10_1, hfz10_2, hfz10_3, hfz10_4⟩ := Gv.f5 BK272.out))
     go_ret
     exact ⟨Gv.rt, Gv.bw⟩
   ·rw [if_neg c4] at H
    have c4b0 : (a0_2 == 0) = false := beq_eq_false_iff_ne.mpr c4
    have c4b1 : (a0_2 != 0) = true := bne_iff_ne.mpr c4
    obtain rfl := Option.some.inj H
    go_enter Try.func67, Try.ntmps67
    go_wp2_with (first | ((with_reducible refine gate_dst (N := 1) rfl ?_); refine box_event ?hg (N := 1) ?hd (cs := #[.int .i64 a0_0, .int .i64 a0_1, .int .i64 a0_2, .int .i64 a0_3, .int .i64 a0_4]) (t := 26) ?hr ?_; (case hd => rfl); (case hg => rfl); (case hr => first | (go_simp; done) | (go_simp; rfl)); intro gb272 hg w11 hbox hb; have n0_ := Gv.a0 (below_step Gv.bw hb); have n1_ := Gv.a0 (hbox); have n2_ := Gv.a0 ((Gv.ble hg Gv.bw : w.heap.size ≤ gb272)); have n3_ := Gv.a0 ((Gv.ble hg Gv.bw : w.heap.size ≤ gb272)); clear HB; have HB := n0_; have BK272 := n1_; have GW272 := n2_; have GE272 := n3_; clear n0_ n1_ n2_ n3_; clear hb hbox hg; obtain ⟨hcz12_0, hcz12_1, hcz12_2, hcz12_3, hcz12_4⟩ := Gv.c5 BK272.out; obtain ⟨hfz12_0, hfz12_1, hfz12_2, hfz12_3, hfz12_4⟩ := Gv.f5 BK272.out))
    go_ret
    exact ⟨Gv.rt, Gv.bw⟩
  ·rw [if_neg c3] at H
   have c3b0 : (a0_1 == 0) = false := beq_eq_false_iff_ne.mpr c3
   have c3b1 : (a0_1 != 0) = true := bne_iff_ne.mpr c3
   obtain rfl := Option.some.inj H
   go_enter Try.func67, Try.ntmps67
   go_wp2_with (first | ((with_reducible refine gate_dst (N := 1) rfl ?_); refine box_event ?hg (N := 1) ?hd (cs := #[.int .i64 a0_0, .int .i64 a0_1, .int .i64 a0_2, .int .i64 a0_3, .int .i64 a0_4]) (t := 26) ?hr ?_; (case hd => rfl); (case hg => rfl); (case hr => first | (go_simp; done) | (go_simp; rfl)); intro gb272 hg w13 hbox hb; have n0_ := Gv.a0 (below_step Gv.bw hb); have n1_ := Gv.a0 (hbox); have n2_ := Gv.a0 ((Gv.ble hg Gv.bw : w.heap.size ≤ gb272)); have n3_ := Gv.a0 ((Gv.ble hg Gv.bw : w.heap.size ≤ gb272)); clear HB; have HB := n0_; have BK272 := n1_; have GW272 := n2_; have GE272 := n3_; clear n0_ n1_ n2_ n3_; clear hb hbox hg; obtain ⟨hcz14_0, hcz14_1, hcz14_2, hcz14_3, hcz14_4⟩ := Gv.c5 BK272.out; obtain ⟨hfz14_0, hfz14_1, hfz14_2, hfz14_3, hfz14_4⟩ := Gv.f5 BK272.out))
   go_ret
   exact ⟨Gv.rt, Gv.bw⟩
 ·rw [if_neg c2] at H
  have c2b0 : (a0_0 == 4) = false := beq_eq_false_iff_ne.mpr c2
  have c2b1 : (a0_0 != 4) = true := bne_iff_ne.mpr c2
  by_cases c15 : a0_0 = 6
  ·rw [if_pos c15] at H
   have c15b0 : (a0_0 == 6) = true := beq_iff_eq.mpr c15
   have c15b1 : (a0_0 != 6) = false := bne_eq_false_iff_eq.mpr c15
   clear c15
   replace H := Option.bind_eq_some_iff.mp H
   obtain ⟨t274, A160, H⟩ := H
   replace H : (if t274 = true then ((impl_isLong.f a0_2).bind fun t275 => (if t275 = true then ((impl_isLong.f a0_3).bind fun t276 => (if t276 = true then ((impl_isLong.f a0_4).bind fun t277 => (some t277)) else (some false))) else (some false))) else (some false)) = some r := H
   have A16 := Gv.a0 A160
   clear A160
   by_cases c17 : t274 = true
   ·subst c17
    have H1 : ((impl_isLong.f a0_2).bind fun t275 => (if t275 = true then ((impl_isLong.f a0_3).bind fun t276 => (if t276 = true then ((impl_isLong.f a0_4).bind fun t277 => (some t277)) else (some false))) else (some false))) = some r := by rw [if_pos rfl] at H; exact H
    clear H
    have H := H1
    clear H1
    replace H := Option.bind_eq_some_iff.mp H
    obtain ⟨t275, A180, H⟩ := H
    replace H : (if t275 = true then ((impl_isLong.f a0_3).bind fun t276 => (if t276 = true then ((impl_isLong.f a0_4).bind fun t277 => (some t277)) else (some false))) else (some false)) = some r := H
    have A18 := Gv.a0 A180
    clear A180
    by_cases c19 : t275 = true
    ·subst c19
     have H1 : ((impl_isLong.f a0_3).bind fun t276 => (if t276 = true then ((impl_isLong.f a0_4).bind fun t277 => (some t277)) else (some false))) = some r := by rw [if_pos rfl] at H; exact H
     clear H
     have H := H1
     clear H1
     replace H := Option.bind_eq_some_iff.mp H
     obtain ⟨t276, A200, H⟩ := H
     replace H : (if t276 = true then ((impl_isLong.f a0_4).bind fun t277 => (some t277)) else (some false)) = some r := H
     have A20 := Gv.a0 A200
     clear A200
     by_cases c21 : t276 = true
     ·subst c21
      have H1 : ((impl_isLong.f a0_4).bind fun t277 => (some t277)) = some r := by rw [if_pos rfl] at H; exact H
      clear H
      have H := H1
      clear H1
      replace H := Option.bind_eq_some_iff.mp H
      obtain ⟨t277, A220, H⟩ := H
      replace H : (some t277) = some r := H
      have A22 := Gv.a0 A220
      clear A220
      obtain rfl := Option.some.inj H
      go_enter Try.func67, Try.ntmps67
      go_wp2_with (first | ((with_reducible refine gate_dst (N := 1) rfl ?_); refine box_event ?hg (N := 1) ?hd (cs := #[.int .i64 a0_0, .int .i64 a0_1, .int .i64 a0_2, .int .i64 a0_3, .int .i64 a0_4]) (t := 26) ?hr ?_; (case hd => rfl); (case hg => rfl); (case hr => first | (go_simp; done) | (go_simp; rfl)); intro gb272 hg w23 hbox hb; have n0_ := Gv.a0 (below_step Gv.bw hb); have n1_ := Gv.a0 (hbox); have n2_ := Gv.a0 ((Gv.ble hg Gv.bw : w.heap.size ≤ gb272)); have n3_ := Gv.a0 ((Gv.ble hg Gv.bw : w.heap.size ≤ gb272)); clear HB; have HB := n0_; have BK272 := n1_; have GW272 := n2_; have GE272 := n3_; clear n0_ n1_ n2_ n3_; clear hb hbox hg; obtain ⟨hcz24_0, hcz24_1, hcz24_2, hcz24_3, hcz24_4⟩ := Gv.c5 BK272.out; obtain ⟨hfz24_0, hfz24_1, hfz24_2, hfz24_3, hfz24_4⟩ := Gv.f5 BK272.out) | ((with_reducible refine gate_callee (f := 85) rfl ?_); refine goesL_ (some 29) rfl rfl Try.func85 (by kernel_rfl) rfl #[.int .i64 a0_1] rfl Gv.lm ?_; (with_reducible refine (impl_isLong.calls a0_1 true _ A16.out).mono ?_); rintro e w' ⟨rfl, ⟨nd, rfl⟩⟩; refine ⟨_, rfl, ?_⟩) | (go_at_call 85; (with_reducible refine (impl_isLong.calls a0_2 true _ A18.out).mono ?_); rintro e w' ⟨rfl, ⟨nd, rfl⟩⟩) | (go_at_call 85; (with_reducible refine (impl_isLong.calls a0_3 true _ A20.out).mono ?_); rintro e w' ⟨rfl, ⟨nd, rfl⟩⟩) | (go_at_call 85; (with_reducible refine (impl_isLong.calls a0_4 t277 _ A22.out).mono ?_); rintro e w' ⟨rfl, ⟨nd, rfl⟩⟩))
      go_ret
      exact ⟨Gv.rt, Gv.bw⟩
     ·replace c21 := Bool.eq_false_iff.mpr c21
      subst c21
      have H1 : (some false) = some r := by rw [if_neg (show ¬ (false = true) by decide)] at H; exact H
      clear H
      have H := H1
      clear H1
      obtain rfl := Option.some.inj H
      go_enter Try.func67, Try.ntmps67
      go_wp2_with (first | ((with_reducible refine gate_dst (N := 1) rfl ?_); refine box_event ?hg (N := 1) ?hd (cs := #[.int .i64 a0_0, .int .i64 a0_1, .int .i64 a0_2, .int .i64 a0_3, .int .i64 a0_4]) (t := 26) ?hr ?_; (case hd => rfl); (case hg => rfl); (case hr => first | (go_simp; done) | (go_simp; rfl)); intro gb272 hg w25 hbox hb; have n0_ := Gv.a0 (below_step Gv.bw hb); have n1_ := Gv.a0 (hbox); have n2_ := Gv.a0 ((Gv.ble hg Gv.bw : w.heap.size ≤ gb272)); have n3_ := Gv.a0 ((Gv.ble hg Gv.bw : w.heap.size ≤ gb272)); clear HB; have HB := n0_; have BK272 := n1_; have GW272 := n2_; have GE272 := n3_; clear n0_ n1_ n2_ n3_; clear hb hbox hg; obtain ⟨hcz26_0, hcz26_1, hcz26_2, hcz26_3, hcz26_4⟩ := Gv.c5 BK272.out; obtain ⟨hfz26_0, hfz26_1, hfz26_2, hfz26_3, hfz26_4⟩ := Gv.f5 BK272.out) | ((with_reducible refine gate_callee (f := 85) rfl ?_); refine goesL_ (some 29) rfl rfl Try.func85 (by kernel_rfl) rfl #[.int .i64 a0_1] rfl Gv.lm ?_; (with_reducible refine (impl_isLong.calls a0_1 true _ A16.out).mono ?_); rintro e w' ⟨rfl, ⟨nd, rfl⟩⟩; refine ⟨_, rfl, ?_⟩) | (go_at_call 85; (with_reducible refine (impl_isLong.calls a0_2 true _ A18.out).mono ?_); rintro e w' ⟨rfl, ⟨nd, rfl⟩⟩) | (go_at_call 85; (with_reducible refine (impl_isLong.calls a0_3 false _ A20.out).mono ?_); rintro e w' ⟨rfl, ⟨nd, rfl⟩⟩))
      go_ret
      exact ⟨Gv.rt, Gv.bw⟩
    ·replace c19 := Bool.eq_false_iff.mpr c19
     subst c19
     have H1 : (some false) = some r := by rw [if_neg (show ¬ (false = true) by decide)] at H; exact H
     clear H
     have H := H1
     clear H1
     obtain rfl := Option.some.inj H
     go_enter Try.func67, Try.ntmps67
     go_wp2_with (first | ((with_reducible refine gate_dst (N := 1) rfl ?_); refine box_event ?hg (N := 1) ?hd (cs := #[.int .i64 a0_0, .int .i64 a0_1, .int .i64 a0_2, .int .i64 a0_3, .int .i64 a0_4]) (t := 26) ?hr ?_; (case hd => rfl); (case hg => rfl); (case hr => first | (go_simp; done) | (go_simp; rfl)); intro gb272 hg w27 hbox hb; have n0_ := Gv.a0 (below_step Gv.bw hb); have n1_ := Gv.a0 (hbox); have n2_ := Gv.a0 ((Gv.ble hg Gv.bw : w.heap.size ≤ gb272)); have n3_ := Gv.a0 ((Gv.ble hg Gv.bw : w.heap.size ≤ gb272)); clear HB; have HB := n0_; have BK272 := n1_; have GW272 := n2_; have GE272 := n3_; clear n0_ n1_ n2_ n3_; clear hb hbox hg; obtain ⟨hcz28_0, hcz28_1, hcz28_2, hcz28_3, hcz28_4⟩ := Gv.c5 BK272.out; obtain ⟨hfz28_0, hfz28_1, hfz28_2, hfz28_3, hfz28_4⟩ := Gv.f5 BK272.out) | ((with_reducible refine gate_callee (f := 85) rfl ?_); refine goesL_ (some 29) rfl rfl Try.func85 (by kernel_rfl) rfl #[.int .i64 a0_1] rfl Gv.lm ?_; (with_reducible refine (impl_isLong.calls a0_1 true _ A16.out).mono ?_); rintro e w' ⟨rfl, ⟨nd, rfl⟩⟩; refine ⟨_, rfl, ?_⟩) | (go_at_call 85; (with_reducible refine (impl_isLong.calls a0_2 false _ A18.out).mono ?_); rintro e w' ⟨rfl, ⟨nd, rfl⟩⟩))
     go_ret
     exact ⟨Gv.rt, Gv.bw⟩
   ·replace c17 := Bool.eq_false_iff.mpr c17
    subst c17
    have H1 : (some false) = some r := by rw [if_neg (show ¬ (false = true) by decide)] at H; exact H
    clear H
    have H := H1
    clear H1
    obtain rfl := Option.some.inj H
    go_enter Try.func67, Try.ntmps67
    go_wp2_with (first | ((with_reducible refine gate_dst (N := 1) rfl ?_); refine box_event ?hg (N := 1) ?hd (cs := #[.int .i64 a0_0, .int .i64 a0_1, .int .i64 a0_2, .int .i64 a0_3, .int .i64 a0_4]) (t := 26) ?hr ?_; (case hd => rfl); (case hg => rfl); (case hr => first | (go_simp; done) | (go_simp; rfl)); intro gb272 hg w29 hbox hb; have n0_ := Gv.a0 (below_step Gv.bw hb); have n1_ := Gv.a0 (hbox); have n2_ := Gv.a0 ((Gv.ble hg Gv.bw : w.heap.size ≤ gb272)); have n3_ := Gv.a0 ((Gv.ble hg Gv.bw : w.heap.size ≤ gb272)); clear HB; have HB := n0_; have BK272 := n1_; have GW272 := n2_; have GE272 := n3_; clear n0_ n1_ n2_ n3_; clear hb hbox hg; obtain ⟨hcz30_0, hcz30_1, hcz30_2, hcz30_3, hcz30_4⟩ := Gv.c5 BK272.out; obtain ⟨hfz30_0, hfz30_1, hfz30_2, hfz30_3, hfz30_4⟩ := Gv.f5 BK272.out) | ((with_reducible refine gate_callee (f := 85) rfl ?_); refine goesL_ (some 29) rfl rfl Try.func85 (by kernel_rfl) rfl #[.int .i64 a0_1] rfl Gv.lm ?_; (with_reducible refine (impl_isLong.calls a0_1 false _ A16.out).mono ?_); rintro e w' ⟨rfl, ⟨nd, rfl⟩⟩; refine ⟨_, rfl, ?_⟩))
    go_ret
    exact ⟨Gv.rt, Gv.bw⟩
  ·rw [if_neg c15] at H
   have c15b0 : (a0_0 == 6) = false := beq_eq_false_iff_ne.mpr c15
   have c15b1 : (a0_0 != 6) = true := bne_iff_ne.mpr c15
   obtain rfl := Option.some.inj H
   go_enter Try.func67, Try.ntmps67
   go_wp2_with (first | ((with_reducible refine gate_dst (N := 1) rfl ?_); refine box_event ?hg (N := 1) ?hd (cs := #[.int .i64 a0_0, .int .i64 a0_1, .int .i64 a0_2, .int .i64 a0_3, .int .i64 a0_4]) (t := 26) ?hr ?_; (case hd => rfl); (case hg => rfl); (case hr => first | (go_simp; done) | (go_simp; rfl)); intro gb272 hg w31 hbox hb; have n0_ := Gv.a0 (below_step Gv.bw hb); have n1_ := Gv.a0 (hbox); have n2_ := Gv.a0 ((Gv.ble hg Gv.bw : w.heap.size ≤ gb272)); have n3_ := Gv.a0 ((Gv.ble hg Gv.bw : w.heap.size ≤ gb272)); clear HB; have HB := n0_; have BK272 := n1_; have GW272 := n2_; have GE272 := n3_; clear n0_ n1_ n2_ n3_; clear hb hbox hg; obtain ⟨hcz32_0, hcz32_1, hcz32_2, hcz32_3, hcz32_4⟩ := Gv.c5 BK272.out; obtain ⟨hfz32_0, hfz32_1, hfz32_2, hfz32_3, hfz32_4⟩ := Gv.f5 BK272.out))
   go_ret
   exact ⟨Gv.rt, Gv.bw⟩

/-! ### impl_Clip: function 59 -/
def impl_Clip.f (a0 : Int) (a1 : Int) (a2 : Int) : Option (Int) := if a0 < a1 then (some a1) else (if a0 > a2 then (some a2) else (some a0))
set_option maxHeartbeats 8000000 in
set_option maxRecDepth 100000 in
theorem impl_Clip.calls (a0 : Int) (a1 : Int) (a2 : Int) (r : Int) (w : World) (h : impl_Clip.f a0 a1 a2 = some r) :
  Calls Try.prog 59 #[.int .i64 a0, .int .i64 a1, .int .i64 a2] w fun e w' => e = .returned (.int .i64 r) ∧ Drawn0 w w' := by
 have H : (if a0 < a1 then (some a1) else (if a0 > a2 then (some a2) else (some a0))) = some r := h
 clear h
 by_cases c4 : a0 < a1
 ·rw [if_pos c4] at H
  have c4b0 : decide (a0 < a1) = true := decide_eq_true c4
  clear c4
  obtain rfl := Option.some.inj H
  go_enter Try.func59, Try.ntmps59
  go_wp2
  go_ret
  exact ⟨by first | rfl | (simp; done) | (simp [Int.tdiv_eq_ediv_of_nonneg]; done) | (simp [*]; done), by repeat (first | exact Drawn0.refl _ | apply Drawn0.step)⟩
 ·rw [if_neg c4] at H
  have c4b0 : decide (a0 < a1) = false := decide_eq_false c4
  clear c4
  by_cases c5 : a0 > a2
  ·rw [if_pos c5] at H
   have c5b0 : decide (a2 < a0) = true := decide_eq_true c5
   clear c5
   obtain rfl := Option.some.inj H
   go_enter Try.func59, Try.ntmps59
   go_wp2
   go_ret
   exact ⟨by first | rfl | (simp; done) | (simp [Int.tdiv_eq_ediv_of_nonneg]; done) | (simp [*]; done), by repeat (first | exact Drawn0.refl _ | apply Drawn0.step)⟩
  ·rw [if_neg c5] at H
   have c5b0 : decide (a2 < a0) = false := decide_eq_false c5
   clear c5
   obtain rfl := Option.some.inj H
   go_enter Try.func59, Try.ntmps59
   go_wp2
   go_ret
   exact ⟨by first | rfl | (simp; done) | (simp [Int.tdiv_eq_ediv_of_nonneg]; done) | (simp [*]; done), by repeat (first | exact Drawn0.refl _ | apply Drawn0.step)⟩

/-! ### impl_bitsOf: function 70 -/
def impl_bitsOf.f (a0_0 : Int) (a0_1 : Int) (a0_2 : Int) (a0_3 : Int) (a0_4 : Int) : Option (Int) := if a0_0 = 4 then (some 32) else (some 128)
set_option maxHeartbeats 8000000 in
set_option maxRecDepth 100000 in
theorem impl_bitsOf.calls (a0_0 : Int) (a0_1 : Int) (a0_2 : Int) (a0_3 : Int) (a0_4 : Int) (r : Int) (w : World) (h : impl_bitsOf.f a0_0 a0_1 a0_2 a0_3 a0_4 = some r) :
  Calls Try.prog 70 #[.agg #[.int .i64 a0_0, .int .i64 a0_1, .int .i64 a0_2, .int .i64 a0_3, .int .i64 a0_4]] w fun e w' => e = .returned (.int .i64 r) ∧ Below w.heap.size w w' := by
 have hu26 := Try.underlying26
 have HB := Gv.a0 (Below.refl w.heap.size w)
 have H : (if a0_0 = 4 then (some 32) else (some 128)) = some r := h
 clear h
 by_cases c2 : a0_0 = 4
 ·rw [if_pos c2] at H
  have c2b0 : (a0_0 == 4) = true := beq_iff_eq.mpr c2
  have c2b1 : (a0_0 != 4) = false := bne_eq_false_iff_eq.mpr c2
  clear c2
  obtain rfl := Option.some.inj H
  go_enter Try.func70, Try.ntmps70
  go_wp2_with (first | ((with_reducible refine gate_dst (N := 1) rfl ?_); refine box_event ?hg (N := 1) ?hd (cs := #[.int .i64 a0_0, .int .i64 a0_1, .int .i64 a0_2, .int .i64 a0_3, .int .i64 a0_4]) (t := 26) ?hr ?_; (case hd => rfl); (case hg => rfl); (case hr => first | (go_simp; done) | (go_simp; rfl)); intro gb278 hg w3 hbox hb; have n0_ := Gv.a0 (below_step Gv.bw hb); have n1_ := Gv.a0 (hbox); have n2_ := Gv.a0 ((Gv.ble hg Gv.bw : w.heap.size ≤ gb278)); have n3_ := Gv.a0 ((Gv.ble hg Gv.bw : w.heap.size ≤ gb278)); clear HB; have HB := n0_; have BK278 := n1_; have GW278 := n2_; have GE278 := n3_; clear n0_ n1_ n2_ n3_; clear hb hbox hg; obtain ⟨hcz4_0, hcz4_1, hcz4_2, hcz4_3, hcz4_4⟩ := Gv.c5 BK278.out; obtain ⟨hfz4_0, hfz4_1, hfz4_2, hfz4_3, hfz4_4⟩ := Gv.f5 BK278.out))
  go_ret
  exact ⟨Gv.rt, Gv.bw⟩
 ·rw [if_neg c2] at H
  have c2b0 : (a0_0 == 4) = false := beq_eq_false_iff_ne.mpr c2
  have c2b1 : (a0_0 != 4) = true := bne_iff_ne.mpr c2
  obtain rfl := Option.some.inj H
  go_enter Try.func70, Try.ntmps70
  go_wp2_with (first | ((with_reducible refine gate_dst (N := 1) rfl ?_); refine box_event ?hg (N := 1) ?hd (cs := #[.int .i64 a0_0, .int .i64 a0_1, .int .i64 a0_2, .int .i64 a0_3, .int .i64 a0_4]) (t := 26) ?hr ?_; (case hd => rfl); (case hg => rfl); (case hr => first | (go_simp; done) | (go_simp; rfl)); intro gb278 hg w5 hbox hb; have n0_ := Gv.a0 (below_step Gv.bw hb); have n1_ := Gv.a0 (hbox); have n2_ := Gv.a0 ((Gv.ble hg Gv.bw : w.heap.size ≤ gb278)); have n3_ := Gv.a0 ((Gv.ble hg Gv.bw : w.heap.size ≤ gb278)); clear HB; have HB := n0_; have BK278 := n1_; have GW278 := n2_; have GE278 := n3_; clear n0_ n1_ n2_ n3_; clear hb hbox hg; obtain ⟨hcz6_0, hcz6_1, hcz6_2, hcz6_3, hcz6_4⟩ := Gv.c5 BK278.out; obtain ⟨hfz6_0, hfz6_1, hfz6_2, hfz6_3, hfz6_4⟩ := Gv.f5 BK278.out))
  go_ret
  exact ⟨Gv.rt, Gv.bw⟩

/-! ### impl_put: function 93 -/
def impl_put.l0 : Nat → Int → Int → List Int → Int → Int → Option (List Int)
 | 0, _, _, _, _, _ => none
 | k + 1, x0, x1, x5, x10, x11 => if x11 < x10 then (if 0 ≤ (wrap64 (8 * (wrap64 ((wrap64 (x1 - 1)) - x11)))) then (if 0 ≤ x11 then (if x11 < (x5.length : Int) then (impl_put.l0 k x0 x1 (x5.set (x11 : Int).toNat ((shr .i64 x0 (wrap64 (8 * (wrap64 ((wrap64 (x1 - 1)) - x11))))) % 256)) x10 (wrap64 (x11 + 1))) else (none)) else (none)) else (none)) else (some x5)
def impl_put.f (k : Nat) (a0 : Int) (a1 : Int) : Option (List Int) := if 0 ≤ a1 then (if (a1 : Int).toNat ≤ 281474976710656 then ((some (List.replicate (a1 : Int).toNat 0 : List Int)).bind fun y279 => (impl_put.l0 k a0 a1 y279 (y279.length : Int) 0)) else (none)) else (none)
theorem impl_put.mono_l : ∀ k, (∀ y0 y1 y2 y3 y4, LeO (impl_put.l0 k y0 y1 y2 y3 y4) (impl_put.l0 (k + 1) y0 y1 y2 y3 y4))
 | 0 => fun _ _ _ _ _ r h => by simp [impl_put.l0] at h
 | k + 1 => by
  have ih0 := impl_put.mono_l k
  ·intro y0 y1 y2 y3 y4
   unfold impl_put.l0
   repeat' first
   | (with_reducible exact ih0 _ _ _ _ _)
   | (with_reducible exact LeO.refl _)
   | (with_reducible exact LeO.none _)
   | (with_reducible refine LeO.ite ?_ ?_)
   | (with_reducible refine LeO.bind ?_ (fun _ => ?_))
   | exact ih0 _ _ _ _ _
   | exact LeO.none _
   | refine LeO.ite ?_ ?_
   | refine LeO.bind ?_ (fun _ => ?_)
theorem impl_put.mono : ∀ a0 a1 k, LeO (impl_put.f k a0 a1) (impl_put.f (k + 1) a0 a1) := by
 intro a0 a1 k
 have ih0 := impl_put.mono_l k
 unfold impl_put.f
 repeat' first
   | (with_reducible exact ih0 _ _ _ _ _)
   | (with_reducible exact LeO.refl _)
   | (with_reducible exact LeO.none _)
   | (with_reducible refine LeO.ite ?_ ?_)
   | (with_reducible refine LeO.bind ?_ (fun _ => ?_))
   | exact ih0 _ _ _ _ _
   | exact LeO.none _
   | refine LeO.ite ?_ ?_
   | refine LeO.bind ?_ (fun _ => ?_)
set_option maxHeartbeats 8000000 in
set_option maxRecDepth 100000 in
theorem impl_put.calls (k : Nat) (a0 : Int) (a1 : Int) (r : List Int) (w : World) (h : impl_put.f k a0 a1 = some r) :
  Calls Try.prog 93 #[.int .i64 a0, .int .i64 a1] w fun e w' => ∃ v0_ : Value, e = .returned (v0_) ∧ Kd.R (Kd.int .u8) 5 w' w.heap.size (fun _ => True) v0_ r ∧ Below w.heap.size w w' := by
 have HB := Gv.a0 (Below.refl w.heap.size w)
 have H : (if 0 ≤ a1 then (if (a1 : Int).toNat ≤ 281474976710656 then ((some (List.replicate (a1 : Int).toNat 0 : List Int)).bind fun y279 => (impl_put.l0 k a0 a1 y279 (y279.length : Int) 0)) else (none)) else (none)) = some r := h
 clear h
 by_cases c3 : 0 ≤ a1
 ·rw [if_pos c3] at H
  have c3b0 := eq_true c3
  have c3b1 : decide (0 ≤ a1) = true := decide_eq_true c3
  clear c3
  by_cases c4 : (a1 : Int).toNat ≤ 281474976710656
  ·rw [if_pos c4] at H
   have c4b0 := eq_true c4
   have c4b1 : decide ((a1 : Int).toNat ≤ 281474976710656) = true := decide_eq_true c4
   clear c4
   obtain ⟨y279, hy279⟩ : ∃ y_ : List Int, y_ = (List.replicate (a1 : Int).toNat 0) := ⟨_, rfl⟩
   replace H : (impl_put.l0 k a0 a1 y279 (y279.length : Int) 0) = some r := by first | (rw [hy279]; with_reducible exact H) | (have H2_ := (Option.bind_some _ _).symm.trans H; rw [hy279]; with_reducible exact H2_) | (have H2_ := (Option.bind_some _ _).symm.trans H; with_reducible exact H2_) | with_reducible exact H | (rw [hy279]; exact H) | exact H
   have Ny279 := Gv.a0 hy279
   clear hy279
   have H' := Gv.a0 H
   clear H
   go_enter Try.func93, Try.ntmps93
   go_wp2_with (first | ((with_reducible refine gate_dst (N := 8) rfl ?_); refine Kd.R_make (Kd.int .u8) _ 5 rfl (N := 8) rfl 62 _ _ rfl a1 rfl rfl Try.underlying62 (.int .u8 0) 1 info5 rfl (by decide) (by omega) 0 (ok := fun _ => True) (okp := fun _ => True) rfl (fun _ hk => hk) trivial (of_decide_eq_true (by first | (with_reducible assumption) | assumption)) (Nat.le_trans (Nat.mul_le_mul_right _ (of_decide_eq_true (by first | (with_reducible assumption) | assumption) : a1.toNat ≤ 281474976710656)) (by omega)) (Below.refl _ _) (Nat.le_refl _) ?_; intro v280 w5 ho6 hb hg_ hnew_; clear hg_ hnew_; (first | rw [← Ny279.out] at ho6 | (simp only [Int.reduceToNat] at ho6; rw [← Ny279.out] at ho6)); have n0_ := Gv.a0 (Kd.R_lower ho6 (below_size Gv.bw)); have n1_ := Gv.a0 (below_step Gv.bw hb); clear HB; have HO281 := n0_; have HB := n1_; clear n0_ n1_; clear hb ho6; obtain ⟨Ao7, co7, eo7⟩ := Kd.R_slice HO281.out; subst eo7))
   go_loopg [11] k (fun kq v11 w' => ∃ (x5_1 : List Int) (x11_1 : Int), v11 = .int .i64 x11_1 ∧ Aside0 (impl_put.l0 kq a0 a1 x5_1 (y279.length : Int) x11_1 = some r) ∧ Aside0 (kq ≤ k) ∧ Aside0 (Kd.R (Kd.int .u8) 5 w' w.heap.size (fun _ => True) (.slice Ao7 y279.length co7) x5_1) ∧ Aside0 (Below w.heap.size w w'))
   case atStart => exact ⟨(y279), (0), Gv.rq, H', ⟨Nat.le_refl _⟩, ⟨Gv.kr HO281.out⟩, ⟨Gv.bw⟩⟩
   case round =>
    clear H'
    try clear p2
    try clear c3
    try clear c3b0
    try clear c3b1
    try clear c4
    try clear c4b0
    try clear c4b1
    obtain ⟨x5_1, x11_1, rfl, HA, HK1, HO_5, HB⟩ := hrel
    have hl5_1 := (Kd.R_reads' HO_5.out).1
    rw [hl5_1] at HO_5
    (try simp only [hl5_1])
    cases gk with
    | zero => exact absurd HA.out (by simp [impl_put.l0])
    | succ k1 =>
     have H := HA.out
     clear HA
     simp only [impl_put.l0] at H
     by_cases c8 : x11_1 < (y279.length : Int)
     ·rw [if_pos c8] at H
      have c8b0 : decide (x11_1 < (y279.length : Int)) = true := decide_eq_true c8
      (try (have c8b9 := c8b0; rw [hl5_1] at c8b9))
      (try (have c8b8 := c8b0; rw [← hl5_1] at c8b8))
      clear c8
      obtain ⟨ji9, hji9⟩ : ∃ j_ : Int, (wrap64 (8 * (wrap64 ((wrap64 (a1 - 1)) - x11_1)))) = j_ := ⟨_, rfl⟩
      replace H : (if 0 ≤ (ji9) then (if 0 ≤ x11_1 then (if x11_1 < (x5_1.length : Int) then (impl_put.l0 k1 a0 a1 (x5_1.set (x11_1 : Int).toNat ((shr .i64 a0 (ji9)) % 256)) (y279.length : Int) (wrap64 (x11_1 + 1))) else (none)) else (none)) else (none)) = some r := by first | (rw [hji9] at H; exact H) | (simp only [hji9] at H ⊢; exact H)
      have hji9w : (IntKind.i64.wrap (8 * (wrap64 ((wrap64 (a1 - 1)) - x11_1)))) = ji9 := (i64_w _).trans hji9
      by_cases c10 : 0 ≤ (ji9)
      ·rw [if_pos c10] at H
       have c10b0 := eq_true c10
       have c10b1 : decide (0 ≤ (ji9)) = true := decide_eq_true c10
       clear c10
       obtain ⟨ji11, hji11⟩ : ∃ j_ : Int, (shr .i64 a0 (ji9)) = j_ := ⟨_, rfl⟩
       replace H : (if 0 ≤ x11_1 then (if x11_1 < (x5_1.length : Int) then (impl_put.l0 k1 a0 a1 (x5_1.set (x11_1 : Int).toNat ((ji11) % 256)) (y279.length : Int) (wrap64 (x11_1 + 1))) else (none)) else (none)) = some r := by first | (rw [hji11] at H; exact H) | (simp only [hji11] at H ⊢; exact H)
       have hji11_ : (a0 / 2 ^ min (ji9).toNat 64) = ji11 := hji11
       have hji11z : (ji9) ≤ 64 → (a0 / 2 ^ (ji9).toNat) = ji11 := shr_small hji11
       by_cases c12 : 0 ≤ x11_1
       ·rw [if_pos c12] at H
        have c12b0 : decide (0 ≤ x11_1) = true := decide_eq_true c12
        clear c12
        by_cases c13 : x11_1 < (x5_1.length : Int)
        ·rw [if_pos c13] at H
         have c13b0 : decide (x11_1 < (x5_1.length : Int)) = true := decide_eq_true c13
         clear c13
         obtain ⟨y282, hy282⟩ : ∃ y_ : List Int, y_ = (x5_1.set (x11_1 : Int).toNat ((ji11) % 256)) := ⟨_, rfl⟩
         replace H : (impl_put.l0 k1 a0 a1 y282 (y279.length : Int) (wrap64 (x11_1 + 1))) = some r := by first | (rw [hy282]; with_reducible exact H) | (have H2_ := (Option.bind_some _ _).symm.trans H; rw [hy282]; with_reducible exact H2_) | (have H2_ := (Option.bind_some _ _).symm.trans H; with_reducible exact H2_) | with_reducible exact H | (rw [hy282]; exact H) | exact H
         have Ny282 := Gv.a0 hy282
         clear hy282
         have H' := Gv.a0 H
         clear H
         have p14 : 0 ≤ (x11_1 : Int) := of_decide_eq_true (by first | (with_reducible assumption) | assumption)
         have q14 : (x11_1 : Int) < ((x5_1.length : Int) : Int) := of_decide_eq_true (by first | (with_reducible assumption) | assumption)
         obtain ⟨go14, co14, eo14, gb14, gl14, cl14, HG14⟩ := Kd.R_form HO_5.out (by omega)
         (first | cases eo14 | (injection eo14 with ea_ en_ ec_; (first | subst ea_ | (injection ea_ with ea_; subst ea_)); subst ec_; clear en_))
         have GB14 := Gv.a0 gb14
         have GG14 := Gv.a0 HG14
         clear gb14 gl14 HG14
         obtain ⟨hx14_0, hf14_0⟩ := Kd.R_celln 0 HO_5.out (x11_1 : Int) p14 q14
         replace p14 := eq_true p14
         replace q14 := eq_true q14
         have HP15 := Kd.R_putg HO_5.out (x11_1 : Int) ((ji11) % 256)
         go_wp2_with (first | ((with_reducible refine gate_store (t := 5) (p := 24) rfl ?_); refine store_event (t := 5) (p := 24) (v := ?vo_w16) (w1 := (wr.setCell ⟨go14, (x11_1 : Int).toNat, none⟩ (.int .u8 ((ji11) % 256)))) ?hg ?ho ?hn ?hr ?_; (case ho => rfl); (case hg => rfl); (case hn => rfl); (case hr => first | (go_simp; done) | (go_simp; rfl)); intro w16 hw; have hg : wr.grownBy w16 (some go14) := (by rw [hw]; exact HP15.2); have hp_ : Kd.R (Kd.int .u8) 5 w16 w.heap.size (fun _ => True) (.slice (some ⟨go14, 0, none⟩) x5_1.length co7) y282 := (by rw [hw, Ny282.out]; exact HP15.1); clear HP15; have n0_ := Gv.a0 (hp_); have n1_ := Gv.a0 ((by rw [hw]; exact below_set (HB.out) GB14.out : Below w.heap.size w w16)); clear HO_5; clear HB; have HO_5 := n0_; have HB := n1_; clear n0_ n1_; clear hg hw hp_))
         (try simp only [← hl5_1])
         go_roundg k1
         case measure => have := HK1.out; omega
         case rel => exact ⟨(y282), (wrap64 (x11_1 + 1)), Gv.rq, H', ⟨by have := HK1.out; omega⟩, ⟨by (try simp only [hl5_1]); (with_reducible repeat (first | apply Kd.R_alloc | apply Kd.R_drewN | apply Kd.R_drew)); exact HO_5.out⟩, ⟨Gv.bw⟩⟩
        ·rw [if_neg c13] at H
         exact absurd H (by simp)
       ·rw [if_neg c12] at H
        exact absurd H (by simp)
      ·rw [if_neg c10] at H
       exact absurd H (by simp)
     ·rw [if_neg c8] at H
      have c8b0 : decide (x11_1 < (y279.length : Int)) = false := decide_eq_false c8
      (try (have c8b9 := c8b0; rw [hl5_1] at c8b9))
      (try (have c8b8 := c8b0; rw [← hl5_1] at c8b8))
      clear c8
      obtain rfl := Option.some.inj H
      go_wp2
      go_ret
      exact ⟨_, Gv.rt, Gv.kr HO_5.out, Gv.bw⟩
  ·rw [if_neg c4] at H
   exact absurd H (by simp)
 ·rw [if_neg c3] at H
  exact absurd H (by simp)

/-! ### impl_Put32: function 90 -/
def impl_Put32.f (k : Nat) (a0 : Int) : Option (List Int) := (impl_put.f k a0 4).bind fun t283 => (some t283)
theorem impl_Put32.mono : ∀ a0 k, LeO (impl_Put32.f k a0) (impl_Put32.f (k + 1) a0) := by
 intro a0 k
 unfold impl_Put32.f
 repeat' first
   | (with_reducible exact impl_put.mono _ _ _)
   | (with_reducible exact LeO.refl _)
   | (with_reducible exact LeO.none _)
   | (with_reducible refine LeO.ite ?_ ?_)
   | (with_reducible refine LeO.bind ?_ (fun _ => ?_))
   | exact impl_put.mono _ _ _
   | exact LeO.none _
   | refine LeO.ite ?_ ?_
   | refine LeO.bind ?_ (fun _ => ?_)
set_option maxHeartbeats 8000000 in
set_option maxRecDepth 100000 in
theorem impl_Put32.calls (k : Nat) (a0 : Int) (r : List Int) (w : World) (h : impl_Put32.f k a0 = some r) :
  Calls Try.prog 90 #[.int .i64 a0] w fun e w' => ∃ v0_ : Value, e = .returned (v0_) ∧ Kd.R (Kd.int .u8) 5 w' w.heap.size (fun _ => True) v0_ r ∧ Below w.heap.size w w' := by
 have HB := Gv.a0 (Below.refl w.heap.size w)
 have H : ((impl_put.f k a0 4).bind fun t283 => (some t283)) = some r := h
 clear h
 replace H := Option.bind_eq_some_iff.mp H
 obtain ⟨t283, A20, H⟩ := H
 replace H : (some t283) = some r := H
 have A2 := Gv.a0 A20
 clear A20
 obtain rfl := Option.some.inj H
 go_enter Try.func90, Try.ntmps90
 go_wp2_with (first | ((with_reducible refine gate_callee (f := 93) rfl ?_); refine goesL_ (some 4) rfl rfl Try.func93 (by kernel_rfl) rfl #[.int .i64 a0, .int .i64 4] rfl Gv.lm ?_; (with_reducible refine (impl_put.calls k a0 4 t283 _ A2.out).mono ?_); rintro e w3 ⟨v284, rfl, ho0, hb⟩; refine ⟨_, rfl, ?_⟩; have n0_ := Gv.a0 (Kd.R_lower ho0 (below_size Gv.bw)); have n1_ := Gv.a0 (below_step Gv.bw hb); clear HB; have HO285 := n0_; have HB := n1_; clear n0_ n1_; (try clear hb); (try clear hb2); (try clear hk); (try clear hi); (try clear ho0)))
 go_ret
 exact ⟨_, Gv.rt, Gv.kr HO285.out, Gv.bw⟩

/-! ### slices_Grow_byte_byte: function 94 -/
def slices_Grow_byte_byte.f (a0 : Int) : Option (List Int) := if 0 ≤ a0 ∧ a0 ≤ 1099511627776 then some ([] : List Int) else none
set_option maxHeartbeats 8000000 in
set_option maxRecDepth 100000 in
theorem slices_Grow_byte_byte.calls (a0 : Int) (r : List Int) (w : World) (h : slices_Grow_byte_byte.f a0 = some r) :
  Calls Try.prog 94 #[.slice none 0 0, .int .i64 a0] w fun e w' => ∃ v0_ : Value, e = .returned (v0_) ∧ Kd.R (Kd.int .u8) 5 w' w.heap.size (fun _ => True) v0_ r ∧ Below w.heap.size w w' := by
 unfold slices_Grow_byte_byte.f at h
 by_cases hn : 0 ≤ a0 ∧ a0 ≤ 1099511627776
 rotate_left
 ·rw [if_neg hn] at h
  cases h
 rw [if_pos hn] at h
 obtain rfl := Option.some.inj h
 clear h
 by_cases h0 : a0 = 0
 ·subst h0
  go_enter Try.func94, Try.ntmps94
  go_wp2
  go_ret
  exact ⟨_, rfl, Kd.R_nil _ _ _ _ _, Below.refl _ w⟩
 obtain ⟨n, rfl⟩ : ∃ n : Nat, a0 = n := ⟨a0.toNat, by omega⟩
 have hi := info5
 rw [Option.map_eq_some_iff] at hi
 obtain ⟨i, hi, hz⟩ := hi
 simp only [Prod.mk.injEq] at hz
 obtain ⟨hz, hs, hb⟩ := hz
 have hrz : ∀ ty, (Builtin.append_ #[62, 3] ty #[.slice none 0 0, .int .i64 (n : Int)]).run Try.prog w = _ := fun ty =>
  Lib.run_append_nil_zeros w 62 3 ty 5 i (.int .u8 0) .i64 .i64 Try.underlying62 Try.underlying3 hi hz n (by omega) (by omega) (by omega) (by rw [hb]; omega)
 have hG1 : n ≤ grownCap w n 0 5 := grownCap_ge w _ _ _
 have hG2 : grownCap w n 0 5 ≤ maxLen := grownCap_le_maxLen w n 0 5 (by unfold maxLen; omega)
 obtain ⟨G, hG⟩ : ∃ G, G = grownCap w n 0 5 := ⟨_, rfl⟩
 rw [← hG] at hrz hG1 hG2
 have h1 : ¬ ((n : Int) < 0) := by omega
 have h2 : wrap64 ((0 : Int) - 0) = 0 := by unfold wrap64; omega
 have h3 : wrap64 ((n : Int) - 0) = n := by unfold wrap64; omega
 have h4 : (n : Int) > 0 := by omega
 have hG63 : G ≤ 9223372036854775807 := by unfold maxLen at hG2; omega
 have hsz : (Builtin.zeroCells (Value.int .u8 0).cells n ++ Builtin.zeroCells (Value.int .u8 0).cells (G - n)).size = G * 1 := by
  rw [Array.size_append, size_zeroCells, size_zeroCells, show (Value.int .u8 0).cells.size = 1 from rfl]
  omega
 clear hG hz hs hb hi
 go_enter Try.func94, Try.ntmps94
 go_wp2_with (at_builtin; refine Lib.wpList_append_run _ rfl _ _ _ _ rfl _ _ rfl rfl _ _ (hrz _) ?_)
 go_ret
 refine ⟨_, rfl, ⟨fun _ _ => trivial, [], ⟨by simp, .inr ⟨w.heap.size, G, _, rfl, Nat.le_refl _, heap_alloc_new _ _, Nat.zero_le _, hG2, hsz, by simp⟩⟩, Reps.none _ _⟩, (below_alloc (below_drew1 (Below.refl _ w)) _)⟩

end Go.Proofs.Ytbpkmdghloapjaa.PBc
