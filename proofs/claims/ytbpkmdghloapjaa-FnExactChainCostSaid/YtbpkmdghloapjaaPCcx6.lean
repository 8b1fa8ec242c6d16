/- Plain Lean functions of a law's Go functions, their contracts, by a program of this session (wip/pr.py over the kit's print). -/
import Derived.Test.YtbpkmdghloapjaaPCcx0
import Derived.Test.YtbpkmdghloapjaaPCcx4
import Derived.Test.YtbpkmdghloapjaaPCcx5
namespace Go.Proofs.Ytbpkmdghloapjaa.PCc
open Go.RowKit Go.Proofs.YtbpkmdghloapjaaW.PrintWords Go.Proofs.YtbpkmdghloapjaaW.PrintLast Go.Proofs.YtbpkmdghloapjaaW.PrintMore
attribute [local go_sem] max2_int min2_int max_two min_two max_three min_three max_four min_four   -- for this text's walks alone
set_option linter.unusedVariables false
set_option linter.unusedSimpArgs false

/-! ### spec_ModuleOk: function 13 -/
mutual
def spec_ModuleOk.j0 : Nat → Bool → Bool → Int → Int → Int → Int → Int → Int → Int → Int → Int → Int → Int → Int → Int → Int → Int → Int → Int → Option (Bool)
 | 0, _, _, _, _, _, _, _, _, _, _, _, _, _, _, _, _, _, _, _ => none
 | k + 1, x3, x4, x255000, x255001, x255002, x255003, x255004, x255005, x255006, x255007, x255008, x255009, x255010, x255011, x255012, x255013, x255014, x255015, x255016 => if x255000 = 5 then (spec_ModuleOk.j1 k x3 x4 true x255000 x255001 x255002 x255003 x255004 x255005 x255006 x255007 x255008 x255009 x255010 x255011 x255012 x255013 x255014 x255015 x255016) else (spec_ModuleOk.j1 k x3 x4 (x255000 == 7) x255000 x255001 x255002 x255003 x255004 x255005 x255006 x255007 x255008 x255009 x255010 x255011 x255012 x255013 x255014 x255015 x255016)
def spec_ModuleOk.j1 : Nat → Bool → Bool → Bool → Int → Int → Int → Int → Int → Int → Int → Int → Int → Int → Int → Int → Int → Int → Int → Int → Int → Option (Bool)
 | 0, _, _, _, _, _, _, _, _, _, _, _, _, _, _, _, _, _, _, _, _ => none
 | k + 1, x3, x4, x5, x255000, x255001, x255002, x255003, x255004, x255005, x255006, x255007, x255008, x255009, x255010, x255011, x255012, x255013, x255014, x255015, x255016 => if x255000 < 1 then (spec_ModuleOk.j2 k x3 x4 x5 true x255000 x255001 x255002 x255003 x255004 x255005 x255006 x255007 x255008 x255009 x255010 x255011 x255012 x255013 x255014 x255015 x255016) else (spec_ModuleOk.j2 k x3 x4 x5 (decide (x255000 > 7)) x255000 x255001 x255002 x255003 x255004 x255005 x255006 x255007 x255008 x255009 x255010 x255011 x255012 x255013 x255014 x255015 x255016)
def spec_ModuleOk.j2 : Nat → Bool → Bool → Bool → Bool → Int → Int → Int → Int → Int → Int → Int → Int → Int → Int → Int → Int → Int → Int → Int → Int → Int → Option (Bool)
 | 0, _, _, _, _, _, _, _, _, _, _, _, _, _, _, _, _, _, _, _, _, _ => none
 | k + 1, x3, x4, x5, x32, x255000, x255001, x255002, x255003, x255004, x255005, x255006, x255007, x255008, x255009, x255010, x255011, x255012, x255013, x255014, x255015, x255016 => if x32 = true then (some false) else (if x3 = true then (if x5 = true then (spec_ModuleOk.j3 k false x255000 x255001 x255002 x255003 x255004 x255005 x255006 x255007 x255008 x255009 x255010 x255011 x255012 x255013 x255014 x255015 x255016) else (if x255016 = 0 then (spec_ModuleOk.j3 k false x255000 x255001 x255002 x255003 x255004 x255005 x255006 x255007 x255008 x255009 x255010 x255011 x255012 x255013 x255014 x255015 x255016) else (spec_ModuleOk.j3 k true x255000 x255001 x255002 x255003 x255004 x255005 x255006 x255007 x255008 x255009 x255010 x255011 x255012 x255013 x255014 x255015 x255016))) else (if x255013 = 0 then (if x255014 = 0 then (if x255015 = 0 then (if x5 = true then (if x4 = true then (spec_ModuleOk.j3 k false x255000 x255001 x255002 x255003 x255004 x255005 x255006 x255007 x255008 x255009 x255010 x255011 x255012 x255013 x255014 x255015 x255016) else ((spec_l03Any.f x255001 x255002 x255003 x255004 x255005 x255006).bind fun t255 => (if t255 = true then ((spec_l03Any.f x255007 x255008 x255009 x255010 x255011 x255012).bind fun t256 => (spec_ModuleOk.j3 k (!t256) x255000 x255001 x255002 x255003 x255004 x255005 x255006 x255007 x255008 x255009 x255010 x255011 x255012 x255013 x255014 x255015 x255016)) else (spec_ModuleOk.j3 k true x255000 x255001 x255002 x255003 x255004 x255005 x255006 x255007 x255008 x255009 x255010 x255011 x255012 x255013 x255014 x255015 x255016)))) else (if x255016 = 0 then (if x4 = true then (spec_ModuleOk.j3 k false x255000 x255001 x255002 x255003 x255004 x255005 x255006 x255007 x255008 x255009 x255010 x255011 x255012 x255013 x255014 x255015 x255016) else ((spec_l03Any.f x255001 x255002 x255003 x255004 x255005 x255006).bind fun t257 => (if t257 = true then ((spec_l03Any.f x255007 x255008 x255009 x255010 x255011 x255012).bind fun t258 => (spec_ModuleOk.j3 k (!t258) x255000 x255001 x255002 x255003 x255004 x255005 x255006 x255007 x255008 x255009 x255010 x255011 x255012 x255013 x255014 x255015 x255016)) else (spec_ModuleOk.j3 k true x255000 x255001 x255002 x255003 x255004 x255005 x255006 x255007 x255008 x255009 x255010 x255011 x255012 x255013 x255014 x255015 x255016)))) else (spec_ModuleOk.j3 k true x255000 x255001 x255002 x255003 x255004 x255005 x255006 x255007 x255008 x255009 x255010 x255011 x255012 x255013 x255014 x255015 x255016))) else (spec_ModuleOk.j3 k true x255000 x255001 x255002 x255003 x255004 x255005 x255006 x255007 x255008 x255009 x255010 x255011 x255012 x255013 x255014 x255015 x255016)) else (spec_ModuleOk.j3 k true x255000 x255001 x255002 x255003 x255004 x255005 x255006 x255007 x255008 x255009 x255010 x255011 x255012 x255013 x255014 x255015 x255016)) else (spec_ModuleOk.j3 k true x255000 x255001 x255002 x255003 x255004 x255005 x255006 x255007 x255008 x255009 x255010 x255011 x255012 x255013 x255014 x255015 x255016)))
def spec_ModuleOk.j3 : Nat → Bool → Int → Int → Int → Int → Int → Int → Int → Int → Int → Int → Int → Int → Int → Int → Int → Int → Int → Option (Bool)
 | 0, _, _, _, _, _, _, _, _, _, _, _, _, _, _, _, _, _, _ => none
 | k + 1, x78, x255000, x255001, x255002, x255003, x255004, x255005, x255006, x255007, x255008, x255009, x255010, x255011, x255012, x255013, x255014, x255015, x255016 => if x78 = true then (some false) else (if x255000 = 1 then ((spec_PrefixOk.f k x255001 x255002 x255003 x255004 x255005 x255006).bind fun t259 => (if t259 = true then ((spec_PrefixOk.f k x255007 x255008 x255009 x255010 x255011 x255012).bind fun t260 => (if t260 = true then (if x255013 ≥ (-1) then (if x255013 ≤ 255 then ((spec_l09Range.f x255014 x255015).bind fun t261 => (some t261)) else (some false)) else (some false)) else (some false))) else (some false))) else (if x255000 = 2 then (spec_ModuleOk.j4 k x255000 (x255000 == 2) x255000 x255001 x255002 x255003 x255004 x255005 x255006 x255007 x255008 x255009 x255010 x255011 x255012 x255013 x255014 x255015 x255016) else (spec_ModuleOk.j4 k x255000 (x255000 == 3) x255000 x255001 x255002 x255003 x255004 x255005 x255006 x255007 x255008 x255009 x255010 x255011 x255012 x255013 x255014 x255015 x255016)))
def spec_ModuleOk.j4 : Nat → Int → Bool → Int → Int → Int → Int → Int → Int → Int → Int → Int → Int → Int → Int → Int → Int → Int → Int → Int → Option (Bool)
 | 0, _, _, _, _, _, _, _, _, _, _, _, _, _, _, _, _, _, _, _ => none
 | k + 1, x80, x108, x255000, x255001, x255002, x255003, x255004, x255005, x255006, x255007, x255008, x255009, x255010, x255011, x255012, x255013, x255014, x255015, x255016 => if x108 = true then ((spec_l10Twins.f k x255001 x255002 x255003 x255004 x255005 x255006 x255007 x255008 x255009 x255010 x255011 x255012).bind fun t262 => (some t262)) else (if x80 = 5 then ((spec_l05In.f x255016 63).bind fun t263 => (some t263)) else (if x80 = 7 then (if x255016 ≥ 1 then (some (decide (x255016 ≤ 4))) else (some false)) else (some true)))
end
def spec_ModuleOk.f (k : Nat) (a0_0 : Int) (a0_1 : Int) (a0_2 : Int) (a0_3 : Int) (a0_4 : Int) (a0_5 : Int) (a0_6 : Int) (a0_7 : Int) (a0_8 : Int) (a0_9 : Int) (a0_10 : Int) (a0_11 : Int) (a0_12 : Int) (a0_13 : Int) (a0_14 : Int) (a0_15 : Int) (a0_16 : Int) : Option (Bool) := if a0_0 = 2 then (spec_ModuleOk.j0 k (a0_0 == 1) true a0_0 a0_1 a0_2 a0_3 a0_4 a0_5 a0_6 a0_7 a0_8 a0_9 a0_10 a0_11 a0_12 a0_13 a0_14 a0_15 a0_16) else (spec_ModuleOk.j0 k (a0_0 == 1) (a0_0 == 3) a0_0 a0_1 a0_2 a0_3 a0_4 a0_5 a0_6 a0_7 a0_8 a0_9 a0_10 a0_11 a0_12 a0_13 a0_14 a0_15 a0_16)
theorem spec_ModuleOk.mono_l : ∀ k, (∀ y0 y1 y2 y3 y4 y5 y6 y7 y8 y9 y10 y11 y12 y13 y14 y15 y16 y17 y18, LeO (spec_ModuleOk.j0 k y0 y1 y2 y3 y4 y5 y6 y7 y8 y9 y10 y11 y12 y13 y14 y15 y16 y17 y18) (spec_ModuleOk.j0 (k + 1) y0 y1 y2 y3 y4 y5 y6 y7 y8 y9 y10 y11 y12 y13 y14 y15 y16 y17 y18)) ∧ (∀ y0 y1 y2 y3 y4 y5 y6 y7 y8 y9 y10 y11 y12 y13 y14 y15 y16 y17 y18 y19, LeO (spec_ModuleOk.j1 k y0 y1 y2 y3 y4 y5 y6 y7 y8 y9 y10 y11 y12 y13 y14 y15 y16 y17 y18 y19) (spec_ModuleOk.j1 (k + 1) y0 y1 y2 y3 y4 y5 y6 y7 y8 y9 y10 y11 y12 y13 y14 y15 y16 y17 y18 y19)) ∧ (∀ y0 y1 y2 y3 y4 y5 y6 y7 y8 y9 y10 y11 y12 y13 y14 y15 y16 y17 y18 y19 y20, LeO (spec_ModuleOk.j2 k y0 y1 y2 y3 y4 y5 y6 y7 y8 y9 y10 y11 y12 y13 y14 y15 y16 y17 y18 y19 y20) (spec_ModuleOk.j2 (k + 1) y0 y1 y2 y3 y4 y5 y6 y7 y8 y9 y10 y11 y12 y13 y14 y15 y16 y17 y18 y19 y20)) ∧ (∀ y0 y1 y2 y3 y4 y5 y6 y7 y8 y9 y10 y11 y12 y13 y14 y15 y16 y17, LeO (spec_ModuleOk.j3 k y0 y1 y2 y3 y4 y5 y6 y7 y8 y9 y10 y11 y12 y13 y14 y15 y16 y17) (spec_ModuleOk.j3 (k + 1) y0 y1 y2 y3 y4 y5 y6 y7 y8 y9 y10 y11 y12 y13 y14 y15 y16 y17)) ∧ (∀ y0 y1 y2 y3 y4 y5 y6 y7 y8 y9 y10 y11 y12 y13 y14 y15 y16 y17 y18, LeO (spec_ModuleOk.j4 k y0 y1 y2 y3 y4 y5 y6 y7 y8 y9 y10 y11 y12 y13 y14 y15 y16 y17 y18) (spec_ModuleOk.j4 (k + 1) y0 y1 y2 y3 y4 y5 y6 y7 y8 y9 y10 y11 y12 y13 y14 y15 y16 y17 y18))
 | 0 => ⟨fun _ _ _ _ _ _ _ _ _ _ _ _ _ _ _ _ _ _ _ r h => by simp [spec_ModuleOk.j0] at h, fun _ _ _ _ _ _ _ _ _ _ _ _ _ _ _ _ _ _ _ _ r h => by simp [spec_ModuleOk.j1] at h, fun _ _ _ _ _ _ _ _ _ _ _ _ _ _ _ _ _ _ _ _ _ r h => by simp [spec_ModuleOk.j2] at h, fun _ _ _ _ _ _ _ _ _ _ _ _ _ _ _ _ _ _ r h => by simp [spec_ModuleOk.j3] at h, fun _ _ _ _ _ _ _ _ _ _ _ _ _ _ _ _ _ _ _ r h => by simp [spec_ModuleOk.j4] at h⟩
 | k + 1 => by
  obtain ⟨ih0, ih1, ih2, ih3, ih4⟩ := spec_ModuleOk.mono_l k
  refine ⟨?_, ?_, ?_, ?_, ?_⟩
  ·intro y0 y1 y2 y3 y4 y5 y6 y7 y8 y9 y10 y11 y12 y13 y14 y15 y16 y17 y18
   unfold spec_ModuleOk.j0
   repeat' first
   | (with_reducible exact ih0 _ _ _ _ _ _ _ _ _ _ _ _ _ _ _ _ _ _ _)
   | (with_reducible exact ih1 _ _ _ _ _ _ _ _ _ _ _ _ _ _ _ _ _ _ _ _)
   | (with_reducible exact ih2 _ _ _ _ _ _ _ _ _ _ _ _ _ _ _ _ _ _ _ _ _)
   | (with_reducible exact ih3 _ _ _ _ _ _ _ _ _ _ _ _ _ _ _ _ _ _)
   | (with_reducible exact ih4 _ _ _ _ _ _ _ _ _ _ _ _ _ _ _ _ _ _ _)
   | (with_reducible exact spec_PrefixOk.mono _ _ _ _ _ _ _)
   | (with_reducible exact spec_l10Twins.mono _ _ _ _ _ _ _ _ _ _ _ _ _)
   | (with_reducible exact LeO.refl _)
   | (with_reducible exact LeO.none _)
   | (with_reducible refine LeO.ite ?_ ?_)
   | (with_reducible refine LeO.bind ?_ (fun _ => ?_))
   | exact ih0 _ _ _ _ _ _ _ _ _ _ _ _ _ _ _ _ _ _ _
   | exact ih1 _ _ _ _ _ _ _ _ _ _ _ _ _ _ _ _ _ _ _ _
   | exact ih2 _ _ _ _ _ _ _ _ _ _ _ _ _ _ _ _ _ _ _ _ _
   | exact ih3 _ _ _ _ _ _ _ _ _ _ _ _ _ _ _ _ _ _
   | exact ih4 _ _ _ _ _ _ _ _ _ _ _ _ _ _ _ _ _ _ _
   | exact spec_PrefixOk.mono _ _ _ _ _ _ _
   | exact spec_l10Twins.mono _ _ _ _ _ _ _ _ _ _ _ _ _
   | exact LeO.none _
   | refine LeO.ite ?_ ?_
   | refine LeO.bind ?_ (fun _ => ?_)
  ·intro y0 y1 y2 y3 y4 y5 y6 y7 y8 y9 y10 y11 y12 y13 y14 y15 y16 y17 y18 y19
   unfold spec_ModuleOk.j1
   repeat' first
   | (with_reducible exact ih0 _ _ _ _ _ _ _ _ _ _ _ _ _ _ _ _ _ _ _)
   | (with_reducible exact ih1 _ _ _ _ _ _ _ _ _ _ _ _ _ _ _ _ _ _ _ _)
   | (with_reducible exact ih2 _ _ _ _ _ _ _ _ _ _ _ _ _ _ _ _ _ _ _ _ _)
   | (with_reducible exact ih3 _ _ _ _ _ _ _ _ _ _ _ _ _ _ _ _ _ _)
   | (with_reducible exact ih4 _ _ _ _ _ _ _ _ _ _ _ _ _ _ _ _ _ _ _)
   | (with_reducible exact spec_PrefixOk.mono _ _ _ _ _ _ _)
   | (with_reducible exact spec_l10Twins.mono _ _ _ _ _ _ _ _ _ _ _ _ _)
   | (with_reducible exact LeO.refl _)
   | (with_reducible exact LeO.none _)
   | (with_reducible refine LeO.ite ?_ ?_)
   | (with_reducible refine LeO.bind ?_ (fun _ => ?_))
   | exact ih0 _ _ _ _ _ _ _ _ _ _ _ _ _ _ _ _ _ _ _
   | exact ih1 _ _ _ _ _ _ _ _ _ _ _ _ _ _ _ _ _ _ _ _
   | exact ih2 _ _ _ _ _ _ _ _ _ _ _ _ _ _ _ _ _ _ _ _ _
   | exact ih3 _ _ _ _ _ _ _ _ _ _ _ _ _ _ _ _ _ _
   | exact ih4 _ _ _ _ _ _ _ _ _ _ _ _ _ _ _ _ _ _ _
   | exact spec_PrefixOk.mono _ _ _ _ _ _ _
   | exact spec_l10Twins.mono _ _ _ _ _ _ _ _ _ _ _ _ _
   | exact LeO.none _
   | refine LeO.ite ?_ ?_
   | refine LeO.bind ?_ (fun _ => ?_)
  ·intro y0 y1 y2 y3 y4 y5 y6 y7 y8 y9 y10 y11 y12 y13 y14 y15 y16 y17 y18 y19 y20
   unfold spec_ModuleOk.j2
   repeat' first
   | (with_reducible exact ih0 _ _ _ _ _ _ _ _ _ _ _ _ _ _ _ _ _ _ _)
   | (with_reducible exact ih1 _ _ _ _ _ _ _ _ _ _ _ _ _ _ _ _ _ _ _ _)
   | (with_reducible exact ih2 _ _ _ _ _ _ _ _ _ _ _ _ _ _ _ _ _ _ _ _ _)
   | (with_reducible exact ih3 _ _ _ _ _ _ _ _ _ _ _ _ _ _ _ _ _ _)
   | (with_reducible exact ih4 _ _ _ _ _ _ _ _ _ _ _ _ _ _ _ _ _ _ _)
   | (with_reducible exact spec_PrefixOk.mono _ _ _ _ _ _ _)
   | (with_reducible exact spec_l10Twins.mono _ _ _ _ _ _ _ _ _ _ _ _ _)
   | (with_reducible exact LeO.refl _)
   | (with_reducible exact LeO.none _)
   | (with_reducible refine LeO.ite ?_ ?_)
   | (with_reducible refine LeO.bind ?_ (fun _ => ?_))
   | exact ih0 _ _ _ _ _ _ _ _ _ _ _ _ _ _ _ _ _ _ _
   | exact ih1 _ _ _ _ _ _ _ _ _ _ _ _ _ _ _ _ _ _ _ _
   | exact ih2 _ _ _ _ _ _ _ _ _ _ _ _ _ _ _ _ _ _ _ _ _
   | exact ih3 _ _ _ _ _ _ _ _ _ _ _ _ _ _ _ _ _ _
   | exact ih4 _ _ _ _ _ _ _ _ _ _ _ _ _ _ _ _ _ _ _
   | exact spec_PrefixOk.mono _ _ _ _ _ _ _
   | exact spec_l10Twins.mono _ _ _ _ _ _ _ _ _ _ _ _ _
   | exact LeO.none _
   | refine LeO.ite ?_ ?_
   | refine LeO.bind ?_ (fun _ => ?_)
  ·intro y0 y1 y2 y3 y4 y5 y6 y7 y8 y9 y10 y11 y12 y13 y14 y15 y16 y17
   unfold spec_ModuleOk.j3
   repeat' first
   | (with_reducible exact ih0 _ _ _ _ _ _ _ _ _ _ _ _ _ _ _ _ _ _ _)
   | (with_reducible exact ih1 _ _ _ _ _ _ _ _ _ _ _ _ _ _ _ _ _ _ _ _)
   | (with_reducible exact ih2 _ _ _ _ _ _ _ _ _ _ _ _ _ _ _ _ _ _ _ _ _)
   | (with_reducible exact ih3 _ _ _ _ _ _ _ _ _ _ _ _ _ _ _ _ _ _)
   | (with_reducible exact ih4 _ _ _ _ _ _ _ _ _ _ _ _ _ _ _ _ _ _ _)
   | (with_reducible exact spec_PrefixOk.mono _ _ _ _ _ _ _)
   | (with_reducible exact spec_l10Twins.mono _ _ _ _ _ _ _ _ _ _ _ _ _)
   | (with_reducible exact LeO.refl _)
   | (with_reducible exact LeO.none _)
   | (with_reducible refine LeO.ite ?_ ?_)
   | (with_reducible refine LeO.bind ?_ (fun _ => ?_))
   | exact ih0 _ _ _ _ _ _ _ _ _ _ _ _ _ _ _ _ _ _ _
   | exact ih1 _ _ _ _ _ _ _ _ _ _ _ _ _ _ _ _ _ _ _ _
   | exact ih2 _ _ _ _ _ _ _ _ _ _ _ _ _ _ _ _ _ _ _ _ _
   | exact ih3 _ _ _ _ _ _ _ _ _ _ _ _ _ _ _ _ _ _
   | exact ih4 _ _ _ _ _ _ _ _ _ _ _ _ _ _ _ _ _ _ _
   | exact spec_PrefixOk.mono _ _ _ _ _ _ _
   | exact spec_l10Twins.mono _ _ _ _ _ _ _ _ _ _ _ _ _
   | exact LeO.none _
   | refine LeO.ite ?_ ?_
   | refine LeO.bind ?_ (fun _ => ?_)
  ·intro y0 y1 y2 y3 y4 y5 y6 y7 y8 y9 y10 y11 y12 y13 y14 y15 y16 y17 y18
   unfold spec_ModuleOk.j4
   repeat' first
   | (with_reducible exact ih0 _ _ _ _ _ _ _ _ _ _ _ _ _ _ _ _ _ _ _)
   | (with_reducible exact ih1 _ _ _ _ _ _ _ _ _ _ _ _ _ _ _ _ _ _ _ _)
   | (with_reducible exact ih2 _ _ _ _ _ _ _ _ _ _ _ _ _ _ _ _ _ _ _ _ _)
   | (with_reducible exact ih3 _ _ _ _ _ _ _ _ _ _ _ _ _ _ _ _ _ _)
   | (with_reducible exact ih4 _ _ _ _ _ _ _ _ _ _ _ _ _ _ _ _ _ _ _)
   | (with_reducible exact spec_PrefixOk.mono _ _ _ _ _ _ _)
   | (with_reducible exact spec_l10Twins.mono _ _ _ _ _ _ _ _ _ _ _ _ _)
   | (with_reducible exact LeO.refl _)
   | (with_reducible exact LeO.none _)
   | (with_reducible refine LeO.ite ?_ ?_)
   | (with_reducible refine LeO.bind ?_ (fun _ => ?_))
   | exact ih0 _ _ _ _ _ _ _ _ _ _ _ _ _ _ _ _ _ _ _
   | exact ih1 _ _ _ _ _ _ _ _ _ _ _ _ _ _ _ _ _ _ _ _
   | exact ih2 _ _ _ _ _ _ _ _ _ _ _ _ _ _ _ _ _ _ _ _ _
   | exact ih3 _ _ _ _ _ _ _ _ _ _ _ _ _ _ _ _ _ _
   | exact ih4 _ _ _ _ _ _ _ _ _ _ _ _ _ _ _ _ _ _ _
   | exact spec_PrefixOk.mono _ _ _ _ _ _ _
   | exact spec_l10Twins.mono _ _ _ _ _ _ _ _ _ _ _ _ _
   | exact LeO.none _
   | refine LeO.ite ?_ ?_
   | refine LeO.bind ?_ (fun _ => ?_)
theorem spec_ModuleOk.mono : ∀ a0 a1 a2 a3 a4 a5 a6 a7 a8 a9 a10 a11 a12 a13 a14 a15 a16 k, LeO (spec_ModuleOk.f k a0 a1 a2 a3 a4 a5 a6 a7 a8 a9 a10 a11 a12 a13 a14 a15 a16) (spec_ModuleOk.f (k + 1) a0 a1 a2 a3 a4 a5 a6 a7 a8 a9 a10 a11 a12 a13 a14 a15 a16) := by
 intro a0 a1 a2 a3 a4 a5 a6 a7 a8 a9 a10 a11 a12 a13 a14 a15 a16 k
 obtain ⟨ih0, ih1, ih2, ih3, ih4⟩ := spec_ModuleOk.mono_l k
 unfold spec_ModuleOk.f
 repeat' first
   | (with_reducible exact ih0 _ _ _ _ _ _ _ _ _ _ _ _ _ _ _ _ _ _ _)
   | (with_reducible exact ih1 _ _ _ _ _ _ _ _ _ _ _ _ _ _ _ _ _ _ _ _)
   | (with_reducible exact ih2 _ _ _ _ _ _ _ _ _ _ _ _ _ _ _ _ _ _ _ _ _)
   | (with_reducible exact ih3 _ _ _ _ _ _ _ _ _ _ _ _ _ _ _ _ _ _)
   | (with_reducible exact ih4 _ _ _ _ _ _ _ _ _ _ _ _ _ _ _ _ _ _ _)
   | (with_reducible exact spec_PrefixOk.mono _ _ _ _ _ _ _)
   | (with_reducible exact spec_l10Twins.mono _ _ _ _ _ _ _ _ _ _ _ _ _)
   | (with_reducible exact LeO.refl _)
   | (with_reducible exact LeO.none _)
   | (with_reducible refine LeO.ite ?_ ?_)
   | (with_reducible refine LeO.bind ?_ (fun _ => ?_))
   | exact ih0 _ _ _ _ _ _ _ _ _ _ _ _ _ _ _ _ _ _ _
   | exact ih1 _ _ _ _ _ _ _ _ _ _ _ _ _ _ _ _ _ _ _ _
   | exact ih2 _ _ _ _ _ _ _ _ _ _ _ _ _ _ _ _ _ _ _ _ _
   | exact ih3 _ _ _ _ _ _ _ _ _ _ _ _ _ _ _ _ _ _
   | exact ih4 _ _ _ _ _ _ _ _ _ _ _ _ _ _ _ _ _ _ _
   | exact spec_PrefixOk.mono _ _ _ _ _ _ _
   | exact spec_l10Twins.mono _ _ _ _ _ _ _ _ _ _ _ _ _
   | exact LeO.none _
   | refine LeO.ite ?_ ?_
   | refine LeO.bind ?_ (fun _ => ?_)
set_option maxHeartbeats 8000000 in
set_option maxRecDepth 100000 in
theorem spec_ModuleOk.calls (k : Nat) (a0_0 : Int) (a0_1 : Int) (a0_2 : Int) (a0_3 : Int) (a0_4 : Int) (a0_5 : Int) (a0_6 : Int) (a0_7 : Int) (a0_8 : Int) (a0_9 : Int) (a0_10 : Int) (a0_11 : Int) (a0_12 : Int) (a0_13 : Int) (a0_14 : Int) (a0_15 : Int) (a0_16 : Int) (r : Bool) (w : World) (h : spec_ModuleOk.f k a0_0 a0_1 a0_2 a0_3 a0_4 a0_5 a0_6 a0_7 a0_8 a0_9 a0_10 a0_11 a0_12 a0_13 a0_14 a0_15 a0_16 = some r) :
  Calls Try.prog 13 #[.agg #[.int .i64 a0_0, .int .i64 a0_1, .int .i64 a0_2, .int .i64 a0_3, .int .i64 a0_4, .int .i64 a0_5, .int .i64 a0_6, .int .i64 a0_7, .int .i64 a0_8, .int .i64 a0_9, .int .i64 a0_10, .int .i64 a0_11, .int .i64 a0_12, .int .i64 a0_13, .int .i64 a0_14, .int .i64 a0_15, .int .i64 a0_16]] w fun e w' => e = .returned (.bool r) ∧ Below w.heap.size w w' := by
 have hu38 := Try.underlying38
 have hu29 := Try.underlying29
 have HB := Gv.a0 (Below.refl w.heap.size w)
 have H : (if a0_0 = 2 then (spec_ModuleOk.j0 k (a0_0 == 1) true a0_0 a0_1 a0_2 a0_3 a0_4 a0_5 a0_6 a0_7 a0_8 a0_9 a0_10 a0_11 a0_12 a0_13 a0_14 a0_15 a0_16) else (spec_ModuleOk.j0 k (a0_0 == 1) (a0_0 == 3) a0_0 a0_1 a0_2 a0_3 a0_4 a0_5 a0_6 a0_7 a0_8 a0_9 a0_10 a0_11 a0_12 a0_13 a0_14 a0_15 a0_16)) = some r := h
 clear h
 have HC2 := Gv.a0 H
 clear H
 go_enter Try.func13, Try.ntmps13
 go_upto_region 2 with (first | ((with_reducible refine gate_dst (N := 1) rfl ?_); refine box_event ?hg (N := 1) ?hd (cs := #[.int .i64 a0_0, .int .i64 a0_1, .int .i64 a0_2, .int .i64 a0_3, .int .i64 a0_4, .int .i64 a0_5, .int .i64 a0_6, .int .i64 a0_7, .int .i64 a0_8, .int .i64 a0_9, .int .i64 a0_10, .int .i64 a0_11, .int .i64 a0_12, .int .i64 a0_13, .int .i64 a0_14, .int .i64 a0_15, .int .i64 a0_16]) (t := 38) ?hr ?_; (case hd => rfl); (case hg => rfl); (case hr => first | (go_simp; done) | (go_simp; rfl)); intro gb254 hg w3 hbox hb; have n0_ := Gv.a0 (below_step Gv.bw hb); have n1_ := Gv.a0 (hbox); have n2_ := Gv.a0 ((Gv.ble hg Gv.bw : w.heap.size ≤ gb254)); have n3_ := Gv.a0 ((Gv.ble hg Gv.bw : w.heap.size ≤ gb254)); clear HB; have HB := n0_; have BK254 := n1_; have GW254 := n2_; have GE254 := n3_; clear n0_ n1_ n2_ n3_; clear hb hbox hg; obtain ⟨hcz4_0, hcz4_1, hcz4_2, hcz4_3, hcz4_4, hcz4_5, hcz4_6, hcz4_7, hcz4_8, hcz4_9, hcz4_10, hcz4_11, hcz4_12, hcz4_13, hcz4_14, hcz4_15, hcz4_16⟩ := Gv.c17 BK254.out; obtain ⟨hfz4_0, hfz4_1, hfz4_2, hfz4_3, hfz4_4, hfz4_5, hfz4_6, hfz4_7, hfz4_8, hfz4_9, hfz4_10, hfz4_11, hfz4_12, hfz4_13, hfz4_14, hfz4_15, hfz4_16⟩ := Gv.f17 BK254.out) | ((with_reducible refine gate_store (t := 38) (p := 1) rfl ?_); refine Gv.store_event rfl rfl rfl rfl rfl (Gv.kb BK254.out) (by kernel_rfl) rfl (by simp; and_intros <;> rfl) ?_; intro w3s hbox hoth hbel; have n0_ := Gv.a0 (hbox); have n1_ := Gv.a0 (hbel w Gv.bw GE254.out); clear BK254 HB; have BK254 := n0_; have HB := n1_; clear n0_ n1_ hbox hoth hbel; (try clear hcz4_0 hcz4_1 hcz4_2 hcz4_3 hcz4_4 hcz4_5 hcz4_6 hcz4_7 hcz4_8 hcz4_9 hcz4_10 hcz4_11 hcz4_12 hcz4_13 hcz4_14 hcz4_15 hcz4_16 hfz4_0 hfz4_1 hfz4_2 hfz4_3 hfz4_4 hfz4_5 hfz4_6 hfz4_7 hfz4_8 hfz4_9 hfz4_10 hfz4_11 hfz4_12 hfz4_13 hfz4_14 hfz4_15 hfz4_16); obtain ⟨hcz4_0, hcz4_1, hcz4_2, hcz4_3, hcz4_4, hcz4_5, hcz4_6, hcz4_7, hcz4_8, hcz4_9, hcz4_10, hcz4_11, hcz4_12, hcz4_13, hcz4_14, hcz4_15, hcz4_16⟩ := Gv.c17 BK254.out; obtain ⟨hfz4_0, hfz4_1, hfz4_2, hfz4_3, hfz4_4, hfz4_5, hfz4_6, hfz4_7, hfz4_8, hfz4_9, hfz4_10, hfz4_11, hfz4_12, hfz4_13, hfz4_14, hfz4_15, hfz4_16⟩ := Gv.f17 BK254.out) | ((with_reducible refine Gv.gate_load (t := 38) rfl ?_); (try (refine gate_guard (by rfl) ?_; dsimp only)); refine wpList_load_row rfl 38 _ rfl gb254 rfl 38 _ _ _ (by first | exact Gv.kb0 BK254.out | exact Gv.kb1 (Gv.kb0 BK254.out)) Try.underlying38 rfl (by kernel_rfl) ?_))
 (try simp only [Act.put, List.setIfInBounds_toArray, List.set_cons_zero, List.set_cons_succ])
 go_cut [4] (fun v4 wc => ∃ (kq : Nat) (x4_1 : Bool), v4 = .bool x4_1 ∧ Aside0 (spec_ModuleOk.j0 kq (a0_0 == 1) x4_1 a0_0 a0_1 a0_2 a0_3 a0_4 a0_5 a0_6 a0_7 a0_8 a0_9 a0_10 a0_11 a0_12 a0_13 a0_14 a0_15 a0_16 = some r) ∧ Aside0 (kq ≤ k) ∧ Aside0 (wc.heap[gb254]? = some (.cells #[.int .i64 a0_0, .int .i64 a0_1, .int .i64 a0_2, .int .i64 a0_3, .int .i64 a0_4, .int .i64 a0_5, .int .i64 a0_6, .int .i64 a0_7, .int .i64 a0_8, .int .i64 a0_9, .int .i64 a0_10, .int .i64 a0_11, .int .i64 a0_12, .int .i64 a0_13, .int .i64 a0_14, .int .i64 a0_15, .int .i64 a0_16] 38 (0, 0))) ∧ Aside0 (Below w.heap.size w wc))
 case first =>
  have H := HC2.out
  clear HC2
  by_cases c5 : a0_0 = 2
  ·rw [if_pos c5] at H
   have c5b0 : (a0_0 == 2) = true := beq_iff_eq.mpr c5
   have c5b1 : (a0_0 != 2) = false := bne_eq_false_iff_eq.mpr c5
   clear c5
   (first | rw [c5b0] | (simp only [i64_w, i32_w]; rw [c5b0]) | skip)
   have H' := Gv.a0 H
   clear H
   obtain ⟨hcz6_0, hcz6_1, hcz6_2, hcz6_3, hcz6_4, hcz6_5, hcz6_6, hcz6_7, hcz6_8, hcz6_9, hcz6_10, hcz6_11, hcz6_12, hcz6_13, hcz6_14, hcz6_15, hcz6_16⟩ := Gv.c17 BK254.out
   obtain ⟨hfz6_0, hfz6_1, hfz6_2, hfz6_3, hfz6_4, hfz6_5, hfz6_6, hfz6_7, hfz6_8, hfz6_9, hfz6_10, hfz6_11, hfz6_12, hfz6_13, hfz6_14, hfz6_15, hfz6_16⟩ := Gv.f17 BK254.out
   go_wp2_with (first | ((with_reducible refine Gv.gate_load (t := 38) rfl ?_); (try (refine gate_guard (by rfl) ?_; dsimp only)); refine wpList_load_row rfl 38 _ rfl gb254 rfl 38 _ _ _ (by first | exact Gv.kb0 BK254.out | exact Gv.kb1 (Gv.kb0 BK254.out)) Try.underlying38 rfl (by kernel_rfl) ?_))
   refine Met.intro ?_
   go_step
   (repeat apply Exists.intro)
   refine ⟨?rel, ?eq_⟩
   case eq_ => first | rfl | (rw [c5b0]; rfl) | (simp only [c5b0]; rfl)
   case rel => exact ⟨_, (true), Gv.rq, H', ⟨by first | omega | exact Nat.le_refl _⟩, ⟨by (with_reducible repeat (first | refine blk_drewN ?_ _ | refine blk_drew ?_ | refine blk_alloc ?_ _)); exact BK254.out⟩, ⟨Gv.bw⟩⟩
  ·rw [if_neg c5] at H
   have c5b0 : (a0_0 == 2) = false := beq_eq_false_iff_ne.mpr c5
   have c5b1 : (a0_0 != 2) = true := bne_iff_ne.mpr c5
   (first | rw [c5b0] | (simp only [i64_w, i32_w]; rw [c5b0]) | skip)
   have H' := Gv.a0 H
   clear H
   obtain ⟨hcz7_0, hcz7_1, hcz7_2, hcz7_3, hcz7_4, hcz7_5, hcz7_6, hcz7_7, hcz7_8, hcz7_9, hcz7_10, hcz7_11, hcz7_12, hcz7_13, hcz7_14, hcz7_15, hcz7_16⟩ := Gv.c17 BK254.out
   obtain ⟨hfz7_0, hfz7_1, hfz7_2, hfz7_3, hfz7_4, hfz7_5, hfz7_6, hfz7_7, hfz7_8, hfz7_9, hfz7_10, hfz7_11, hfz7_12, hfz7_13, hfz7_14, hfz7_15, hfz7_16⟩ := Gv.f17 BK254.out
   go_wp2_with (first | ((with_reducible refine Gv.gate_load (t := 38) rfl ?_); (try (refine gate_guard (by rfl) ?_; dsimp only)); refine wpList_load_row rfl 38 _ rfl gb254 rfl 38 _ _ _ (by first | exact Gv.kb0 BK254.out | exact Gv.kb1 (Gv.kb0 BK254.out)) Try.underlying38 rfl (by kernel_rfl) ?_))
   refine Met.intro ?_
   go_step
   (repeat apply Exists.intro)
   refine ⟨?rel, ?eq_⟩
   case eq_ => first | rfl | (rw [c5b0]; rfl) | (simp only [c5b0]; rfl)
   case rel => exact ⟨_, ((a0_0 == 3)), Gv.rq, H', ⟨by first | omega | exact Nat.le_refl _⟩, ⟨by (with_reducible repeat (first | refine blk_drewN ?_ _ | refine blk_drew ?_ | refine blk_alloc ?_ _)); exact BK254.out⟩, ⟨Gv.bw⟩⟩
 case rest =>
  clear HC2
  try clear c1
  try clear p2
  try clear c5
  try clear c5b0
  try clear c5b1
  try clear hcz4_0 hcz4_1
  try clear hcz4_10 hcz4_11 hcz4_12 hcz4_13 hcz4_14 hcz4_15 hcz4_16
  try clear hcz4_2 hcz4_3 hcz4_4 hcz4_5 hcz4_6 hcz4_7 hcz4_8 hcz4_9
  try clear hcz6_0 hcz6_1
  try clear hcz6_10 hcz6_11 hcz6_12 hcz6_13 hcz6_14 hcz6_15 hcz6_16
  try clear hcz6_2 hcz6_3 hcz6_4 hcz6_5 hcz6_6 hcz6_7 hcz6_8 hcz6_9
  try clear hcz7_0 hcz7_1
  try clear hcz7_10 hcz7_11 hcz7_12 hcz7_13 hcz7_14 hcz7_15 hcz7_16
  try clear hcz7_2 hcz7_3 hcz7_4 hcz7_5 hcz7_6 hcz7_7 hcz7_8 hcz7_9
  try clear hfz4_0 hfz4_1
  try clear hfz4_10 hfz4_11 hfz4_12 hfz4_13 hfz4_14 hfz4_15 hfz4_16
  try clear hfz4_2 hfz4_3 hfz4_4 hfz4_5 hfz4_6 hfz4_7 hfz4_8 hfz4_9
  try clear hfz6_0 hfz6_1
  try clear hfz6_10 hfz6_11 hfz6_12 hfz6_13 hfz6_14 hfz6_15 hfz6_16
  try clear hfz6_2 hfz6_3 hfz6_4 hfz6_5 hfz6_6 hfz6_7 hfz6_8 hfz6_9
  try clear hfz7_0 hfz7_1
  try clear hfz7_10 hfz7_11 hfz7_12 hfz7_13 hfz7_14 hfz7_15 hfz7_16
  try clear hfz7_2 hfz7_3 hfz7_4 hfz7_5 hfz7_6 hfz7_7 hfz7_8 hfz7_9
  obtain ⟨kq, x4_1, rfl, HA, HJ1, BK254, HB⟩ := hcut
  cases kq with
  | zero => exact absurd HA.out (by simp [spec_ModuleOk.j0])
  | succ kj1 =>
   have H := HA.out
   clear HA
   simp only [spec_ModuleOk.j0] at H
   have HC8 := Gv.a0 H
   clear H
   go_upto_region 3 with (fail)
   go_cut [5] (fun v5 wc => ∃ (kq : Nat) (x5_7 : Bool), v5 = .bool x5_7 ∧ Aside0 (spec_ModuleOk.j1 kq (a0_0 == 1) x4_1 x5_7 a0_0 a0_1 a0_2 a0_3 a0_4 a0_5 a0_6 a0_7 a0_8 a0_9 a0_10 a0_11 a0_12 a0_13 a0_14 a0_15 a0_16 = some r) ∧ Aside0 (kq ≤ kj1) ∧ Aside0 (wc.heap[gb254]? = some (.cells #[.int .i64 a0_0, .int .i64 a0_1, .int .i64 a0_2, .int .i64 a0_3, .int .i64 a0_4, .int .i64 a0_5, .int .i64 a0_6, .int .i64 a0_7, .int .i64 a0_8, .int .i64 a0_9, .int .i64 a0_10, .int .i64 a0_11, .int .i64 a0_12, .int .i64 a0_13, .int .i64 a0_14, .int .i64 a0_15, .int .i64 a0_16] 38 (0, 0))) ∧ Aside0 (Below w.heap.size w wc))
   case first =>
    have H := HC8.out
    clear HC8
    by_cases c9 : a0_0 = 5
    ·rw [if_pos c9] at H
     have c9b0 : (a0_0 == 5) = true := beq_iff_eq.mpr c9
     have c9b1 : (a0_0 != 5) = false := bne_eq_false_iff_eq.mpr c9
     clear c9
     (first | rw [c9b0] | (simp only [i64_w, i32_w]; rw [c9b0]) | skip)
     have H' := Gv.a0 H
     clear H
     obtain ⟨hcz10_0, hcz10_1, hcz10_2, hcz10_3, hcz10_4, hcz10_5, hcz10_6, hcz10_7, hcz10_8, hcz10_9, hcz10_10, hcz10_11, hcz10_12, hcz10_13, hcz10_14, hcz10_15, hcz10_16⟩ := Gv.c17 BK254.out
     obtain ⟨hfz10_0, hfz10_1, hfz10_2, hfz10_3, hfz10_4, hfz10_5, hfz10_6, hfz10_7, hfz10_8, hfz10_9, hfz10_10, hfz10_11, hfz10_12, hfz10_13, hfz10_14, hfz10_15, hfz10_16⟩ := Gv.f17 BK254.out
     go_wp2_with (first | ((with_reducible refine Gv.gate_load (t := 38) rfl ?_); (try (refine gate_guard (by rfl) ?_; dsimp only)); refine wpList_load_row rfl 38 _ rfl gb254 rfl 38 _ _ _ (by first | exact Gv.kb0 BK254.out | exact Gv.kb1 (Gv.kb0 BK254.out)) Try.underlying38 rfl (by kernel_rfl) ?_))
     refine Met.intro ?_
     go_step
     (repeat apply Exists.intro)
     refine ⟨?rel, ?eq_⟩
     case eq_ => first | rfl | (rw [c9b0]; rfl) | (simp only [c9b0]; rfl)
     case rel => exact ⟨_, (true), Gv.rq, H', ⟨by have := HJ1.out; first | omega | exact Nat.le_refl _⟩, ⟨by (with_reducible repeat (first | refine blk_drewN ?_ _ | refine blk_drew ?_ | refine blk_alloc ?_ _)); exact BK254.out⟩, ⟨Gv.bw⟩⟩
    ·rw [if_neg c9] at H
     have c9b0 : (a0_0 == 5) = false := beq_eq_false_iff_ne.mpr c9
     have c9b1 : (a0_0 != 5) = true := bne_iff_ne.mpr c9
     (first | rw [c9b0] | (simp only [i64_w, i32_w]; rw [c9b0]) | skip)
     have H' := Gv.a0 H
     clear H
     obtain ⟨hcz11_0, hcz11_1, hcz11_2, hcz11_3, hcz11_4, hcz11_5, hcz11_6, hcz11_7, hcz11_8, hcz11_9, hcz11_10, hcz11_11, hcz11_12, hcz11_13, hcz11_14, hcz11_15, hcz11_16⟩ := Gv.c17 BK254.out
     obtain ⟨hfz11_0, hfz11_1, hfz11_2, hfz11_3, hfz11_4, hfz11_5, hfz11_6, hfz11_7, hfz11_8, hfz11_9, hfz11_10, hfz11_11, hfz11_12, hfz11_13, hfz11_14, hfz11_15, hfz11_16⟩ := Gv.f17 BK254.out
     go_wp2_with (first | ((with_reducible refine Gv.gate_load (t := 38) rfl ?_); (try (refine gate_guard (by rfl) ?_; dsimp only)); refine wpList_load_row rfl 38 _ rfl gb254 rfl 38 _ _ _ (by first | exact Gv.kb0 BK254.out | exact Gv.kb1 (Gv.kb0 BK254.out)) Try.underlying38 rfl (by kernel_rfl) ?_))
     refine Met.intro ?_
     go_step
     (repeat apply Exists.intro)
     refine ⟨?rel, ?eq_⟩
     case eq_ => first | rfl | (rw [c9b0]; rfl) | (simp only [c9b0]; rfl)
     case rel => exact ⟨_, ((a0_0 == 7)), Gv.rq, H', ⟨by have := HJ1.out; first | omega | exact Nat.le_refl _⟩, ⟨by (with_reducible repeat (first | refine blk_drewN ?_ _ | refine blk_drew ?_ | refine blk_alloc ?_ _)); exact BK254.out⟩, ⟨Gv.bw⟩⟩
   case rest =>
    clear HC8
    try clear c1
    try clear p2
    try clear c5
    try clear c5b0
    try clear c5b1
    try clear c9
    try clear c9b0
    try clear c9b1
    try clear hcz10_0 hcz10_1
    try clear hcz10_10 hcz10_11 hcz10_12 hcz10_13 hcz10_14 hcz10_15 hcz10_16
    try clear hcz10_2 hcz10_3 hcz10_4 hcz10_5 hcz10_6 hcz10_7 hcz10_8 hcz10_9
    try clear hcz11_0 hcz11_1
    try clear hcz11_10 hcz11_11 hcz11_12 hcz11_13 hcz11_14 hcz11_15 hcz11_16
    try clear hcz11_2 hcz11_3 hcz11_4 hcz11_5 hcz11_6 hcz11_7 hcz11_8 hcz11_9
    try clear hcz4_0 hcz4_1
    try clear hcz4_10 hcz4_11 hcz4_12 hcz4_13 hcz4_14 hcz4_15 hcz4_16
    try clear hcz4_2 hcz4_3 hcz4_4 hcz4_5 hcz4_6 hcz4_7 hcz4_8 hcz4_9
    try clear hcz6_0 hcz6_1
    try clear hcz6_10 hcz6_11 hcz6_12 hcz6_13 hcz6_14 hcz6_15 hcz6_16
    try clear hcz6_2 hcz6_3 hcz6_4 hcz6_5 hcz6_6 hcz6_7 hcz6_8 hcz6_9
    try clear hcz7_0 hcz7_1
    try clear hcz7_10 hcz7_11 hcz7_12 hcz7_13 hcz7_14 hcz7_15 hcz7_16
    try clear hcz7_2 hcz7_3 hcz7_4 hcz7_5 hcz7_6 hcz7_7 hcz7_8 hcz7_9
    try clear hfz10_0 hfz10_1
    try clear hfz10_10 hfz10_11 hfz10_12 hfz10_13 hfz10_14 hfz10_15 hfz10_16
    try clear hfz10_2 hfz10_3 hfz10_4 hfz10_5 hfz10_6 hfz10_7 hfz10_8 hfz10_9
    try clear hfz11_0 hfz11_1
    try clear hfz11_10 hfz11_11 hfz11_12 hfz11_13 hfz11_14 hfz11_15 hfz11_16
    try clear hfz11_2 hfz11_3 hfz11_4 hfz11_5 hfz11_6 hfz11_7 hfz11_8 hfz11_9
    try clear hfz4_0 hfz4_1
    try clear hfz4_10 hfz4_11 hfz4_12 hfz4_13 hfz4_14 hfz4_15 hfz4_16
    try clear hfz4_2 hfz4_3 hfz4_4 hfz4_5 hfz4_6 hfz4_7 hfz4_8 hfz4_9
    try clear hfz6_0 hfz6_1
    try clear hfz6_10 hfz6_11 hfz6_12 hfz6_13 hfz6_14 hfz6_15 hfz6_16
    try clear hfz6_2 hfz6_3 hfz6_4 hfz6_5 hfz6_6 hfz6_7 hfz6_8 hfz6_9
    try clear hfz7_0 hfz7_1
    try clear hfz7_10 hfz7_11 hfz7_12 hfz7_13 hfz7_14 hfz7_15 hfz7_16
    try clear hfz7_2 hfz7_3 hfz7_4 hfz7_5 hfz7_6 hfz7_7 hfz7_8 hfz7_9
    try clear p2
    obtain ⟨kq, x5_7, rfl, HA, HJ7, BK254, HB⟩ := hcut
    cases kq with
    | zero => exact absurd HA.out (by simp [spec_ModuleOk.j1])
    | succ kj7 =>
     have H := HA.out
     clear HA
     simp only [spec_ModuleOk.j1] at H
     have HC12 := Gv.a0 H
     clear H
     go_upto_region 4 with (fail)
     go_cut [32] (fun v32 wc => ∃ (kq : Nat) (x32_11 : Bool), v32 = .bool x32_11 ∧ Aside0 (spec_ModuleOk.j2 kq (a0_0 == 1) x4_1 x5_7 x32_11 a0_0 a0_1 a0_2 a0_3 a0_4 a0_5 a0_6 a0_7 a0_8 a0_9 a0_10 a0_11 a0_12 a0_13 a0_14 a0_15 a0_16 = some r) ∧ Aside0 (kq ≤ kj7) ∧ Aside0 (wc.heap[gb254]? = some (.cells #[.int .i64 a0_0, .int .i64 a0_1, .int .i64 a0_2, .int .i64 a0_3, .int .i64 a0_4, .int .i64 a0_5, .int .i64 a0_6, .int .i64 a0_7, .int .i64 a0_8, .int .i64 a0_9, .int .i64 a0_10, .int .i64 a0_11, .int .i64 a0_12, .int .i64 a0_13, .int .i64 a0_14, .int .i64 a0_15, .int .i64 a0_16] 38 (0, 0))) ∧ Aside0 (Below w.heap.size w wc))
     case first =>
      have H := HC12.out
      clear HC12
      by_cases c13 : a0_0 < 1
      ·rw [if_pos c13] at H
       have c13b0 : decide (a0_0 < 1) = true := decide_eq_true c13
       clear c13
       (first | rw [c13b0] | (simp only [i64_w, i32_w]; rw [c13b0]) | skip)
       have H' := Gv.a0 H
       clear H
       obtain ⟨hcz14_0, hcz14_1, hcz14_2, hcz14_3, hcz14_4, hcz14_5, hcz14_6, hcz14_7, hcz14_8, hcz14_9, hcz14_10, hcz14_11, hcz14_12, hcz14_13, hcz14_14, hcz14_15, hcz14_16⟩ := Gv.c17 BK254.out
       obtain ⟨hfz14_0, hfz14_1, hfz14_2, hfz14_3, hfz14_4, hfz14_5, hfz14_6, hfz14_7, hfz14_8, hfz14_9, hfz14_10, hfz14_11, hfz14_12, hfz14_13, hfz14_14, hfz14_15, hfz14_16⟩ := Gv.f17 BK254.out
       go_wp2_with (first | ((with_reducible refine Gv.gate_load (t := 38) rfl ?_); (try (refine gate_guard (by rfl) ?_; dsimp only)); refine wpList_load_row rfl 38 _ rfl gb254 rfl 38 _ _ _ (by first | exact Gv.kb0 BK254.out | exact Gv.kb1 (Gv.kb0 BK254.out)) Try.underlying38 rfl (by kernel_rfl) ?_))
       go_meet
       case rel => exact ⟨_, (true), Gv.rq, H', ⟨by have := HJ1.out; have := HJ7.out; first | omega | exact Nat.le_refl _⟩, ⟨by (with_reducible repeat (first | refine blk_drewN ?_ _ | refine blk_drew ?_ | refine blk_alloc ?_ _)); exact BK254.out⟩, ⟨Gv.bw⟩⟩
      ·rw [if_neg c13] at H
       have c13b0 : decide (a0_0 < 1) = false := decide_eq_false c13
       clear c13
       (first | rw [c13b0] | (simp only [i64_w, i32_w]; rw [c13b0]) | skip)
       have H' := Gv.a0 H
       clear H
       obtain ⟨hcz15_0, hcz15_1, hcz15_2, hcz15_3, hcz15_4, hcz15_5, hcz15_6, hcz15_7, hcz15_8, hcz15_9, hcz15_10, hcz15_11, hcz15_12, hcz15_13, hcz15_14, hcz15_15, hcz15_16⟩ := Gv.c17 BK254.out
       obtain ⟨hfz15_0, hfz15_1, hfz15_2, hfz15_3, hfz15_4, hfz15_5, hfz15_6, hfz15_7, hfz15_8, hfz15_9, hfz15_10, hfz15_11, hfz15_12, hfz15_13, hfz15_14, hfz15_15, hfz15_16⟩ := Gv.f17 BK254.out
       go_wp2_with (first | ((with_reducible refine Gv.gate_load (t := 38) rfl ?_); (try (refine gate_guard (by rfl) ?_; dsimp only)); refine wpList_load_row rfl 38 _ rfl gb254 rfl 38 _ _ _ (by first | exact Gv.kb0 BK254.out | exact Gv.kb1 (Gv.kb0 BK254.out)) Try.underlying38 rfl (by kernel_rfl) ?_))
       go_meet
       case rel => exact ⟨_, (decide (a0_0 > 7)), Gv.rq, H', ⟨by have := HJ1.out; have := HJ7.out; first | omega | exact Nat.le_refl _⟩, ⟨by (with_reducible repeat (first | refine blk_drewN ?_ _ | refine blk_drew ?_ | refine blk_alloc ?_ _)); exact BK254.out⟩, ⟨Gv.bw⟩⟩
     case rest =>
      clear HC12
      try clear c1
      try clear p2
      try clear c5
      try clear c5b0
      try clear c5b1
      try clear c9
      try clear c9b0
      try clear c9b1
      try clear c13
      try clear c13b0
      try clear hcz10_0 hcz10_1
      try clear hcz10_10 hcz10_11 hcz10_12 hcz10_13 hcz10_14 hcz10_15 hcz10_16
      try clear hcz10_2 hcz10_3 hcz10_4 hcz10_5 hcz10_6 hcz10_7 hcz10_8 hcz10_9
      try clear hcz11_0 hcz11_1
      try clear hcz11_10 hcz11_11 hcz11_12 hcz11_13 hcz11_14 hcz11_15 hcz11_16
      try clear hcz11_2 hcz11_3 hcz11_4 hcz11_5 hcz11_6 hcz11_7 hcz11_8 hcz11_9
      try clear hcz14_0 hcz14_1
      try clear hcz14_10 hcz14_11 hcz14_12 hcz14_13 hcz14_14 hcz14_15 hcz14_16
      try clear hcz14_2 hcz14_3 hcz14_4 hcz14_5 hcz14_6 hcz14_7 hcz14_8 hcz14_9
      try clear hcz15_0 hcz15_1
      try clear hcz15_10 hcz15_11 hcz15_12 hcz15_13 hcz15_14 hcz15_15 hcz15_16
      try clear hcz15_2 hcz15_3 hcz15_4 hcz15_5 hcz15_6 hcz15_7 hcz15_8 hcz15_9
      try clear hcz4_0 hcz4_1
      try clear hcz4_10 hcz4_11 hcz4_12 hcz4_13 hcz4_14 hcz4_15 hcz4_16
      try clear hcz4_2 hcz4_3 hcz4_4 hcz4_5 hcz4_6 hcz4_7 hcz4_8 hcz4_9
      try clear hcz6_0 hcz6_1
      try clear hcz6_10 hcz6_11 hcz6_12 hcz6_13 hcz6_14 hcz6_15 hcz6_16
      try clear hcz6_2 hcz6_3 hcz6_4 hcz6_5 hcz6_6 hcz6_7 hcz6_8 hcz6_9
      try clear hcz7_0 hcz7_1
      try clear hcz7_10 hcz7_11 hcz7_12 hcz7_13 hcz7_14 hcz7_15 hcz7_16
      try clear hcz7_2 hcz7_3 hcz7_4 hcz7_5 hcz7_6 hcz7_7 hcz7_8 hcz7_9
      try clear hfz10_0 hfz10_1
      try clear hfz10_10 hfz10_11 hfz10_12 hfz10_13 hfz10_14 hfz10_15 hfz10_16
      try clear hfz10_2 hfz10_3 hfz10_4 hfz10_5 hfz10_6 hfz10_7 hfz10_8 hfz10_9
      try clear hfz11_0 hfz11_1
      try clear hfz11_10 hfz11_11 hfz11_12 hfz11_13 hfz11_14 hfz11_15 hfz11_16
      try clear hfz11_2 hfz11_3 hfz11_4 hfz11_5 hfz11_6 hfz11_7 hfz11_8 hfz11_9
      try clear hfz14_0 hfz14_1
      try clear hfz14_10 hfz14_11 hfz14_12 hfz14_13 hfz14_14 hfz14_15 hfz14_16
      try clear hfz14_2 hfz14_3 hfz14_4 hfz14_5 hfz14_6 hfz14_7 hfz14_8 hfz14_9
      try clear hfz15_0 hfz15_1
      try clear hfz15_10 hfz15_11 hfz15_12 hfz15_13 hfz15_14 hfz15_15 hfz15_16
      try clear hfz15_2 hfz15_3 hfz15_4 hfz15_5 hfz15_6 hfz15_7 hfz15_8 hfz15_9
      try clear hfz4_0 hfz4_1
      try clear hfz4_10 hfz4_11 hfz4_12 hfz4_13 hfz4_14 hfz4_15 hfz4_16
      try clear hfz4_2 hfz4_3 hfz4_4 hfz4_5 hfz4_6 hfz4_7 hfz4_8 hfz4_9
      try clear hfz6_0 hfz6_1
      try clear hfz6_10 hfz6_11 hfz6_12 hfz6_13 hfz6_14 hfz6_15 hfz6_16
      try clear hfz6_2 hfz6_3 hfz6_4 hfz6_5 hfz6_6 hfz6_7 hfz6_8 hfz6_9
      try clear hfz7_0 hfz7_1
      try clear hfz7_10 hfz7_11 hfz7_12 hfz7_13 hfz7_14 hfz7_15 hfz7_16
      try clear hfz7_2 hfz7_3 hfz7_4 hfz7_5 hfz7_6 hfz7_7 hfz7_8 hfz7_9
      try clear p2
      obtain ⟨kq, x32_11, rfl, HA, HJ11, BK254, HB⟩ := hcut
      cases kq with
      | zero => exact absurd HA.out (by simp [spec_ModuleOk.j2])
      | succ kj11 =>
       have H := HA.out
       clear HA
       simp only [spec_ModuleOk.j2] at H
       by_cases c16 : x32_11 = true
       ·subst c16
        have H1 : (some false) = some r := by rw [if_pos rfl] at H; exact H
        clear H
        have H := H1
        clear H1
        obtain rfl := Option.some.inj H
        go_wp2_with (first | ((with_reducible refine Gv.gate_load (t := 38) rfl ?_); (try (refine gate_guard (by rfl) ?_; dsimp only)); refine wpList_load_row rfl 38 _ rfl gb254 rfl 38 _ _ _ (by first | exact Gv.kb0 BK254.out | exact Gv.kb1 (Gv.kb0 BK254.out)) Try.underlying38 rfl (by kernel_rfl) ?_))
        go_ret
        exact ⟨Gv.rt, Gv.bw⟩
       ·replace c16 := Bool.eq_false_iff.mpr c16
        subst c16
        have H1 : (if (a0_0 == 1) = true then (if x5_7 = true then (spec_ModuleOk.j3 kj11 false a0_0 a0_1 a0_2 a0_3 a0_4 a0_5 a0_6 a0_7 a0_8 a0_9 a0_10 a0_11 a0_12 a0_13 a0_14 a0_15 a0_16) else (if a0_16 = 0 then (spec_ModuleOk.j3 kj11 false a0_0 a0_1 a0_2 a0_3 a0_4 a0_5 a0_6 a0_7 a0_8 a0_9 a0_10 a0_11 a0_12 a0_13 a0_14 a0_15 a0_16) else (spec_ModuleOk.j3 kj11 true a0_0 a0_1 a0_2 a0_3 a0_4 a0_5 a0_6 a0_7 a0_8 a0_9 a0_10 a0_11 a0_12 a0_13 a0_14 a0_15 a0_16))) else (if a0_13 = 0 then (if a0_14 = 0 then (if a0_15 = 0 then (if x5_7 = true then (if x4_1 = true then (spec_ModuleOk.j3 kj11 false a0_0 a0_1 a0_2 a0_3 a0_4 a0_5 a0_6 a0_7 a0_8 a0_9 a0_10 a0_11 a0_12 a0_13 a0_14 a0_15 a0_16) else ((spec_l03Any.f a0_1 a0_2 a0_3 a0_4 a0_5 a0_6).bind fun t255 => (if t255 = true then ((spec_l03Any.f a0_7 a0_8 a0_9 a0_10 a0_11 a0_12).bind fun t256 => (spec_ModuleOk.j3 kj11 (!t256) a0_0 a0_1 a0_2 a0_3 a0_4 a0_5 a0_6 a0_7 a0_8 a0_9 a0_10 a0_11 a0_12 a0_13 a0_14 a0_15 a0_16)) else (spec_ModuleOk.j3 kj11 true a0_0 a0_1 a0_2 a0_3 a0_4 a0_5 a0_6 a0_7 a0_8 a0_9 a0_10 a0_11 a0_12 a0_13 a0_14 a0_15 a0_16)))) else (if a0_16 = 0 then (if x4_1 = true then (spec_ModuleOk.j3 kj11 false a0_0 a0_1 a0_2 a0_3 a0_4 a0_5 a0_6 a0_7 a0_8 a0_9 a0_10 a0_11 a0_12 a0_13 a0_14 a0_15 a0_16) else ((spec_l03Any.f a0_1 a0_2 a0_3 a0_4 a0_5 a0_6).bind fun t257 => (if t257 = true then ((spec_l03Any.f a0_7 a0_8 a0_9 a0_10 a0_11 a0_12).bind fun t258 => (spec_ModuleOk.j3 kj11 (!t258) a0_0 a0_1 a0_2 a0_3 a0_4 a0_5 a0_6 a0_7 a0_8 a0_9 a0_10 a0_11 a0_12 a0_13 a0_14 a0_15 a0_16)) else (spec_ModuleOk.j3 kj11 true a0_0 a0_1 a0_2 a0_3 a0_4 a0_5 a0_6 a0_7 a0_8 a0_9 a0_10 a0_11 a0_12 a0_13 a0_14 a0_15 a0_16)))) else (spec_ModuleOk.j3 kj11 true a0_0 a0_1 a0_2 a0_3 a0_4 a0_5 a0_6 a0_7 a0_8 a0_9 a0_10 a0_11 a0_12 a0_13 a0_14 a0_15 a0_16))) else (spec_ModuleOk.j3 kj11 true a0_0 a0_1 a0_2 a0_3 a0_4 a0_5 a0_6 a0_7 a0_8 a0_9 a0_10 a0_11 a0_12 a0_13 a0_14 a0_15 a0_16)) else (spec_ModuleOk.j3 kj11 true a0_0 a0_1 a0_2 a0_3 a0_4 a0_5 a0_6 a0_7 a0_8 a0_9 a0_10 a0_11 a0_12 a0_13 a0_14 a0_15 a0_16)) else (spec_ModuleOk.j3 kj11 true a0_0 a0_1 a0_2 a0_3 a0_4 a0_5 a0_6 a0_7 a0_8 a0_9 a0_10 a0_11 a0_12 a0_13 a0_14 a0_15 a0_16))) = some r := by rw [if_neg (show ¬ (false = true) by decide)] at H; exact H
        clear H
        have H := H1
        clear H1
        have HC17 := Gv.a0 H
        clear H
        go_upto_region 6 with (fail)
        go_cut [78] (fun v78 wc => ∃ (kq : Nat) (x78_16 : Bool), v78 = .bool x78_16 ∧ Aside0 (spec_ModuleOk.j3 kq x78_16 a0_0 a0_1 a0_2 a0_3 a0_4 a0_5 a0_6 a0_7 a0_8 a0_9 a0_10 a0_11 a0_12 a0_13 a0_14 a0_15 a0_16 = some r) ∧ Aside0 (kq ≤ kj11) ∧ Aside0 (wc.heap[gb254]? = some (.cells #[.int .i64 a0_0, .int .i64 a0_1, .int .i64 a0_2, .int .i64 a0_3, .int .i64 a0_4, .int .i64 a0_5, .int .i64 a0_6, .int .i64 a0_7, .int .i64 a0_8, .int .i64 a0_9, .int .i64 a0_10, .int .i64 a0_11, .int .i64 a0_12, .int .i64 a0_13, .int .i64 a0_14, .int .i64 a0_15, .int .i64 a0_16] 38 (0, 0))) ∧ Aside0 (Below w.heap.size w wc))
        case first =>
         have H := HC17.out
         clear HC17
         by_cases c18 : (a0_0 == 1) = true
         ·rw [if_pos c18] at H
          have c18b0 : (a0_0 == 1) = true := c18
          (try (have c18b1 : decide (a0_0 = 1) = true := by simpa using c18))
          (try (have c18b2 : (a0_0 == 1) = true := by simpa using c18))
          clear c18
          (first | rw [c18b0] | (simp only [i64_w, i32_w]; rw [c18b0]) | skip)
          by_cases c19 : x5_7 = true
          ·subst c19
           have H1 : (spec_ModuleOk.j3 kj11 false a0_0 a0_1 a0_2 a0_3 a0_4 a0_5 a0_6 a0_7 a0_8 a0_9 a0_10 a0_11 a0_12 a0_13 a0_14 a0_15 a0_16) = some r := by rw [if_pos rfl] at H; exact H
           clear H
           have H := H1
           clear H1
           have H' := Gv.a0 H
           clear H
           go_wp2_with (first | ((with_reducible refine Gv.gate_load (t := 38) rfl ?_); (try (refine gate_guard (by rfl) ?_; dsimp only)); refine wpList_load_row rfl 38 _ rfl gb254 rfl 38 _ _ _ (by first | exact Gv.kb0 BK254.out | exact Gv.kb1 (Gv.kb0 BK254.out)) Try.underlying38 rfl (by kernel_rfl) ?_))
           refine Met.intro ?_
           go_step
           (repeat apply Exists.intro)
           refine ⟨?rel, ?eq_⟩
           case eq_ => first | rfl | (rw [c18b0]; rfl) | (simp only [c18b0]; rfl)
           case rel => exact ⟨_, (false), Gv.rq, H', ⟨by have := HJ1.out; have := HJ7.out; have := HJ11.out; first | omega | exact Nat.le_refl _⟩, ⟨by (with_reducible repeat (first | refine blk_drewN ?_ _ | refine blk_drew ?_ | refine blk_alloc ?_ _)); exact BK254.out⟩, ⟨Gv.bw⟩⟩
          ·replace c19 := Bool.eq_false_iff.mpr c19
           subst c19
           have H1 : (if a0_16 = 0 then (spec_ModuleOk.j3 kj11 false a0_0 a0_1 a0_2 a0_3 a0_4 a0_5 a0_6 a0_7 a0_8 a0_9 a0_10 a0_11 a0_12 a0_13 a0_14 a0_15 a0_16) else (spec_ModuleOk.j3 kj11 true a0_0 a0_1 a0_2 a0_3 a0_4 a0_5 a0_6 a0_7 a0_8 a0_9 a0_10 a0_11 a0_12 a0_13 a0_14 a0_15 a0_16)) = some r := by rw [if_neg (show ¬ (false = true) by decide)] at H; exact H
           clear H
           have H := H1
           clear H1
           by_cases c20 : a0_16 = 0
           ·rw [if_pos c20] at H
            have c20b0 : (a0_16 == 0) = true := beq_iff_eq.mpr c20
            have c20b1 : (a0_16 != 0) = false := bne_eq_false_iff_eq.mpr c20
            clear c20
            have H' := Gv.a0 H
            clear H
            obtain ⟨hcz21_0, hcz21_1, hcz21_2, hcz21_3, hcz21_4, hcz21_5, hcz21_6, hcz21_7, hcz21_8, hcz21_9, hcz21_10, hcz21_11, hcz21_12, hcz21_13, hcz21_14, hcz21_15, hcz21_16⟩ := Gv.c17 BK254.out
            obtain ⟨hfz21_0, hfz21_1, hfz21_2, hfz21_3, hfz21_4, hfz21_5, hfz21_6, hfz21_7, hfz21_8, hfz21_9, hfz21_10, hfz21_11, hfz21_12, hfz21_13, hfz21_14, hfz21_15, hfz21_16⟩ := Gv.f17 BK254.out
            go_wp2_with (first | ((with_reducible refine Gv.gate_load (t := 38) rfl ?_); (try (refine gate_guard (by rfl) ?_; dsimp only)); refine wpList_load_row rfl 38 _ rfl gb254 rfl 38 _ _ _ (by first | exact Gv.kb0 BK254.out | exact Gv.kb1 (Gv.kb0 BK254.out)) Try.underlying38 rfl (by kernel_rfl) ?_))
            refine Met.intro ?_
            go_step
            (repeat apply Exists.intro)
            refine ⟨?rel, ?eq_⟩
            case eq_ => first | rfl | (rw [c18b0]; rfl) | (rw [c20b0]; rfl) | (simp only [c18b0, c20b0]; rfl)
            case rel => exact ⟨_, (false), Gv.rq, H', ⟨by have := HJ1.out; have := HJ7.out; have := HJ11.out; first | omega | exact Nat.le_refl _⟩, ⟨by (with_reducible repeat (first | refine blk_drewN ?_ _ | refine blk_drew ?_ | refine blk_alloc ?_ _)); exact BK254.out⟩, ⟨Gv.bw⟩⟩
           ·rw [if_neg c20] at H
            have c20b0 : (a0_16 == 0) = false := beq_eq_false_iff_ne.mpr c20
            have c20b1 : (a0_16 != 0) = true := bne_iff_ne.mpr c20
            have H' := Gv.a0 H
            clear H
            obtain ⟨hcz22_0, hcz22_1, hcz22_2, hcz22_3, hcz22_4, hcz22_5, hcz22_6, hcz22_7, hcz22_8, hcz22_9, hcz22_10, hcz22_11, hcz22_12, hcz22_13, hcz22_14, hcz22_15, hcz22_16⟩ := Gv.c17 BK254.out
            obtain ⟨hfz22_0, hfz22_1, hfz22_2, hfz22_3, hfz22_4, hfz22_5, hfz22_6, hfz22_7, hfz22_8, hfz22_9, hfz22_10, hfz22_11, hfz22_12, hfz22_13, hfz22_14, hfz22_15, hfz22_16⟩ := Gv.f17 BK254.out
            go_wp2_with (first | ((with_reducible refine Gv.gate_load (t := 38) rfl ?_); (try (refine gate_guard (by rfl) ?_; dsimp only)); refine wpList_load_row rfl 38 _ rfl gb254 rfl 38 _ _ _ (by first | exact Gv.kb0 BK254.out | exact Gv.kb1 (Gv.kb0 BK254.out)) Try.underlying38 rfl (by kernel_rfl) ?_))
            refine Met.intro ?_
            go_step
            (repeat apply Exists.intro)
            refine ⟨?rel, ?eq_⟩
            case eq_ => first | rfl | (rw [c18b0]; rfl) | (rw [c20b0]; rfl) | (simp only [c18b0, c20b0]; rfl)
            case rel => exact ⟨_, (true), Gv.rq, H', ⟨by have := HJ1.out; have := HJ7.out; have := HJ11.out; first | omega | exact Nat.le_refl _⟩, ⟨by (with_reducible repeat (first | refine blk_drewN ?_ _ | refine blk_drew ?_ | refine blk_alloc ?_ _)); exact BK254.out⟩, ⟨Gv.bw⟩⟩
         ·rw [if_neg c18] at H
          have c18b0 : (a0_0 == 1) = false := by simpa using c18
          (try (have c18b1 : decide (a0_0 = 1) = false := by simpa using c18))
          (try (have c18b2 : (a0_0 == 1) = false := by simpa using c18))
          (try (have c18b3 : ¬ (a0_0 = 1) := by simpa using c18))
          clear c18
          (first | rw [c18b0] | (simp only [i64_w, i32_w]; rw [c18b0]) | skip)
          by_cases c23 : a0_13 = 0
          ·rw [if_pos c23] at H
           have c23b0 : (a0_13 == 0) = true := beq_iff_eq.mpr c23
           have c23b1 : (a0_13 != 0) = false := bne_eq_false_iff_eq.mpr c23
           clear c23
           by_cases c24 : a0_14 = 0
           ·rw [if_pos c24] at H
            have c24b0 : (a0_14 == 0) = true := beq_iff_eq.mpr c24
            have c24b1 : (a0_14 != 0) = false := bne_eq_false_iff_eq.mpr c24
            clear c24
            by_cases c25 : a0_15 = 0
            ·rw [if_pos c25] at H
             have c25b0 : (a0_15 == 0) = true := beq_iff_eq.mpr c25
             have c25b1 : (a0_15 != 0) = false := bne_eq_false_iff_eq.mpr c25
             clear c25
             by_cases c26 : x5_7 = true
             ·subst c26
              have H1 : (if x4_1 = true then (spec_ModuleOk.j3 kj11 false a0_0 a0_1 a0_2 a0_3 a0_4 a0_5 a0_6 a0_7 a0_8 a0_9 a0_10 a0_11 a0_12 a0_13 a0_14 a0_15 a0_16) else ((spec_l03Any.f a0_1 a0_2 a0_3 a0_4 a0_5 a0_6).bind fun t255 => (if t255 = true then ((spec_l03Any.f a0_7 a0_8 a0_9 a0_10 a0_11 a0_12).bind fun t256 => (spec_ModuleOk.j3 kj11 (!t256) a0_0 a0_1 a0_2 a0_3 a0_4 a0_5 a0_6 a0_7 a0_8 a0_9 a0_10 a0_11 a0_12 a0_13 a0_14 a0_15 a0_16)) else (spec_ModuleOk.j3 kj11 true a0_0 a0_1 a0_2 a0_3 a0_4 a0_5 a0_6 a0_7 a0_8 a0_9 a0_10 a0_11 a0_12 a0_13 a0_14 a0_15 a0_16)))) = some r := by rw [if_pos rfl] at H; exact H
              clear H
              have H := H1
              clear H1
              by_cases c27 : x4_1 = true
              ·subst c27
               have H1 : (spec_ModuleOk.j3 kj11 false a0_0 a0_1 a0_2 a0_3 a0_4 a0_5 a0_6 a0_7 a0_8 a0_9 a0_10 a0_11 a0_12 a0_13 a0_14 a0_15 a0_16) = some r := by rw [if_pos rfl] at H; exact H
               clear H
               have H := H1
               clear H1
               have H' := Gv.a0 H
               clear H
               obtain ⟨hcz28_0, hcz28_1, hcz28_2, hcz28_3, hcz28_4, hcz28_5, hcz28_6, hcz28_7, hcz28_8, hcz28_9, hcz28_10, hcz28_11, hcz28_12, hcz28_13, hcz28_14, hcz28_15, hcz28_16⟩ := Gv.c17 BK254.out
               obtain ⟨hfz28_0, hfz28_1, hfz28_2, hfz28_3, hfz28_4, hfz28_5, hfz28_6, hfz28_7, hfz28_8, hfz28_9, hfz28_10, hfz28_11, hfz28_12, hfz28_13, hfz28_14, hfz28_15, hfz28_16⟩ := Gv.f17 BK254.out
               go_wp2_with (first | ((with_reducible refine Gv.gate_load (t := 38) rfl ?_); (try (refine gate_guard (by rfl) ?_; dsimp only)); refine wpList_load_row rfl 38 _ rfl gb254 rfl 38 _ _ _ (by first | exact Gv.kb0 BK254.out | exact Gv.kb1 (Gv.kb0 BK254.out)) Try.underlying38 rfl (by kernel_rfl) ?_))
               refine Met.intro ?_
               go_step
               (repeat apply Exists.intro)
               refine ⟨?rel, ?eq_⟩
               case eq_ => first | rfl | (rw [c18b0]; rfl) | (rw [c23b0]; rfl) | (rw [c24b0]; rfl) | (rw [c25b0]; rfl) | (simp only [c18b0, c23b0, c24b0, c25b0]; rfl)
               case rel => exact ⟨_, (false), Gv.rq, H', ⟨by have := HJ1.out; have := HJ7.out; have := HJ11.out; first | omega | exact Nat.le_refl _⟩, ⟨by (with_reducible repeat (first | refine blk_drewN ?_ _ | refine blk_drew ?_ | refine blk_alloc ?_ _)); exact BK254.out⟩, ⟨Gv.bw⟩⟩
              ·replace c27 := Bool.eq_false_iff.mpr c27
               subst c27
               have H1 : ((spec_l03Any.f a0_1 a0_2 a0_3 a0_4 a0_5 a0_6).bind fun t255 => (if t255 = true then ((spec_l03Any.f a0_7 a0_8 a0_9 a0_10 a0_11 a0_12).bind fun t256 => (spec_ModuleOk.j3 kj11 (!t256) a0_0 a0_1 a0_2 a0_3 a0_4 a0_5 a0_6 a0_7 a0_8 a0_9 a0_10 a0_11 a0_12 a0_13 a0_14 a0_15 a0_16)) else (spec_ModuleOk.j3 kj11 true a0_0 a0_1 a0_2 a0_3 a0_4 a0_5 a0_6 a0_7 a0_8 a0_9 a0_10 a0_11 a0_12 a0_13 a0_14 a0_15 a0_16))) = some r := by rw [if_neg (show ¬ (false = true) by decide)] at H; exact H
               clear H
               have H := H1
               clear H1
               replace H := Option.bind_eq_some_iff.mp H
               obtain ⟨t255, A290, H⟩ := H
               replace H : (if t255 = true then ((spec_l03Any.f a0_7 a0_8 a0_9 a0_10 a0_11 a0_12).bind fun t256 => (spec_ModuleOk.j3 kj11 (!t256) a0_0 a0_1 a0_2 a0_3 a0_4 a0_5 a0_6 a0_7 a0_8 a0_9 a0_10 a0_11 a0_12 a0_13 a0_14 a0_15 a0_16)) else (spec_ModuleOk.j3 kj11 true a0_0 a0_1 a0_2 a0_3 a0_4 a0_5 a0_6 a0_7 a0_8 a0_9 a0_10 a0_11 a0_12 a0_13 a0_14 a0_15 a0_16)) = some r := H
               have A29 := Gv.a0 A290
               clear A290
               by_cases c30 : t255 = true
               ·subst c30
                have H1 : ((spec_l03Any.f a0_7 a0_8 a0_9 a0_10 a0_11 a0_12).bind fun t256 => (spec_ModuleOk.j3 kj11 (!t256) a0_0 a0_1 a0_2 a0_3 a0_4 a0_5 a0_6 a0_7 a0_8 a0_9 a0_10 a0_11 a0_12 a0_13 a0_14 a0_15 a0_16)) = some r := by rw [if_pos rfl] at H; exact H
                clear H
                have H := H1
                clear H1
                replace H := Option.bind_eq_some_iff.mp H
                obtain ⟨t256, A310, H⟩ := H
                replace H : (spec_ModuleOk.j3 kj11 (!t256) a0_0 a0_1 a0_2 a0_3 a0_4 a0_5 a0_6 a0_7 a0_8 a0_9 a0_10 a0_11 a0_12 a0_13 a0_14 a0_15 a0_16) = some r := H
                have A31 := Gv.a0 A310
                clear A310
                have H' := Gv.a0 H
                clear H
                obtain ⟨hcz32_0, hcz32_1, hcz32_2, hcz32_3, hcz32_4, hcz32_5, hcz32_6, hcz32_7, hcz32_8, hcz32_9, hcz32_10, hcz32_11, hcz32_12, hcz32_13, hcz32_14, hcz32_15, hcz32_16⟩ := Gv.c17 BK254.out
                obtain ⟨hfz32_0, hfz32_1, hfz32_2, hfz32_3, hfz32_4, hfz32_5, hfz32_6, hfz32_7, hfz32_8, hfz32_9, hfz32_10, hfz32_11, hfz32_12, hfz32_13, hfz32_14, hfz32_15, hfz32_16⟩ := Gv.f17 BK254.out
                go_wp2_with (first | (go_at_call 39; (with_reducible refine (spec_l03Any.calls a0_1 a0_2 a0_3 a0_4 a0_5 a0_6 true _ A29.out).mono ?_); rintro e w33 ⟨rfl, hb⟩; have n0_ := Gv.a0 (Gv.bb BK254.out hb); have n1_ := Gv.a0 (below_step Gv.bw hb); clear BK254; clear HB; have BK254 := n0_; have HB := n1_; clear n0_ n1_; (try clear hb); (try clear hb2); (try clear hk); (try clear hi); obtain ⟨hcz34_0, hcz34_1, hcz34_2, hcz34_3, hcz34_4, hcz34_5, hcz34_6, hcz34_7, hcz34_8, hcz34_9, hcz34_10, hcz34_11, hcz34_12, hcz34_13, hcz34_14, hcz34_15, hcz34_16⟩ := Gv.c17 BK254.out; obtain ⟨hfz34_0, hfz34_1, hfz34_2, hfz34_3, hfz34_4, hfz34_5, hfz34_6, hfz34_7, hfz34_8, hfz34_9, hfz34_10, hfz34_11, hfz34_12, hfz34_13, hfz34_14, hfz34_15, hfz34_16⟩ := Gv.f17 BK254.out) | (go_at_call 39; (with_reducible refine (spec_l03Any.calls a0_7 a0_8 a0_9 a0_10 a0_11 a0_12 t256 _ A31.out).mono ?_); rintro e w35 ⟨rfl, hb⟩; have n0_ := Gv.a0 (Gv.bb BK254.out hb); have n1_ := Gv.a0 (below_step Gv.bw hb); clear BK254; clear HB; have BK254 := n0_; have HB := n1_; clear n0_ n1_; (try clear hb); (try clear hb2); (try clear hk); (try clear hi)) | ((with_reducible refine Gv.gate_load (t := 38) rfl ?_); (try (refine gate_guard (by rfl) ?_; dsimp only)); refine wpList_load_row rfl 38 _ rfl gb254 rfl 38 _ _ _ (by first | exact Gv.kb0 BK254.out | exact Gv.kb1 (Gv.kb0 BK254.out)) Try.underlying38 rfl (by kernel_rfl) ?_))
                refine Met.intro ?_
                go_step
                (repeat apply Exists.intro)
                refine ⟨?rel, ?eq_⟩
                case eq_ => first | rfl | (rw [c18b0]; rfl) | (rw [c23b0]; rfl) | (rw [c24b0]; rfl) | (rw [c25b0]; rfl) | (simp only [c18b0, c23b0, c24b0, c25b0]; rfl)
                case rel => exact ⟨_, (!t256), Gv.rq, H', ⟨by have := HJ1.out; have := HJ7.out; have := HJ11.out; first | omega | exact Nat.le_refl _⟩, ⟨by (with_reducible repeat (first | refine blk_drewN ?_ _ | refine blk_drew ?_ | refine blk_alloc ?_ _)); exact BK254.out⟩, ⟨Gv.bw⟩⟩
               ·replace c30 := Bool.eq_false_iff.mpr c30
                subst c30
                have H1 : (spec_ModuleOk.j3 kj11 true a0_0 a0_1 a0_2 a0_3 a0_4 a0_5 a0_6 a0_7 a0_8 a0_9 a0_10 a0_11 a0_12 a0_13 a0_14 a0_15 a0_16) = some r := by rw [if_neg (show ¬ (false = true) by decide)] at H; exact H
                clear H
                have H := H1
                clear H1
                have H' := Gv.a0 H
                clear H
                obtain ⟨hcz36_0, hcz36_1, hcz36_2, hcz36_3, hcz36_4, hcz36_5, hcz36_6, hcz36_7, hcz36_8, hcz36_9, hcz36_10, hcz36_11, hcz36_12, hcz36_13, hcz36_14, hcz36_15, hcz36_16⟩ := Gv.c17 BK254.out
                obtain ⟨hfz36_0, hfz36_1, hfz36_2, hfz36_3, hfz36_4, hfz36_5, hfz36_6, hfz36_7, hfz36_8, hfz36_9, hfz36_10, hfz36_11, hfz36_12, hfz36_13, hfz36_14, hfz36_15, hfz36_16⟩ := Gv.f17 BK254.out
                go_wp2_with (first | (go_at_call 39; (with_reducible refine (spec_l03Any.calls a0_1 a0_2 a0_3 a0_4 a0_5 a0_6 false _ A29.out).mono ?_); rintro e w37 ⟨rfl, hb⟩; have n0_ := Gv.a0 (Gv.bb BK254.out hb); have n1_ := Gv.a0 (below_step Gv.bw hb); clear BK254; clear HB; have BK254 := n0_; have HB := n1_; clear n0_ n1_; (try clear hb); (try clear hb2); (try clear hk); (try clear hi)) | ((with_reducible refine Gv.gate_load (t := 38) rfl ?_); (try (refine gate_guard (by rfl) ?_; dsimp only)); refine wpList_load_row rfl 38 _ rfl gb254 rfl 38 _ _ _ (by first | exact Gv.kb0 BK254.out | exact Gv.kb1 (Gv.kb0 BK254.out)) Try.underlying38 rfl (by kernel_rfl) ?_))
                refine Met.intro ?_
                go_step
                (repeat apply Exists.intro)
                refine ⟨?rel, ?eq_⟩
                case eq_ => first | rfl | (rw [c18b0]; rfl) | (rw [c23b0]; rfl) | (rw [c24b0]; rfl) | (rw [c25b0]; rfl) | (simp only [c18b0, c23b0, c24b0, c25b0]; rfl)
                case rel => exact ⟨_, (true), Gv.rq, H', ⟨by have := HJ1.out; have := HJ7.out; have := HJ11.out; first | omega | exact Nat.le_refl _⟩, ⟨by (with_reducible repeat (first | refine blk_drewN ?_ _ | refine blk_drew ?_ | refine blk_alloc ?_ _)); exact BK254.out⟩, ⟨Gv.bw⟩⟩
             ·replace c26 := Bool.eq_false_iff.mpr c26
              subst c26
              have H1 : (if a0_16 = 0 then (if x4_1 = true then (spec_ModuleOk.j3 kj11 false a0_0 a0_1 a0_2 a0_3 a0_4 a0_5 a0_6 a0_7 a0_8 a0_9 a0_10 a0_11 a0_12 a0_13 a0_14 a0_15 a0_16) else ((spec_l03Any.f a0_1 a0_2 a0_3 a0_4 a0_5 a0_6).bind fun t257 => (if t257 = true then ((spec_l03Any.f a0_7 a0_8 a0_9 a0_10 a0_11 a0_12).bind fun t258 => (spec_ModuleOk.j3 kj11 (!t258) a0_0 a0_1 a0_2 a0_3 a0_4 a0_5 a0_6 a0_7 a0_8 a0_9 a0_10 a0_11 a0_12 a0_13 a0_14 a0_15 a0_16)) else (spec_ModuleOk.j3 kj11 true a0_0 a0_1 a0_2 a0_3 a0_4 a0_5 a0_6 a0_7 a0_8 a0_9 a0_10 a0_11 a0_12 a0_13 a0_14 a0_15 a0_16)))) else (spec_ModuleOk.j3 kj11 true a0_0 a0_1 a0_2 a0_3 a0_4 a0_5 a0_6 a0_7 a0_8 a0_9 a0_10 a0_11 a0_12 a0_13 a0_14 a0_15 a0_16)) = some r := by rw [if_neg (show ¬ (false = true) by decide)] at H; exact H
              clear H
              have H := H1
              clear H1
              by_cases c38 : a0_16 = 0
              ·rw [if_pos c38] at H
               have c38b0 : (a0_16 == 0) = true := beq_iff_eq.mpr c38
               have c38b1 : (a0_16 != 0) = false := bne_eq_false_iff_eq.mpr c38
               clear c38
               by_cases c39 : x4_1 = true
               ·subst c39
                have H1 : (spec_ModuleOk.j3 kj11 false a0_0 a0_1 a0_2 a0_3 a0_4 a0_5 a0_6 a0_7 a0_8 a0_9 a0_10 a0_11 a0_12 a0_13 a0_14 a0_15 a0_16) = some r := by rw [if_pos rfl] at H; exact H
                clear H
                have H := H1
                clear H1
                have H' := Gv.a0 H
                clear H
                obtain ⟨hcz40_0, hcz40_1, hcz40_2, hcz40_3, hcz40_4, hcz40_5, hcz40_6, hcz40_7, hcz40_8, hcz40_9, hcz40_10, hcz40_11, hcz40_12, hcz40_13, hcz40_14, hcz40_15, hcz40_16⟩ := Gv.c17 BK254.out
                obtain ⟨hfz40_0, hfz40_1, hfz40_2, hfz40_3, hfz40_4, hfz40_5, hfz40_6, hfz40_7, hfz40_8, hfz40_9, hfz40_10, hfz40_11, hfz40_12, hfz40_13, hfz40_14, hfz40_15, hfz40_16⟩ := Gv.f17 BK254.out
                go_wp2_with (first | ((with_reducible refine Gv.gate_load (t := 38) rfl ?_); (try (refine gate_guard (by rfl) ?_; dsimp only)); refine wpList_load_row rfl 38 _ rfl gb254 rfl 38 _ _ _ (by first | exact Gv.kb0 BK254.out | exact Gv.kb1 (Gv.kb0 BK254.out)) Try.underlying38 rfl (by kernel_rfl) ?_))
                refine Met.intro ?_
                go_step
                (repeat apply Exists.intro)
                refine ⟨?rel, ?eq_⟩
                case eq_ => first | rfl | (rw [c18b0]; rfl) | (rw [c23b0]; rfl) | (rw [c24b0]; rfl) | (rw [c25b0]; rfl) | (rw [c38b0]; rfl) | (simp only [c18b0, c23b0, c24b0, c25b0, c38b0]; rfl)
                case rel => exact ⟨_, (false), Gv.rq, H', ⟨by have := HJ1.out; have := HJ7.out; have := HJ11.out; first | omega | exact Nat.le_refl _⟩, ⟨by (with_reducible repeat (first | refine blk_drewN ?_ _ | refine blk_drew ?_ | refine blk_alloc ?_ _)); exact BK254.out⟩, ⟨Gv.bw⟩⟩
               ·replace c39 := Bool.eq_false_iff.mpr c39
                subst c39
                have H1 : ((spec_l03Any.f a0_1 a0_2 a0_3 a0_4 a0_5 a0_6).bind fun t257 => (if t257 = true then ((spec_l03Any.f a0_7 a0_8 a0_9 a0_10 a0_11 a0_12).bind fun t258 => (spec_ModuleOk.j3 kj11 (!t258) a0_0 a0_1 a0_2 a0_3 a0_4 a0_5 a0_6 a0_7 a0_8 a0_9 a0_10 a0_11 a0_12 a0_13 a0_14 a0_15 a0_16)) else (spec_ModuleOk.j3 kj11 true a0_0 a0_1 a0_2 a0_3 a0_4 a0_5 a0_6 a0_7 a0_8 a0_9 a0_10 a0_11 a0_12 a0_13 a0_14 a0_15 a0_16))) = some r := by rw [if_neg (show ¬ (false = true) by decide)] at H; exact H
                clear H
                have H := H1
                clear H1
                replace H := Option.bind_eq_some_iff.mp H
                obtain ⟨t257, A410, H⟩ := H
                replace H : (if t257 = true then ((spec_l03Any.f a0_7 a0_8 a0_9 a0_10 a0_11 a0_12).bind fun t258 => (spec_ModuleOk.j3 kj11 (!t258) a0_0 a0_1 a0_2 a0_3 a0_4 a0_5 a0_6 a0_7 a0_8 a0_9 a0_10 a0_11 a0_12 a0_13 a0_14 a0_15 a0_16)) else (spec_ModuleOk.j3 kj11 true a0_0 a0_1 a0_2 a0_3 a0_4 a0_5 a0_6 a0_7 a0_8 a0_9 a0_10 a0_11 a0_12 a0_13 a0_14 a0_15 a0_16)) = some r := H
                have A41 := Gv.a0 A410
                clear A410
                by_cases c42 : t257 = true
                ·subst c42
                 have H1 : ((spec_l03Any.f a0_7 a0_8 a0_9 a0_10 a0_11 a0_12).bind fun t258 => (spec_ModuleOk.j3 kj11 (!t258) a0_0 a0_1 a0_2 a0_3 a0_4 a0_5 a0_6 a0_7 a0_8 a0_9 a0_10 a0_11 a0_12 a0_13 a0_14 a0_15 a0_16)) = some r := by rw [if_pos rfl] at H; exact H
                 clear H
                 have H := H1
                 clear H1
                 replace H := Option.bind_eq_some_iff.mp H
                 obtain ⟨t258, A430, H⟩ := H
                 replace H : (spec_ModuleOk.j3 kj11 (!t258) a0_0 a0_1 a0_2 a0_3 a0_4 a0_5 a0_6 a0_7 a0_8 a0_9 a0_10 a0_11 a0_12 a0_13 a0_14 a0_15 a0_16) = some r := H
                 have A43 := Gv.a0 A430
                 clear A430
                 have H' := Gv.a0 H
                 clear H
                 obtain ⟨hcz44_0, hcz44_1, hcz44_2, hcz44_3, hcz44_4, hcz44_5, hcz44_6, hcz44_7, hcz44_8, hcz44_9, hcz44_10, hcz44_11, hcz44_12, hcz44_13, hcz44_14, hcz44_15, hcz44_16⟩ := Gv.c17 BK254.out
                 obtain ⟨hfz44_0, hfz44_1, hfz44_2, hfz44_3, hfz44_4, hfz44_5, hfz44_6, hfz44_7, hfz44_8, hfz44_9, hfz44_10, hfz44_11, hfz44_12, hfz44_13, hfz44_14, hfz44_15, hfz44_16⟩ := Gv.f17 BK254.out
                 go_wp2_with (first | (go_at_call 39; (with_reducible refine (spec_l03Any.calls a0_1 a0_2 a0_3 a0_4 a0_5 a0_6 true _ A41.out).mono ?_); rintro e w45 ⟨rfl, hb⟩; have n0_ := Gv.a0 (Gv.bb BK254.out hb); have n1_ := Gv.a0 (below_step Gv.bw hb); clear BK254; clear HB; have BK254 := n0_; have HB := n1_; clear n0_ n1_; (try clear hb); (try clear hb2); (try clear hk); (try clear hi); obtain ⟨hcz46_0, hcz46_1, hcz46_2, hcz46_3, hcz46_4, hcz46_5, hcz46_6, hcz46_7, hcz46_8, hcz46_9, hcz46_10, hcz46_11, hcz46_12, hcz46_13, hcz46_14, hcz46_15, hcz46_16⟩ := Gv.c17 BK254.out; obtain ⟨hfz46_0, hfz46_1, hfz46_2, hfz46_3, hfz46_4, hfz46_5, hfz46_6, hfz46_7, hfz46_8, hfz46_9, hfz46_10, hfz46_11, hfz46_12, hfz46_13, hfz46_14, hfz46_15, hfz46_16⟩ := Gv.f17 BK254.out) | (go_at_call 39; (with_reducible refine (spec_l03Any.calls a0_7 a0_8 a0_9 a0_10 a0_11 a0_12 t258 _ A43.out).mono ?_); rintro e w47 ⟨rfl, hb⟩; have n0_ := Gv.a0 (Gv.bb BK254.out hb); have n1_ := Gv.a0 (below_step Gv.bw hb); clear BK254; clear HB; have BK254 := n0_; have HB := n1_; clear n0_ n1_; (try clear hb); (try clear hb2); (try clear hk); (try clear hi)) | ((with_reducible refine Gv.gate_load (t := 38) rfl ?_); (try (refine gate_guard (by rfl) ?_; dsimp only)); refine wpList_load_row rfl 38 _ rfl gb254 rfl 38 _ _ _ (by first | exact Gv.kb0 BK254.out | exact Gv.kb1 (Gv.kb0 BK254.out)) Try.underlying38 rfl (by kernel_rfl) ?_))
                 refine Met.intro ?_
                 go_step
                 (repeat apply Exists.intro)
                 refine ⟨?rel, ?eq_⟩
                 case eq_ => first | rfl | (rw [c18b0]; rfl) | (rw [c23b0]; rfl) | (rw [c24b0]; rfl) | (rw [c25b0]; rfl) | (rw [c38b0]; rfl) | (simp only [c18b0, c23b0, c24b0, c25b0, c38b0]; rfl)
                 case rel => exact ⟨_, (!t258), Gv.rq, H', ⟨by have := HJ1.out; have := HJ7.out; have := HJ11.out; first | omega | exact Nat.le_refl _⟩, ⟨by (with_reducible repeat (first | refine blk_drewN ?_ _ | refine blk_drew ?_ | refine blk_alloc ?_ _)); exact BK254.out⟩, ⟨Gv.bw⟩⟩
                ·replace c42 := Bool.eq_false_iff.mpr c42
                 subst c42
                 have H1 : (spec_ModuleOk.j3 kj11 true a0_0 a0_1 a0_2 a0_3 a0_4 a0_5 a0_6 a0_7 a0_8 a0_9 a0_10 a0_11 a0_12 a0_13 a0_14 a0_15 a0_16) = some r := by rw [if_neg (show ¬ (false = true) by decide)] at H; exact H
                 clear H
                 have H := H1
                 clear H1
                 have H' := Gv.a0 H
                 clear H
                 obtain ⟨hcz48_0, hcz48_1, hcz48_2, hcz48_3, hcz48_4, hcz48_5, hcz48_6, hcz48_7, hcz48_8, hcz48_9, hcz48_10, hcz48_11, hcz48_12, hcz48_13, hcz48_14, hcz48_15, hcz48_16⟩ := Gv.c17 BK254.out
                 obtain ⟨hfz48_0, hfz48_1, hfz48_2, hfz48_3, hfz48_4, hfz48_5, hfz48_6, hfz48_7, hfz48_8, hfz48_9, hfz48_10, hfz48_11, hfz48_12, hfz48_13, hfz48_14, hfz48_15, hfz48_16⟩ := Gv.f17 BK254.out
                 go_wp2_with (first | (go_at_call 39; (with_reducible refine (spec_l03Any.calls a0_1 a0_2 a0_3 a0_4 a0_5 a0_6 false _ A41.out).mono ?_); rintro e w49 ⟨rfl, hb⟩; have n0_ := Gv.a0 (Gv.bb BK254.out hb); have n1_ := Gv.a0 (below_step Gv.bw hb); clear BK254; clear HB; have BK254 := n0_; have HB := n1_; clear n0_ n1_; (try clear hb); (try clear hb2); (try clear hk); (try clear hi)) | ((with_reducible refine Gv.gate_load (t := 38) rfl ?_); (try (refine gate_guard (by rfl) ?_; dsimp only)); refine wpList_load_row rfl 38 _ rfl gb254 rfl 38 _ _ _ (by first | exact Gv.kb0 BK254.out | exact Gv.kb1 (Gv.kb0 BK254.out)) Try.underlying38 rfl (by kernel_rfl) ?_))
                 refine Met.intro ?_
                 go_step
                 (repeat apply Exists.intro)
                 refine ⟨?rel, ?eq_⟩
                 case eq_ => first | rfl | (rw [c18b0]; rfl) | (rw [c23b0]; rfl) | (rw [c24b0]; rfl) | (rw [c25b0]; rfl) | (rw [c38b0]; rfl) | (simp only [c18b0, c23b0, c24b0, c25b0, c38b0]; rfl)
                 case rel => exact ⟨_, (true), Gv.rq, H', ⟨by have := HJ1.out; have := HJ7.out; have := HJ11.out; first | omega | exact Nat.le_refl _⟩, ⟨by (with_reducible repeat (first | refine blk_drewN ?_ _ | refine blk_drew ?_ | refine blk_alloc ?_ _)); exact BK254.out⟩, ⟨Gv.bw⟩⟩
              ·rw [if_neg c38] at H
               have c38b0 : (a0_16 == 0) = false := beq_eq_false_iff_ne.mpr c38
               have c38b1 : (a0_16 != 0) = true := bne_iff_ne.mpr c38
               have H' := Gv.a0 H
               clear H
               obtain ⟨hcz50_0, hcz50_1, hcz50_2, hcz50_3, hcz50_4, hcz50_5, hcz50_6, hcz50_7, hcz50_8, hcz50_9, hcz50_10, hcz50_11, hcz50_12, hcz50_13, hcz50_14, hcz50_15, hcz50_16⟩ := Gv.c17 BK254.out
               obtain ⟨hfz50_0, hfz50_1, hfz50_2, hfz50_3, hfz50_4, hfz50_5, hfz50_6, hfz50_7, hfz50_8, hfz50_9, hfz50_10, hfz50_11, hfz50_12, hfz50_13, hfz50_14, hfz50_15, hfz50_16⟩ := Gv.f17 BK254.out
               go_wp2_with (first | ((with_reducible refine Gv.gate_load (t := 38) rfl ?_); (try (refine gate_guard (by rfl) ?_; dsimp only)); refine wpList_load_row rfl 38 _ rfl gb254 rfl 38 _ _ _ (by first | exact Gv.kb0 BK254.out | exact Gv.kb1 (Gv.kb0 BK254.out)) Try.underlying38 rfl (by kernel_rfl) ?_))
               refine Met.intro ?_
               go_step
               (repeat apply Exists.intro)
               refine ⟨?rel, ?eq_⟩
               case eq_ => first | rfl | (rw [c18b0]; rfl) | (rw [c23b0]; rfl) | (rw [c24b0]; rfl) | (rw [c25b0]; rfl) | (rw [c38b0]; rfl) | (simp only [c18b0, c23b0, c24b0, c25b0, c38b0]; rfl)
               case rel => exact ⟨_, (true), Gv.rq, H', ⟨by have := HJ1.out; have := HJ7.out; have := HJ11.out; first | omega | exact Nat.le_refl _⟩, ⟨by (with_reducible repeat (first | refine blk_drewN ?_ _ | refine blk_drew ?_ | refine blk_alloc ?_ _)); exact BK254.out⟩, ⟨Gv.bw⟩⟩
            ·rw [if_neg c25] at H
             have c25b0 : (a0_15 == 0) = false := beq_eq_false_iff_ne.mpr c25
             have c25b1 : (a0_15 != 0) = true := bne_iff_ne.mpr c25
             have H' := Gv.a0 H
             clear H
             obtain ⟨hcz51_0, hcz51_1, hcz51_2, hcz51_3, hcz51_4, hcz51_5, hcz51_6, hcz51_7, hcz51_8, hcz51_9, hcz51_10, hcz51_11, hcz51_12, hcz51_13, hcz51_14, hcz51_15, hcz51_16⟩ := Gv.c17 BK254.out
             obtain ⟨hfz51_0, hfz51_1, hfz51_2, hfz51_3, hfz51_4, hfz51_5, hfz51_6, hfz51_7, hfz51_8, hfz51_9, hfz51_10, hfz51_11, hfz51_12, hfz51_13, hfz51_14, hfz51_15, hfz51_16⟩ := Gv.f17 BK254.out
             go_wp2_with (first | ((with_reducible refine Gv.gate_load (t := 38) rfl ?_); (try (refine gate_guard (by rfl) ?_; dsimp only)); refine wpList_load_row rfl 38 _ rfl gb254 rfl 38 _ _ _ (by first | exact Gv.kb0 BK254.out | exact Gv.kb1 (Gv.kb0 BK254.out)) Try.underlying38 rfl (by kernel_rfl) ?_))
             refine Met.intro ?_
             go_step
             (repeat apply Exists.intro)
             refine ⟨?rel, ?eq_⟩
             case eq_ => first | rfl | (rw [c18b0]; rfl) | (rw [c23b0]; rfl) | (rw [c24b0]; rfl) | (rw [c25b0]; rfl) | (simp only [c18b0, c23b0, c24b0, c25b0]; rfl)
             case rel => exact ⟨_, (true), Gv.rq, H', ⟨by have := HJ1.out; have := HJ7.out; have := HJ11.out; first | omega | exact Nat.le_refl _⟩, ⟨by (with_reducible repeat (first | refine blk_drewN ?_ _ | refine blk_drew ?_ | refine blk_alloc ?_ _)); exact BK254.out⟩, ⟨Gv.bw⟩⟩
           ·rw [if_neg c24] at H
            have c24b0 : (a0_14 == 0) = false := beq_eq_false_iff_ne.mpr c24
            have c24b1 : (a0_14 != 0) = true := bne_iff_ne.mpr c24
            have H' := Gv.a0 H
            clear H
            obtain ⟨hcz52_0, hcz52_1, hcz52_2, hcz52_3, hcz52_4, hcz52_5, hcz52_6, hcz52_7, hcz52_8, hcz52_9, hcz52_10, hcz52_11, hcz52_12, hcz52_13, hcz52_14, hcz52_15, hcz52_16⟩ := Gv.c17 BK254.out
            obtain ⟨hfz52_0, hfz52_1, hfz52_2, hfz52_3, hfz52_4, hfz52_5, hfz52_6, hfz52_7, hfz52_8, hfz52_9, hfz52_10, hfz52_11, hfz52_12, hfz52_13, hfz52_14, hfz52_15, hfz52_16⟩ := Gv.f17 BK254.out
            go_wp2_with (first | ((with_reducible refine Gv.gate_load (t := 38) rfl ?_); (try (refine gate_guard (by rfl) ?_; dsimp only)); refine wpList_load_row rfl 38 _ rfl gb254 rfl 38 _ _ _ (by first | exact Gv.kb0 BK254.out | exact Gv.kb1 (Gv.kb0 BK254.out)) Try.underlying38 rfl (by kernel_rfl) ?_))
            refine Met.intro ?_
            go_step
            (repeat apply Exists.intro)
            refine ⟨?rel, ?eq_⟩
            case eq_ => first | rfl | (rw [c18b0]; rfl) | (rw [c23b0]; rfl) | (rw [c24b0]; rfl) | (simp only [c18b0, c23b0, c24b0]; rfl)
            case rel => exact ⟨_, (true), Gv.rq, H', ⟨by have := HJ1.out; have := HJ7.out; have := HJ11.out; first | omega | exact Nat.le_refl _⟩, ⟨by (with_reducible repeat (first | refine blk_drewN ?_ _ | refine blk_drew ?_ | refine blk_alloc ?_ _)); exact BK254.out⟩, ⟨Gv.bw⟩⟩
          ·rw [if_neg c23] at H
           have c23b0 : (a0_13 == 0) = false := beq_eq_false_iff_ne.mpr c23
           have c23b1 : (a0_13 != 0) = true := bne_iff_ne.mpr c23
           have H' := Gv.a0 H
           clear H
           obtain ⟨hcz53_0, hcz53_1, hcz53_2, hcz53_3, hcz53_4, hcz53_5, hcz53_6, hcz53_7, hcz53_8, hcz53_9, hcz53_10, hcz53_11, hcz53_12, hcz53_13, hcz53_14, hcz53_15, hcz53_16⟩ := Gv.c17 BK254.out
           obtain ⟨hfz53_0, hfz53_1, hfz53_2, hfz53_3, hfz53_4, hfz53_5, hfz53_6, hfz53_7, hfz53_8, hfz53_9, hfz53_10, hfz53_11, hfz53_12, hfz53_13, hfz53_14, hfz53_15, hfz53_16⟩ := Gv.f17 BK254.out
           go_wp2_with (first | ((with_reducible refine Gv.gate_load (t := 38) rfl ?_); (try (refine gate_guard (by rfl) ?_; dsimp only)); refine wpList_load_row rfl 38 _ rfl gb254 rfl 38 _ _ _ (by first | exact Gv.kb0 BK254.out | exact Gv.kb1 (Gv.kb0 BK254.out)) Try.underlying38 rfl (by kernel_rfl) ?_))
           refine Met.intro ?_
           go_step
           (repeat apply Exists.intro)
           refine ⟨?rel, ?eq_⟩
           case eq_ => first | rfl | (rw [c18b0]; rfl) | (rw [c23b0]; rfl) | (simp only [c18b0, c23b0]; rfl)
           case rel => exact ⟨_, (true), Gv.rq, H', ⟨by have := HJ1.out; have := HJ7.out; have := HJ11.out; first | omega | exact Nat.le_refl _⟩, ⟨by (with_reducible repeat (first | refine blk_drewN ?_ _ | refine blk_drew ?_ | refine blk_alloc ?_ _)); exact BK254.out⟩, ⟨Gv.bw⟩⟩
        case rest =>
         clear HC17
         try clear c1
         try clear c2
         try clear p2
         try clear c3
         try clear c4
         try clear c18
         try clear c18b0
         try clear c18b1
         try clear c18b2
         try clear c20
         try clear c20b0
         try clear c20b1
         try clear c23
         try clear c23b0
         try clear c23b1
         try clear c24
         try clear c24b0
         try clear c24b1
         try clear c25
         try clear c25b0
         try clear c25b1
         try clear c26
         try clear c27
         try clear c30
         try clear c38
         try clear c38b0
         try clear c38b1
         try clear c39
         try clear c42
         try clear hcz21_0 hcz21_1
         try clear hcz21_10 hcz21_11 hcz21_12 hcz21_13 hcz21_14 hcz21_15 hcz21_16
         try clear hcz21_2 hcz21_3 hcz21_4 hcz21_5 hcz21_6 hcz21_7 hcz21_8 hcz21_9
         try clear hcz22_0 hcz22_1
         try clear hcz22_10 hcz22_11 hcz22_12 hcz22_13 hcz22_14 hcz22_15 hcz22_16
         try clear hcz22_2 hcz22_3 hcz22_4 hcz22_5 hcz22_6 hcz22_7 hcz22_8 hcz22_9
         try clear hcz28_0 hcz28_1
         try clear hcz28_10 hcz28_11 hcz28_12 hcz28_13 hcz28_14 hcz28_15 hcz28_16
         try clear hcz28_2 hcz28_3 hcz28_4 hcz28_5 hcz28_6 hcz28_7 hcz28_8 hcz28_9
         try clear hcz32_0 hcz32_1
         try clear hcz32_10 hcz32_11 hcz32_12 hcz32_13 hcz32_14 hcz32_15 hcz32_16
         try clear hcz32_2 hcz32_3 hcz32_4 hcz32_5 hcz32_6 hcz32_7 hcz32_8 hcz32_9
         try clear hcz34_0 hcz34_1
         try clear hcz34_10 hcz34_11 hcz34_12 hcz34_13 hcz34_14 hcz34_15 hcz34_16
         try clear hcz34_2 hcz34_3 hcz34_4 hcz34_5 hcz34_6 hcz34_7 hcz34_8 hcz34_9
         try clear hcz36_0 hcz36_1
         try clear hcz36_10 hcz36_11 hcz36_12 hcz36_13 hcz36_14 hcz36_15 hcz36_16
         try clear hcz36_2 hcz36_3 hcz36_4 hcz36_5 hcz36_6 hcz36_7 hcz36_8 hcz36_9
         try clear hcz40_0 hcz40_1
         try clear hcz40_10 hcz40_11 hcz40_12 hcz40_13 hcz40_14 hcz40_15 hcz40_16
         try clear hcz40_2 hcz40_3 hcz40_4 hcz40_5 hcz40_6 hcz40_7 hcz40_8 hcz40_9
         try clear hcz44_0 hcz44_1
         try clear hcz44_10 hcz44_11 hcz44_12 hcz44_13 hcz44_14 hcz44_15 hcz44_16
         try clear hcz44_2 hcz44_3 hcz44_4 hcz44_5 hcz44_6 hcz44_7 hcz44_8 hcz44_9
         try clear hcz46_0 hcz46_1
         try clear hcz46_10 hcz46_11 hcz46_12 hcz46_13 hcz46_14 hcz46_15 hcz46_16
         try clear hcz46_2 hcz46_3 hcz46_4 hcz46_5 hcz46_6 hcz46_7 hcz46_8 hcz46_9
         try clear hcz48_0 hcz48_1
         try clear hcz48_10 hcz48_11 hcz48_12 hcz48_13 hcz48_14 hcz48_15 hcz48_16
         try clear hcz48_2 hcz48_3 hcz48_4 hcz48_5 hcz48_6 hcz48_7 hcz48_8 hcz48_9
         try clear hcz50_0 hcz50_1
         try clear hcz50_10 hcz50_11 hcz50_12 hcz50_13 hcz50_14 hcz50_15 hcz50_16
         try clear hcz50_2 hcz50_3 hcz50_4 hcz50_5 hcz50_6 hcz50_7 hcz50_8 hcz50_9
         try clear hcz51_0 hcz51_1
         try clear hcz51_10 hcz51_11 hcz51_12 hcz51_13 hcz51_14 hcz51_15 hcz51_16
         try clear hcz51_2 hcz51_3 hcz51_4 hcz51_5 hcz51_6 hcz51_7 hcz51_8 hcz51_9
         try clear hcz52_0 hcz52_1
         try clear hcz52_10 hcz52_11 hcz52_12 hcz52_13 hcz52_14 hcz52_15 hcz52_16
         try clear hcz52_2 hcz52_3 hcz52_4 hcz52_5 hcz52_6 hcz52_7 hcz52_8 hcz52_9
         try clear hcz53_0 hcz53_1
         try clear hcz53_10 hcz53_11 hcz53_12 hcz53_13 hcz53_14 hcz53_15 hcz53_16
         try clear hcz53_2 hcz53_3 hcz53_4 hcz53_5 hcz53_6 hcz53_7 hcz53_8 hcz53_9
         try clear hfz21_0 hfz21_1
         try clear hfz21_10 hfz21_11 hfz21_12 hfz21_13 hfz21_14 hfz21_15 hfz21_16
         try clear hfz21_2 hfz21_3 hfz21_4 hfz21_5 hfz21_6 hfz21_7 hfz21_8 hfz21_9
         try clear hfz22_0 hfz22_1
         try clear hfz22_10 hfz22_11 hfz22_12 hfz22_13 hfz22_14 hfz22_15 hfz22_16
         try clear hfz22_2 hfz22_3 hfz22_4 hfz22_5 hfz22_6 hfz22_7 hfz22_8 hfz22_9
         try clear hfz28_0 hfz28_1
         try clear hfz28_10 hfz28_11 hfz28_12 hfz28_13 hfz28_14 hfz28_15 hfz28_16
         try clear hfz28_2 hfz28_3 hfz28_4 hfz28_5 hfz28_6 hfz28_7 hfz28_8 hfz28_9
         try clear hfz32_0 hfz32_1
         try clear hfz32_10 hfz32_11 hfz32_12 hfz32_13 hfz32_14 hfz32_15 hfz32_16
         try clear hfz32_2 hfz32_3 hfz32_4 hfz32_5 hfz32_6 hfz32_7 hfz32_8 hfz32_9
         try clear hfz34_0 hfz34_1
         try clear hfz34_10 hfz34_11 hfz34_12 hfz34_13 hfz34_14 hfz34_15 hfz34_16
         try clear hfz34_2 hfz34_3 hfz34_4 hfz34_5 hfz34_6 hfz34_7 hfz34_8 hfz34_9
         try clear hfz36_0 hfz36_1
         try clear hfz36_10 hfz36_11 hfz36_12 hfz36_13 hfz36_14 hfz36_15 hfz36_16
         try clear hfz36_2 hfz36_3 hfz36_4 hfz36_5 hfz36_6 hfz36_7 hfz36_8 hfz36_9
         try clear hfz40_0 hfz40_1
         try clear hfz40_10 hfz40_11 hfz40_12 hfz40_13 hfz40_14 hfz40_15 hfz40_16
         try clear hfz40_2 hfz40_3 hfz40_4 hfz40_5 hfz40_6 hfz40_7 hfz40_8 hfz40_9
         try clear hfz44_0 hfz44_1
         try clear hfz44_10 hfz44_11 hfz44_12 hfz44_13 hfz44_14 hfz44_15 hfz44_16
         try clear hfz44_2 hfz44_3 hfz44_4 hfz44_5 hfz44_6 hfz44_7 hfz44_8 hfz44_9
         try clear hfz46_0 hfz46_1
         try clear hfz46_10 hfz46_11 hfz46_12 hfz46_13 hfz46_14 hfz46_15 hfz46_16
         try clear hfz46_2 hfz46_3 hfz46_4 hfz46_5 hfz46_6 hfz46_7 hfz46_8 hfz46_9
         try clear hfz48_0 hfz48_1
         try clear hfz48_10 hfz48_11 hfz48_12 hfz48_13 hfz48_14 hfz48_15 hfz48_16
         try clear hfz48_2 hfz48_3 hfz48_4 hfz48_5 hfz48_6 hfz48_7 hfz48_8 hfz48_9
         try clear hfz50_0 hfz50_1
         try clear hfz50_10 hfz50_11 hfz50_12 hfz50_13 hfz50_14 hfz50_15 hfz50_16
         try clear hfz50_2 hfz50_3 hfz50_4 hfz50_5 hfz50_6 hfz50_7 hfz50_8 hfz50_9
         try clear hfz51_0 hfz51_1
         try clear hfz51_10 hfz51_11 hfz51_12 hfz51_13 hfz51_14 hfz51_15 hfz51_16
         try clear hfz51_2 hfz51_3 hfz51_4 hfz51_5 hfz51_6 hfz51_7 hfz51_8 hfz51_9
         try clear hfz52_0 hfz52_1
         try clear hfz52_10 hfz52_11 hfz52_12 hfz52_13 hfz52_14 hfz52_15 hfz52_16
         try clear hfz52_2 hfz52_3 hfz52_4 hfz52_5 hfz52_6 hfz52_7 hfz52_8 hfz52_9
         try clear hfz53_0 hfz53_1
         try clear hfz53_10 hfz53_11 hfz53_12 hfz53_13 hfz53_14 hfz53_15 hfz53_16
         try clear hfz53_2 hfz53_3 hfz53_4 hfz53_5 hfz53_6 hfz53_7 hfz53_8 hfz53_9
         obtain ⟨kq, x78_16, rfl, HA, HJ16, BK254, HB⟩ := hcut
         cases kq with
         | zero => exact absurd HA.out (by simp [spec_ModuleOk.j3])
         | succ kj16 =>
          have H := HA.out
          clear HA
          simp only [spec_ModuleOk.j3] at H
          by_cases c54 : x78_16 = true
          ·subst c54
           have H1 : (some false) = some r := by rw [if_pos rfl] at H; exact H
           clear H
           have H := H1
           clear H1
           obtain rfl := Option.some.inj H
           go_wp2_with (first | ((with_reducible refine Gv.gate_load (t := 38) rfl ?_); (try (refine gate_guard (by rfl) ?_; dsimp only)); refine wpList_load_row rfl 38 _ rfl gb254 rfl 38 _ _ _ (by first | exact Gv.kb0 BK254.out | exact Gv.kb1 (Gv.kb0 BK254.out)) Try.underlying38 rfl (by kernel_rfl) ?_))
           go_ret
           exact ⟨Gv.rt, Gv.bw⟩
          ·replace c54 := Bool.eq_false_iff.mpr c54
           subst c54
           have H1 : (if a0_0 = 1 then ((spec_PrefixOk.f kj16 a0_1 a0_2 a0_3 a0_4 a0_5 a0_6).bind fun t259 => (if t259 = true then ((spec_PrefixOk.f kj16 a0_7 a0_8 a0_9 a0_10 a0_11 a0_12).bind fun t260 => (if t260 = true then (if a0_13 ≥ (-1) then (if a0_13 ≤ 255 then ((spec_l09Range.f a0_14 a0_15).bind fun t261 => (some t261)) else (some false)) else (some false)) else (some false))) else (some false))) else (if a0_0 = 2 then (spec_ModuleOk.j4 kj16 a0_0 (a0_0 == 2) a0_0 a0_1 a0_2 a0_3 a0_4 a0_5 a0_6 a0_7 a0_8 a0_9 a0_10 a0_11 a0_12 a0_13 a0_14 a0_15 a0_16) else (spec_ModuleOk.j4 kj16 a0_0 (a0_0 == 3) a0_0 a0_1 a0_2 a0_3 a0_4 a0_5 a0_6 a0_7 a0_8 a0_9 a0_10 a0_11 a0_12 a0_13 a0_14 a0_15 a0_16))) = some r := by rw [if_neg (show ¬ (false = true) by decide)] at H; exact H
           clear H
           have H := H1
           clear H1
           by_cases c55 : a0_0 = 1
           ·rw [if_pos c55] at H
            have c55b0 : (a0_0 == 1) = true := beq_iff_eq.mpr c55
            have c55b1 : (a0_0 != 1) = false := bne_eq_false_iff_eq.mpr c55
            clear c55
            replace H := Option.bind_eq_some_iff.mp H
            obtain ⟨t259, A560, H⟩ := H
            replace H : (if t259 = true then ((spec_PrefixOk.f kj16 a0_7 a0_8 a0_9 a0_10 a0_11 a0_12).bind fun t260 => (if t260 = true then (if a0_13 ≥ (-1) then (if a0_13 ≤ 255 then ((spec_l09Range.f a0_14 a0_15).bind fun t261 => (some t261)) else (some false)) else (some false)) else (some false))) else (some false)) = some r := H
            have A56 := Gv.a0 A560
            clear A560
            by_cases c57 : t259 = true
            ·subst c57
             have H1 : ((spec_PrefixOk.f kj16 a0_7 a0_8 a0_9 a0_10 a0_11 a0_12).bind fun t260 => (if t260 = true then (if a0_13 ≥ (-1) then (if a0_13 ≤ 255 then ((spec_l09Range.f a0_14 a0_15).bind fun t261 => (some t261)) else (some false)) else (some false)) else (some false))) = some r := by rw [if_pos rfl] at H; exact H
             clear H
             have H := H1
             clear H1
             replace H := Option.bind_eq_some_iff.mp H
             obtain ⟨t260, A580, H⟩ := H
             replace H : (if t260 = true then (if a0_13 ≥ (-1) then (if a0_13 ≤ 255 then ((spec_l09Range.f a0_14 a0_15).bind fun t261 => (some t261)) else (some false)) else (some false)) else (some false)) = some r := H
             have A58 := Gv.a0 A580
             clear A580
             by_cases c59 : t260 = true
             ·subst c59
              have H1 : (if a0_13 ≥ (-1) then (if a0_13 ≤ 255 then ((spec_l09Range.f a0_14 a0_15).bind fun t261 => (some t261)) else (some false)) else (some false)) = some r := by rw [if_pos rfl] at H; exact H
              clear H
              have H := H1
              clear H1
              by_cases c60 : a0_13 ≥ (-1)
              ·rw [if_pos c60] at H
               have c60b0 : decide ((-1) ≤ a0_13) = true := decide_eq_true c60
               clear c60
               by_cases c61 : a0_13 ≤ 255
               ·rw [if_pos c61] at H
                have c61b0 : decide (a0_13 ≤ 255) = true := decide_eq_true c61
                clear c61
                replace H := Option.bind_eq_some_iff.mp H
                obtain ⟨t261, A620, H⟩ := H
                replace H : (some t261) = some r := H
                have A62 := Gv.a0 A620
                clear A620
                obtain rfl := Option.some.inj H
                obtain ⟨hcz63_0, hcz63_1, hcz63_2, hcz63_3, hcz63_4, hcz63_5, hcz63_6, hcz63_7, hcz63_8, hcz63_9, hcz63_10, hcz63_11, hcz63_12, hcz63_13, hcz63_14, hcz63_15, hcz63_16⟩ := Gv.c17 BK254.out
                obtain ⟨hfz63_0, hfz63_1, hfz63_2, hfz63_3, hfz63_4, hfz63_5, hfz63_6, hfz63_7, hfz63_8, hfz63_9, hfz63_10, hfz63_11, hfz63_12, hfz63_13, hfz63_14, hfz63_15, hfz63_16⟩ := Gv.f17 BK254.out
                go_wp2_with (first | ((with_reducible refine gate_callee (f := 40) rfl ?_); refine goesL_ (some 85) rfl rfl Try.func40 (by kernel_rfl) rfl #[.agg #[.int .i64 a0_1, .int .i64 a0_2, .int .i64 a0_3, .int .i64 a0_4, .int .i64 a0_5, .int .i64 a0_6]] rfl Gv.lm ?_; (with_reducible refine (spec_PrefixOk.calls kj16 a0_1 a0_2 a0_3 a0_4 a0_5 a0_6 true _ A56.out).mono ?_); rintro e w64 ⟨rfl, hb⟩; refine ⟨_, rfl, ?_⟩; have n0_ := Gv.a0 (Gv.bb BK254.out hb); have n1_ := Gv.a0 (below_step Gv.bw hb); clear BK254; clear HB; have BK254 := n0_; have HB := n1_; clear n0_ n1_; (try clear hb); (try clear hb2); (try clear hk); (try clear hi); obtain ⟨hcz65_0, hcz65_1, hcz65_2, hcz65_3, hcz65_4, hcz65_5, hcz65_6, hcz65_7, hcz65_8, hcz65_9, hcz65_10, hcz65_11, hcz65_12, hcz65_13, hcz65_14, hcz65_15, hcz65_16⟩ := Gv.c17 BK254.out; obtain ⟨hfz65_0, hfz65_1, hfz65_2, hfz65_3, hfz65_4, hfz65_5, hfz65_6, hfz65_7, hfz65_8, hfz65_9, hfz65_10, hfz65_11, hfz65_12, hfz65_13, hfz65_14, hfz65_15, hfz65_16⟩ := Gv.f17 BK254.out) | (go_at_call 40; (with_reducible refine (spec_PrefixOk.calls kj16 a0_7 a0_8 a0_9 a0_10 a0_11 a0_12 true _ A58.out).mono ?_); rintro e w66 ⟨rfl, hb⟩; have n0_ := Gv.a0 (Gv.bb BK254.out hb); have n1_ := Gv.a0 (below_step Gv.bw hb); clear BK254; clear HB; have BK254 := n0_; have HB := n1_; clear n0_ n1_; (try clear hb); (try clear hb2); (try clear hk); (try clear hi); obtain ⟨hcz67_0, hcz67_1, hcz67_2, hcz67_3, hcz67_4, hcz67_5, hcz67_6, hcz67_7, hcz67_8, hcz67_9, hcz67_10, hcz67_11, hcz67_12, hcz67_13, hcz67_14, hcz67_15, hcz67_16⟩ := Gv.c17 BK254.out; obtain ⟨hfz67_0, hfz67_1, hfz67_2, hfz67_3, hfz67_4, hfz67_5, hfz67_6, hfz67_7, hfz67_8, hfz67_9, hfz67_10, hfz67_11, hfz67_12, hfz67_13, hfz67_14, hfz67_15, hfz67_16⟩ := Gv.f17 BK254.out) | (go_at_call 41; (with_reducible refine (spec_l09Range.calls a0_14 a0_15 t261 _ A62.out).mono ?_); rintro e w' ⟨rfl, ⟨nd, rfl⟩⟩) | ((with_reducible refine Gv.gate_load (t := 38) rfl ?_); (try (refine gate_guard (by rfl) ?_; dsimp only)); refine wpList_load_row rfl 38 _ rfl gb254 rfl 38 _ _ _ (by first | exact Gv.kb0 BK254.out | exact Gv.kb1 (Gv.kb0 BK254.out)) Try.underlying38 rfl (by kernel_rfl) ?_))
                go_ret
                exact ⟨Gv.rt, Gv.bw⟩
               ·rw [if_neg c61] at H
                have c61b0 : decide (a0_13 ≤ 255) = false := decide_eq_false c61
                clear c61
                obtain rfl := Option.some.inj H
                obtain ⟨hcz68_0, hcz68_1, hcz68_2, hcz68_3, hcz68_4, hcz68_5, hcz68_6, hcz68_7, hcz68_8, hcz68_9, hcz68_10, hcz68_11, hcz68_12, hcz68_13, hcz68_14, hcz68_15, hcz68_16⟩ := Gv.c17 BK254.out
                obtain ⟨hfz68_0, hfz68_1, hfz68_2, hfz68_3, hfz68_4, hfz68_5, hfz68_6, hfz68_7, hfz68_8, hfz68_9, hfz68_10, hfz68_11, hfz68_12, hfz68_13, hfz68_14, hfz68_15, hfz68_16⟩ := Gv.f17 BK254.out
                go_wp2_with (first | ((with_reducible refine gate_callee (f := 40) rfl ?_); refine goesL_ (some 85) rfl rfl Try.func40 (by kernel_rfl) rfl #[.agg #[.int .i64 a0_1, .int .i64 a0_2, .int .i64 a0_3, .int .i64 a0_4, .int .i64 a0_5, .int .i64 a0_6]] rfl Gv.lm ?_; (with_reducible refine (spec_PrefixOk.calls kj16 a0_1 a0_2 a0_3 a0_4 a0_5 a0_6 true _ A56.out).mono ?_); rintro e w69 ⟨rfl, hb⟩; refine ⟨_, rfl, ?_⟩; have n0_ := Gv.a0 (Gv.bb BK254.out hb); have n1_ := Gv.a0 (below_step Gv.bw hb); clear BK254; clear HB; have BK254 := n0_; have HB := n1_; clear n0_ n1_; (try clear hb); (try clear hb2); (try clear hk); (try clear hi); obtain ⟨hcz70_0, hcz70_1, hcz70_2, hcz70_3, hcz70_4, hcz70_5, hcz70_6, hcz70_7, hcz70_8, hcz70_9, hcz70_10, hcz70_11, hcz70_12, hcz70_13, hcz70_14, hcz70_15, hcz70_16⟩ := Gv.c17 BK254.out; obtain ⟨hfz70_0, hfz70_1, hfz70_2, hfz70_3, hfz70_4, hfz70_5, hfz70_6, hfz70_7, hfz70_8, hfz70_9, hfz70_10, hfz70_11, hfz70_12, hfz70_13, hfz70_14, hfz70_15, hfz70_16⟩ := Gv.f17 BK254.out) | (go_at_call 40; (with_reducible refine (spec_PrefixOk.calls kj16 a0_7 a0_8 a0_9 a0_10 a0_11 a0_12 true _ A58.out).mono ?_); rintro e w71 ⟨rfl, hb⟩; have n0_ := Gv.a0 (Gv.bb BK254.out hb); have n1_ := Gv.a0 (below_step Gv.bw hb); clear BK254; clear HB; have BK254 := n0_; have HB := n1_; clear n0_ n1_; (try clear hb); (try clear hb2); (try clear hk); (try clear hi); obtain ⟨hcz72_0, hcz72_1, hcz72_2, hcz72_3, hcz72_4, hcz72_5, hcz72_6, hcz72_7, hcz72_8, hcz72_9, hcz72_10, hcz72_11, hcz72_12, hcz72_13, hcz72_14, hcz72_15, hcz72_16⟩ := Gv.c17 BK254.out; obtain ⟨hfz72_0, hfz72_1, hfz72_2, hfz72_3, hfz72_4, hfz72_5, hfz72_6, hfz72_7, hfz72_8, hfz72_9, hfz72_10, hfz72_11, hfz72_12, hfz72_13, hfz72_14, hfz72_15, hfz72_16⟩ := Gv.f17 BK254.out) | ((with_reducible refine Gv.gate_load (t := 38) rfl ?_); (try (refine gate_guard (by rfl) ?_; dsimp only)); refine wpList_load_row rfl 38 _ rfl gb254 rfl 38 _ _ _ (by first | exact Gv.kb0 BK254.out | exact Gv.kb1 (Gv.kb0 BK254.out)) Try.underlying38 rfl (by kernel_rfl) ?_))
                go_ret
                exact ⟨Gv.rt, Gv.bw⟩
              ·rw [if_neg c60] at H
               have c60b0 : decide ((-1) ≤ a0_13) = false := decide_eq_false c60
               clear c60
               obtain rfl := Option.some.inj H
               obtain ⟨hcz73_0, hcz73_1, hcz73_2, hcz73_3, hcz73_4, hcz73_5, hcz73_6, hcz73_7, hcz73_8, hcz73_9, hcz73_10, hcz73_11, hcz73_12, hcz73_13, hcz73_14, hcz73_15, hcz73_16⟩ := Gv.c17 BK254.out
               obtain ⟨hfz73_0, hfz73_1, hfz73_2, hfz73_3, hfz73_4, hfz73_5, hfz73_6, hfz73_7, hfz73_8, hfz73_9, hfz73_10, hfz73_11, hfz73_12, hfz73_13, hfz73_14, hfz73_15, hfz73_16⟩ := Gv.f17 BK254.out
               go_wp2_with (first | ((with_reducible refine gate_callee (f := 40) rfl ?_); refine goesL_ (some 85) rfl rfl Try.func40 (by kernel_rfl) rfl #[.agg #[.int .i64 a0_1, .int .i64 a0_2, .int .i64 a0_3, .int .i64 a0_4, .int .i64 a0_5, .int .i64 a0_6]] rfl Gv.lm ?_; (with_reducible refine (spec_PrefixOk.calls kj16 a0_1 a0_2 a0_3 a0_4 a0_5 a0_6 true _ A56.out).mono ?_); rintro e w74 ⟨rfl, hb⟩; refine ⟨_, rfl, ?_⟩; have n0_ := Gv.a0 (Gv.bb BK254.out hb); have n1_ := Gv.a0 (below_step Gv.bw hb); clear BK254; clear HB; have BK254 := n0_; have HB := n1_; clear n0_ n1_; (try clear hb); (try clear hb2); (try clear hk); (try clear hi); obtain ⟨hcz75_0, hcz75_1, hcz75_2, hcz75_3, hcz75_4, hcz75_5, hcz75_6, hcz75_7, hcz75_8, hcz75_9, hcz75_10, hcz75_11, hcz75_12, hcz75_13, hcz75_14, hcz75_15, hcz75_16⟩ := Gv.c17 BK254.out; obtain ⟨hfz75_0, hfz75_1, hfz75_2, hfz75_3, hfz75_4, hfz75_5, hfz75_6, hfz75_7, hfz75_8, hfz75_9, hfz75_10, hfz75_11, hfz75_12, hfz75_13, hfz75_14, hfz75_15, hfz75_16⟩ := Gv.f17 BK254.out) | (go_at_call 40; (with_reducible refine (spec_PrefixOk.calls kj16 a0_7 a0_8 a0_9 a0_10 a0_11 a0_12 true _ A58.out).mono ?_); rintro e w76 ⟨rfl, hb⟩; have n0_ := Gv.a0 (Gv.bb BK254.out hb); have n1_ := Gv.a0 (below_step Gv.bw hb); clear BK254; clear HB; have BK254 := n0_; have HB := n1_; clear n0_ n1_; (try clear hb); (try clear hb2); (try clear hk); (try clear hi); obtain ⟨hcz77_0, hcz77_1, hcz77_2, hcz77_3, hcz77_4, hcz77_5, hcz77_6, hcz77_7, hcz77_8, hcz77_9, hcz77_10, hcz77_11, hcz77_12, hcz77_13, hcz77_14, hcz77_15, hcz77_16⟩ := Gv.c17 BK254.out; obtain ⟨hfz77_0, hfz77_1, hfz77_2, hfz77_3, hfz77_4, hfz77_5, hfz77_6, hfz77_7, hfz77_8, hfz77_9, hfz77_10, hfz77_11, hfz77_12, hfz77_13, hfz77_14, hfz77_15, hfz77_16⟩ := Gv.f17 BK254.out) | ((with_reducible refine Gv.gate_load (t := 38) rfl ?_); (try (refine gate_guard (by rfl) ?_; dsimp only)); refine wpList_load_row rfl 38 _ rfl gb254 rfl 38 _ _ _ (by first | exact Gv.kb0 BK254.out | exact Gv.kb1 (Gv.kb0 BK254.out)) Try.underlying38 rfl (by kernel_rfl) ?_))
               go_ret
               exact ⟨Gv.rt, Gv.bw⟩
             ·replace c59 := Bool.eq_false_iff.mpr c59
              subst c59
              have H1 : (some false) = some r := by rw [if_neg (show ¬ (false = true) by decide)] at H; exact H
              clear H
              have H := H1
              clear H1
              obtain rfl := Option.some.inj H
              obtain ⟨hcz78_0, hcz78_1, hcz78_2, hcz78_3, hcz78_4, hcz78_5, hcz78_6, hcz78_7, hcz78_8, hcz78_9, hcz78_10, hcz78_11, hcz78_12, hcz78_13, hcz78_14, hcz78_15, hcz78_16⟩ := Gv.c17 BK254.out
              obtain ⟨hfz78_0, hfz78_1, hfz78_2, hfz78_3, hfz78_4, hfz78_5, hfz78_6, hfz78_7, hfz78_8, hfz78_9, hfz78_10, hfz78_11, hfz78_12, hfz78_13, hfz78_14, hfz78_15, hfz78_16⟩ := Gv.f17 BK254.out
              go_wp2_with (first | ((with_reducible refine gate_callee (f := 40) rfl ?_); refine goesL_ (some 85) rfl rfl Try.func40 (by kernel_rfl) rfl #[.agg #[.int .i64 a0_1, .int .i64 a0_2, .int .i64 a0_3, .int .i64 a0_4, .int .i64 a0_5, .int .i64 a0_6]] rfl Gv.lm ?_; (with_reducible refine (spec_PrefixOk.calls kj16 a0_1 a0_2 a0_3 a0_4 a0_5 a0_6 true _ A56.out).mono ?_); rintro e w79 ⟨rfl, hb⟩; refine ⟨_, rfl, ?_⟩; have n0_ := Gv.a0 (Gv.bb BK254.out hb); have n1_ := Gv.a0 (below_step Gv.bw hb); clear BK254; clear HB; have BK254 := n0_; have HB := n1_; clear n0_ n1_; (try clear hb); (try clear hb2); (try clear hk); (try clear hi); obtain ⟨hcz80_0, hcz80_1, hcz80_2, hcz80_3, hcz80_4, hcz80_5, hcz80_6, hcz80_7, hcz80_8, hcz80_9, hcz80_10, hcz80_11, hcz80_12, hcz80_13, hcz80_14, hcz80_15, hcz80_16⟩ := Gv.c17 BK254.out; obtain ⟨hfz80_0, hfz80_1, hfz80_2, hfz80_3, hfz80_4, hfz80_5, hfz80_6, hfz80_7, hfz80_8, hfz80_9, hfz80_10, hfz80_11, hfz80_12, hfz80_13, hfz80_14, hfz80_15, hfz80_16⟩ := Gv.f17 BK254.out) | (go_at_call 40; (with_reducible refine (spec_PrefixOk.calls kj16 a0_7 a0_8 a0_9 a0_10 a0_11 a0_12 false _ A58.out).mono ?_); rintro e w81 ⟨rfl, hb⟩; have n0_ := Gv.a0 (Gv.bb BK254.out hb); have n1_ := Gv.a0 (below_step Gv.bw hb); clear BK254; clear HB; have BK254 := n0_; have HB := n1_; clear n0_ n1_; (try clear hb); (try clear hb2); (try clear hk); (try clear hi)) | ((with_reducible refine Gv.gate_load (t := 38) rfl ?_); (try (refine gate_guard (by rfl) ?_; dsimp only)); refine wpList_load_row rfl 38 _ rfl gb254 rfl 38 _ _ _ (by first | exact Gv.kb0 BK254.out | exact Gv.kb1 (Gv.kb0 BK254.out)) Try.underlying38 rfl (by kernel_rfl) ?_))
              go_ret
              exact ⟨Gv.rt, Gv.bw⟩
            ·replace c57 := Bool.eq_false_iff.mpr c57
             subst c57
             have H1 : (some false) = some r := by rw [if_neg (show ¬ (false = true) by decide)] at H; exact H
             clear H
             have H := H1
             clear H1
             obtain rfl := Option.some.inj H
             obtain ⟨hcz82_0, hcz82_1, hcz82_2, hcz82_3, hcz82_4, hcz82_5, hcz82_6, hcz82_7, hcz82_8, hcz82_9, hcz82_10, hcz82_11, hcz82_12, hcz82_13, hcz82_14, hcz82_15, hcz82_16⟩ := Gv.c17 BK254.out
             obtain ⟨hfz82_0, hfz82_1, hfz82_2, hfz82_3, hfz82_4, hfz82_5, hfz82_6, hfz82_7, hfz82_8, hfz82_9, hfz82_10, hfz82_11, hfz82_12, hfz82_13, hfz82_14, hfz82_15, hfz82_16⟩ := Gv.f17 BK254.out
             go_wp2_with (first | ((with_reducible refine gate_callee (f := 40) rfl ?_); refine goesL_ (some 85) rfl rfl Try.func40 (by kernel_rfl) rfl #[.agg #[.int .i64 a0_1, .int .i64 a0_2, .int .i64 a0_3, .int .i64 a0_4, .int .i64 a0_5, .int .i64 a0_6]] rfl Gv.lm ?_; (with_reducible refine (spec_PrefixOk.calls kj16 a0_1 a0_2 a0_3 a0_4 a0_5 a0_6 false _ A56.out).mono ?_); rintro e w83 ⟨rfl, hb⟩; refine ⟨_, rfl, ?_⟩; have n0_ := Gv.a0 (Gv.bb BK254.out hb); have n1_ := Gv.a0 (below_step Gv.bw hb); clear BK254; clear HB; have BK254 := n0_; have HB := n1_; clear n0_ n1_; (try clear hb); (try clear hb2); (try clear hk); (try clear hi)) | ((with_reducible refine Gv.gate_load (t := 38) rfl ?_); (try (refine gate_guard (by rfl) ?_; dsimp only)); refine wpList_load_row rfl 38 _ rfl gb254 rfl 38 _ _ _ (by first | exact Gv.kb0 BK254.out | exact Gv.kb1 (Gv.kb0 BK254.out)) Try.underlying38 rfl (by kernel_rfl) ?_))
             go_ret
             exact ⟨Gv.rt, Gv.bw⟩
           ·rw [if_neg c55] at H
            have c55b0 : (a0_0 == 1) = false := beq_eq_false_iff_ne.mpr c55
            have c55b1 : (a0_0 != 1) = true := bne_iff_ne.mpr c55
            have HC84 := Gv.a0 H
            clear H
            obtain ⟨hcz85_0, hcz85_1, hcz85_2, hcz85_3, hcz85_4, hcz85_5, hcz85_6, hcz85_7, hcz85_8, hcz85_9, hcz85_10, hcz85_11, hcz85_12, hcz85_13, hcz85_14, hcz85_15, hcz85_16⟩ := Gv.c17 BK254.out
            obtain ⟨hfz85_0, hfz85_1, hfz85_2, hfz85_3, hfz85_4, hfz85_5, hfz85_6, hfz85_7, hfz85_8, hfz85_9, hfz85_10, hfz85_11, hfz85_12, hfz85_13, hfz85_14, hfz85_15, hfz85_16⟩ := Gv.f17 BK254.out
            go_upto_if 108 with (fail)
            go_cut [108] (fun v108 wc => ∃ (kq : Nat) (x108_83 : Bool), v108 = .bool x108_83 ∧ Aside0 (spec_ModuleOk.j4 kq a0_0 x108_83 a0_0 a0_1 a0_2 a0_3 a0_4 a0_5 a0_6 a0_7 a0_8 a0_9 a0_10 a0_11 a0_12 a0_13 a0_14 a0_15 a0_16 = some r) ∧ Aside0 (kq ≤ kj16) ∧ Aside0 (wc.heap[gb254]? = some (.cells #[.int .i64 a0_0, .int .i64 a0_1, .int .i64 a0_2, .int .i64 a0_3, .int .i64 a0_4, .int .i64 a0_5, .int .i64 a0_6, .int .i64 a0_7, .int .i64 a0_8, .int .i64 a0_9, .int .i64 a0_10, .int .i64 a0_11, .int .i64 a0_12, .int .i64 a0_13, .int .i64 a0_14, .int .i64 a0_15, .int .i64 a0_16] 38 (0, 0))) ∧ Aside0 (Below w.heap.size w wc))
            case first =>
             have H := HC84.out
             clear HC84
             by_cases c86 : a0_0 = 2
             ·rw [if_pos c86] at H
              have c86b0 : (a0_0 == 2) = true := beq_iff_eq.mpr c86
              have c86b1 : (a0_0 != 2) = false := bne_eq_false_iff_eq.mpr c86
              clear c86
              (first | rw [c86b0] | (simp only [i64_w, i32_w]; rw [c86b0]) | skip)
              have H' := Gv.a0 H
              clear H
              go_wp2_with (first | ((with_reducible refine Gv.gate_load (t := 38) rfl ?_); (try (refine gate_guard (by rfl) ?_; dsimp only)); refine wpList_load_row rfl 38 _ rfl gb254 rfl 38 _ _ _ (by first | exact Gv.kb0 BK254.out | exact Gv.kb1 (Gv.kb0 BK254.out)) Try.underlying38 rfl (by kernel_rfl) ?_))
              refine Met.intro ?_
              go_step
              (repeat apply Exists.intro)
              refine ⟨?rel, ?eq_⟩
              case eq_ => first | rfl | (rw [c55b0]; rfl) | (rw [c86b0]; rfl) | (simp only [c55b0, c86b0]; rfl)
              case rel => exact ⟨_, ((a0_0 == 2)), Gv.rq, H', ⟨by have := HJ1.out; have := HJ7.out; have := HJ11.out; have := HJ16.out; first | omega | exact Nat.le_refl _⟩, ⟨by (with_reducible repeat (first | refine blk_drewN ?_ _ | refine blk_drew ?_ | refine blk_alloc ?_ _)); exact BK254.out⟩, ⟨Gv.bw⟩⟩
             ·rw [if_neg c86] at H
              have c86b0 : (a0_0 == 2) = false := beq_eq_false_iff_ne.mpr c86
              have c86b1 : (a0_0 != 2) = true := bne_iff_ne.mpr c86
              (first | rw [c86b0] | (simp only [i64_w, i32_w]; rw [c86b0]) | skip)
              have H' := Gv.a0 H
              clear H
              go_wp2_with (first | ((with_reducible refine Gv.gate_load (t := 38) rfl ?_); (try (refine gate_guard (by rfl) ?_; dsimp only)); refine wpList_load_row rfl 38 _ rfl gb254 rfl 38 _ _ _ (by first | exact Gv.kb0 BK254.out | exact Gv.kb1 (Gv.kb0 BK254.out)) Try.underlying38 rfl (by kernel_rfl) ?_))
              refine Met.intro ?_
              go_step
              (repeat apply Exists.intro)
              refine ⟨?rel, ?eq_⟩
              case eq_ => first | rfl | (rw [c55b0]; rfl) | (rw [c86b0]; rfl) | (simp only [c55b0, c86b0]; rfl)
              case rel => exact ⟨_, ((a0_0 == 3)), Gv.rq, H', ⟨by have := HJ1.out; have := HJ7.out; have := HJ11.out; have := HJ16.out; first | omega | exact Nat.le_refl _⟩, ⟨by (with_reducible repeat (first | refine blk_drewN ?_ _ | refine blk_drew ?_ | refine blk_alloc ?_ _)); exact BK254.out⟩, ⟨Gv.bw⟩⟩
            case rest =>
             clear HC84
             try clear p2
             try clear c4
             try clear c5
             try clear c6
             try clear c8
             try clear c40
             try clear c54
             try clear c55
             try clear c55b0
             try clear c55b1
             try clear c57
             try clear c59
             try clear c60
             try clear c60b0
             try clear c61
             try clear c61b0
             try clear c86
             try clear c86b0
             try clear c86b1
             try clear hcz52_2 hcz52_3 hcz52_4 hcz52_5 hcz52_6 hcz52_7 hcz52_8 hcz52_9
             try clear hcz53_0 hcz53_1
             try clear hcz53_10 hcz53_11 hcz53_12 hcz53_13 hcz53_14 hcz53_15 hcz53_16
             try clear hcz53_2 hcz53_3 hcz53_4 hcz53_5 hcz53_6 hcz53_7 hcz53_8 hcz53_9
             try clear hcz63_0 hcz63_1
             try clear hcz63_10 hcz63_11 hcz63_12 hcz63_13 hcz63_14 hcz63_15 hcz63_16
             try clear hcz63_2 hcz63_3 hcz63_4 hcz63_5 hcz63_6 hcz63_7 hcz63_8 hcz63_9
             try clear hcz65_0 hcz65_1
             try clear hcz65_10 hcz65_11 hcz65_12 hcz65_13 hcz65_14 hcz65_15 hcz65_16
             try clear hcz65_2 hcz65_3 hcz65_4 hcz65_5 hcz65_6 hcz65_7 hcz65_8 hcz65_9
             try clear hcz67_0 hcz67_1
             try clear hcz67_10 hcz67_11 hcz67_12 hcz67_13 hcz67_14 hcz67_15 hcz67_16
             try clear hcz67_2 hcz67_3 hcz67_4 hcz67_5 hcz67_6 hcz67_7 hcz67_8 hcz67_9
             try clear hcz68_0 hcz68_1
             try clear hcz68_10 hcz68_11 hcz68_12 hcz68_13 hcz68_14 hcz68_15 hcz68_16
             try clear hcz68_2 hcz68_3 hcz68_4 hcz68_5 hcz68_6 hcz68_7 hcz68_8 hcz68_9
             try clear hcz70_0 hcz70_1
             try clear hcz70_10 hcz70_11 hcz70_12 hcz70_13 hcz70_14 hcz70_15 hcz70_16
             try clear hcz70_2 hcz70_3 hcz70_4 hcz70_5 hcz70_6 hcz70_7 hcz70_8 hcz70_9
             try clear hcz72_0 hcz72_1
             try clear hcz72_10 hcz72_11 hcz72_12 hcz72_13 hcz72_14 hcz72_15 hcz72_16
             try clear hcz72_2 hcz72_3 hcz72_4 hcz72_5 hcz72_6 hcz72_7 hcz72_8 hcz72_9
             try clear hcz73_0 hcz73_1
             try clear hcz73_10 hcz73_11 hcz73_12 hcz73_13 hcz73_14 hcz73_15 hcz73_16
             try clear hcz73_2 hcz73_3 hcz73_4 hcz73_5 hcz73_6 hcz73_7 hcz73_8 hcz73_9
             try clear hcz75_0 hcz75_1
             try clear hcz75_10 hcz75_11 hcz75_12 hcz75_13 hcz75_14 hcz75_15 hcz75_16
             try clear hcz75_2 hcz75_3 hcz75_4 hcz75_5 hcz75_6 hcz75_7 hcz75_8 hcz75_9
             try clear hcz77_0 hcz77_1
             try clear hcz77_10 hcz77_11 hcz77_12 hcz77_13 hcz77_14 hcz77_15 hcz77_16
             try clear hcz77_2 hcz77_3 hcz77_4 hcz77_5 hcz77_6 hcz77_7 hcz77_8 hcz77_9
             try clear hcz78_0 hcz78_1
             try clear hcz78_10 hcz78_11 hcz78_12 hcz78_13 hcz78_14 hcz78_15 hcz78_16
             try clear hcz78_2 hcz78_3 hcz78_4 hcz78_5 hcz78_6 hcz78_7 hcz78_8 hcz78_9
             try clear hcz80_0 hcz80_1
             try clear hcz80_10 hcz80_11 hcz80_12 hcz80_13 hcz80_14 hcz80_15 hcz80_16
             try clear hcz80_2 hcz80_3 hcz80_4 hcz80_5 hcz80_6 hcz80_7 hcz80_8 hcz80_9
             try clear hcz82_0 hcz82_1
             try clear hcz82_10 hcz82_11 hcz82_12 hcz82_13 hcz82_14 hcz82_15 hcz82_16
             try clear hcz82_2 hcz82_3 hcz82_4 hcz82_5 hcz82_6 hcz82_7 hcz82_8 hcz82_9
             try clear hcz85_0 hcz85_1
             try clear hcz85_10 hcz85_11 hcz85_12 hcz85_13 hcz85_14 hcz85_15 hcz85_16
             try clear hcz85_2 hcz85_3 hcz85_4 hcz85_5 hcz85_6 hcz85_7 hcz85_8 hcz85_9
             try clear hfz21_0 hfz21_1
             try clear hfz21_10 hfz21_11 hfz21_12 hfz21_13 hfz21_14 hfz21_15 hfz21_16
             try clear hfz21_2 hfz21_3 hfz21_4 hfz21_5 hfz21_6 hfz21_7 hfz21_8 hfz21_9
             try clear hfz22_0 hfz22_1
             try clear hfz22_10 hfz22_11 hfz22_12 hfz22_13 hfz22_14 hfz22_15 hfz22_16
             try clear hfz22_2 hfz22_3 hfz22_4 hfz22_5 hfz22_6 hfz22_7 hfz22_8 hfz22_9
             try clear hfz28_0 hfz28_1
             try clear hfz28_10 hfz28_11 hfz28_12 hfz28_13 hfz28_14 hfz28_15 hfz28_16
             try clear hfz28_2 hfz28_3 hfz28_4 hfz28_5 hfz28_6 hfz28_7 hfz28_8 hfz28_9
             try clear hfz32_0 hfz32_1
             try clear hfz32_10 hfz32_11 hfz32_12 hfz32_13 hfz32_14 hfz32_15 hfz32_16
             try clear hfz32_2 hfz32_3 hfz32_4 hfz32_5 hfz32_6 hfz32_7 hfz32_8 hfz32_9
             try clear hfz34_0 hfz34_1
             try clear hfz34_10 hfz34_11 hfz34_12 hfz34_13 hfz34_14 hfz34_15 hfz34_16
             try clear hfz34_2 hfz34_3 hfz34_4 hfz34_5 hfz34_6 hfz34_7 hfz34_8 hfz34_9
             try clear hfz36_0 hfz36_1
             try clear hfz36_10 hfz36_11 hfz36_12 hfz36_13 hfz36_14 hfz36_15 hfz36_16
             try clear hfz36_2 hfz36_3 hfz36_4 hfz36_5 hfz36_6 hfz36_7 hfz36_8 hfz36_9
             try clear hfz40_0 hfz40_1
             try clear hfz40_10 hfz40_11 hfz40_12 hfz40_13 hfz40_14 hfz40_15 hfz40_16
             try clear hfz40_2 hfz40_3 hfz40_4 hfz40_5 hfz40_6 hfz40_7 hfz40_8 hfz40_9
             try clear hfz44_0 hfz44_1
             try clear hfz44_10 hfz44_11 hfz44_12 hfz44_13 hfz44_14 hfz44_15 hfz44_16
             try clear hfz44_2 hfz44_3 hfz44_4 hfz44_5 hfz44_6 hfz44_7 hfz44_8 hfz44_9
             try clear hfz46_0 hfz46_1
             try clear hfz46_10 hfz46_11 hfz46_12 hfz46_13 hfz46_14 hfz46_15 hfz46_16
             try clear hfz46_2 hfz46_3 hfz46_4 hfz46_5 hfz46_6 hfz46_7 hfz46_8 hfz46_9
             try clear hfz48_0 hfz48_1
             try clear hfz48_10 hfz48_11 hfz48_12 hfz48_13 hfz48_14 hfz48_15 hfz48_16
             try clear hfz48_2 hfz48_3 hfz48_4 hfz48_5 hfz48_6 hfz48_7 hfz48_8 hfz48_9
             try clear hfz50_0 hfz50_1
             try clear hfz50_10 hfz50_11 hfz50_12 hfz50_13 hfz50_14 hfz50_15 hfz50_16
             try clear hfz50_2 hfz50_3 hfz50_4 hfz50_5 hfz50_6 hfz50_7 hfz50_8 hfz50_9
             try clear hfz51_0 hfz51_1
             try clear hfz51_10 hfz51_11 hfz51_12 hfz51_13 hfz51_14 hfz51_15 hfz51_16
             try clear hfz51_2 hfz51_3 hfz51_4 hfz51_5 hfz51_6 hfz51_7 hfz51_8 hfz51_9
             try clear hfz52_0 hfz52_1
             try clear hfz52_10 hfz52_11 hfz52_12 hfz52_13 hfz52_14 hfz52_15 hfz52_16
             try clear hfz52_2 hfz52_3 hfz52_4 hfz52_5 hfz52_6 hfz52_7 hfz52_8 hfz52_9
             try clear hfz53_0 hfz53_1
             try clear hfz53_10 hfz53_11 hfz53_12 hfz53_13 hfz53_14 hfz53_15 hfz53_16
             try clear hfz53_2 hfz53_3 hfz53_4 hfz53_5 hfz53_6 hfz53_7 hfz53_8 hfz53_9
             try clear hfz63_0 hfz63_1
             try clear hfz63_10 hfz63_11 hfz63_12 hfz63_13 hfz63_14 hfz63_15 hfz63_16
             try clear hfz63_2 hfz63_3 hfz63_4 hfz63_5 hfz63_6 hfz63_7 hfz63_8 hfz63_9
             try clear hfz65_0 hfz65_1
             try clear hfz65_10 hfz65_11 hfz65_12 hfz65_13 hfz65_14 hfz65_15 hfz65_16
             try clear hfz65_2 hfz65_3 hfz65_4 hfz65_5 hfz65_6 hfz65_7 hfz65_8 hfz65_9
             try clear hfz67_0 hfz67_1
             try clear hfz67_10 hfz67_11 hfz67_12 hfz67_13 hfz67_14 hfz67_15 hfz67_16
             try clear hfz67_2 hfz67_3 hfz67_4 hfz67_5 hfz67_6 hfz67_7 hfz67_8 hfz67_9
             try clear hfz68_0 hfz68_1
             try clear hfz68_10 hfz68_11 hfz68_12 hfz68_13 hfz68_14 hfz68_15 hfz68_16
             try clear hfz68_2 hfz68_3 hfz68_4 hfz68_5 hfz68_6 hfz68_7 hfz68_8 hfz68_9
             try clear hfz70_0 hfz70_1
             try clear hfz70_10 hfz70_11 hfz70_12 hfz70_13 hfz70_14 hfz70_15 hfz70_16
             try clear hfz70_2 hfz70_3 hfz70_4 hfz70_5 hfz70_6 hfz70_7 hfz70_8 hfz70_9
             try clear hfz72_0 hfz72_1
             try clear hfz72_10 hfz72_11 hfz72_12 hfz72_13 hfz72_14 hfz72_15 hfz72_16
             try clear hfz72_2 hfz72_3 hfz72_4 hfz72_5 hfz72_6 hfz72_7 hfz72_8 hfz72_9
             try clear hfz73_0 hfz73_1
             try clear hfz73_10 hfz73_11 hfz73_12 hfz73_13 hfz73_14 hfz73_15 hfz73_16
             try clear hfz73_2 hfz73_3 hfz73_4 hfz73_5 hfz73_6 hfz73_7 hfz73_8 hfz73_9
             try clear hfz75_0 hfz75_1
             try clear hfz75_10 hfz75_11 hfz75_12 hfz75_13 hfz75_14 hfz75_15 hfz75_16
             try clear hfz75_2 hfz75_3 hfz75_4 hfz75_5 hfz75_6 hfz75_7 hfz75_8 hfz75_9
             try clear hfz77_0 hfz77_1
             try clear hfz77_10 hfz77_11 hfz77_12 hfz77_13 hfz77_14 hfz77_15 hfz77_16
             try clear hfz77_2 hfz77_3 hfz77_4 hfz77_5 hfz77_6 hfz77_7 hfz77_8 hfz77_9
             try clear hfz78_0 hfz78_1
             try clear hfz78_10 hfz78_11 hfz78_12 hfz78_13 hfz78_14 hfz78_15 hfz78_16
             try clear hfz78_2 hfz78_3 hfz78_4 hfz78_5 hfz78_6 hfz78_7 hfz78_8 hfz78_9
             try clear hfz80_0 hfz80_1
             try clear hfz80_10 hfz80_11 hfz80_12 hfz80_13 hfz80_14 hfz80_15 hfz80_16
             try clear hfz80_2 hfz80_3 hfz80_4 hfz80_5 hfz80_6 hfz80_7 hfz80_8 hfz80_9
             try clear hfz82_0 hfz82_1
             try clear hfz82_10 hfz82_11 hfz82_12 hfz82_13 hfz82_14 hfz82_15 hfz82_16
             try clear hfz82_2 hfz82_3 hfz82_4 hfz82_5 hfz82_6 hfz82_7 hfz82_8 hfz82_9
             try clear hfz85_0 hfz85_1
             try clear hfz85_10 hfz85_11 hfz85_12 hfz85_13 hfz85_14 hfz85_15 hfz85_16
             try clear hfz85_2 hfz85_3 hfz85_4 hfz85_5 hfz85_6 hfz85_7 hfz85_8 hfz85_9
             obtain ⟨kq, x108_83, rfl, HA, HJ83, BK254, HB⟩ := hcut
             cases kq with
             | zero => exact absurd HA.out (by simp [spec_ModuleOk.j4])
             | succ kj83 =>
              have H := HA.out
              clear HA
              simp only [spec_ModuleOk.j4] at H
              by_cases c87 : x108_83 = true
              ·subst c87
               have H1 : ((spec_l10Twins.f kj83 a0_1 a0_2 a0_3 a0_4 a0_5 a0_6 a0_7 a0_8 a0_9 a0_10 a0_11 a0_12).bind fun t262 => (some t262)) = some r := by rw [if_pos rfl] at H; exact H
               clear H
               have H := H1
               clear H1
               replace H := Option.bind_eq_some_iff.mp H
               obtain ⟨t262, A880, H⟩ := H
               replace H : (some t262) = some r := H
               have A88 := Gv.a0 A880
               clear A880
               obtain rfl := Option.some.inj H
               obtain ⟨hcz89_0, hcz89_1, hcz89_2, hcz89_3, hcz89_4, hcz89_5, hcz89_6, hcz89_7, hcz89_8, hcz89_9, hcz89_10, hcz89_11, hcz89_12, hcz89_13, hcz89_14, hcz89_15, hcz89_16⟩ := Gv.c17 BK254.out
               obtain ⟨hfz89_0, hfz89_1, hfz89_2, hfz89_3, hfz89_4, hfz89_5, hfz89_6, hfz89_7, hfz89_8, hfz89_9, hfz89_10, hfz89_11, hfz89_12, hfz89_13, hfz89_14, hfz89_15, hfz89_16⟩ := Gv.f17 BK254.out
               go_wp2_with (first | ((with_reducible refine gate_callee (f := 31) rfl ?_); refine goesL_ (some 115) rfl rfl Try.func31 (by kernel_rfl) rfl #[.agg #[.int .i64 a0_1, .int .i64 a0_2, .int .i64 a0_3, .int .i64 a0_4, .int .i64 a0_5, .int .i64 a0_6], .agg #[.int .i64 a0_7, .int .i64 a0_8, .int .i64 a0_9, .int .i64 a0_10, .int .i64 a0_11, .int .i64 a0_12]] rfl Gv.lm ?_; (with_reducible refine (spec_l10Twins.calls kj83 a0_1 a0_2 a0_3 a0_4 a0_5 a0_6 a0_7 a0_8 a0_9 a0_10 a0_11 a0_12 t262 _ A88.out).mono ?_); rintro e w90 ⟨rfl, hb⟩; refine ⟨_, rfl, ?_⟩; have n0_ := Gv.a0 (Gv.bb BK254.out hb); have n1_ := Gv.a0 (below_step Gv.bw hb); clear BK254; clear HB; have BK254 := n0_; have HB := n1_; clear n0_ n1_; (try clear hb); (try clear hb2); (try clear hk); (try clear hi)) | ((with_reducible refine Gv.gate_load (t := 38) rfl ?_); (try (refine gate_guard (by rfl) ?_; dsimp only)); refine wpList_load_row rfl 38 _ rfl gb254 rfl 38 _ _ _ (by first | exact Gv.kb0 BK254.out | exact Gv.kb1 (Gv.kb0 BK254.out)) Try.underlying38 rfl (by kernel_rfl) ?_))
               go_ret
               exact ⟨Gv.rt, Gv.bw⟩
              ·replace c87 := Bool.eq_false_iff.mpr c87
               subst c87
               have H1 : (if a0_0 = 5 then ((spec_l05In.f a0_16 63).bind fun t263 => (some t263)) else (if a0_0 = 7 then (if a0_16 ≥ 1 then (some (decide (a0_16 ≤ 4))) else (some false)) else (some true))) = some r := by rw [if_neg (show ¬ (false = true) by decide)] at H; exact H
               clear H
               have H := H1
               clear H1
               by_cases c91 : a0_0 = 5
               ·rw [if_pos c91] at H
                have c91b0 : (a0_0 == 5) = true := beq_iff_eq.mpr c91
                have c91b1 : (a0_0 != 5) = false := bne_eq_false_iff_eq.mpr c91
                clear c91
                replace H := Option.bind_eq_some_iff.mp H
                obtain ⟨t263, A920, H⟩ := H
                replace H : (some t263) = some r := H
                have A92 := Gv.a0 A920
                clear A920
                obtain rfl := Option.some.inj H
                obtain ⟨hcz93_0, hcz93_1, hcz93_2, hcz93_3, hcz93_4, hcz93_5, hcz93_6, hcz93_7, hcz93_8, hcz93_9, hcz93_10, hcz93_11, hcz93_12, hcz93_13, hcz93_14, hcz93_15, hcz93_16⟩ := Gv.c17 BK254.out
                obtain ⟨hfz93_0, hfz93_1, hfz93_2, hfz93_3, hfz93_4, hfz93_5, hfz93_6, hfz93_7, hfz93_8, hfz93_9, hfz93_10, hfz93_11, hfz93_12, hfz93_13, hfz93_14, hfz93_15, hfz93_16⟩ := Gv.f17 BK254.out
                go_wp2_with (first | ((with_reducible refine gate_callee (f := 42) rfl ?_); refine goesL_ (some 120) rfl rfl Try.func42 (by kernel_rfl) rfl #[.int .i64 a0_16, .int .i64 63] rfl Gv.lm ?_; (with_reducible refine (spec_l05In.calls a0_16 63 t263 _ A92.out).mono ?_); rintro e w' ⟨rfl, ⟨nd, rfl⟩⟩; refine ⟨_, rfl, ?_⟩) | ((with_reducible refine Gv.gate_load (t := 38) rfl ?_); (try (refine gate_guard (by rfl) ?_; dsimp only)); refine wpList_load_row rfl 38 _ rfl gb254 rfl 38 _ _ _ (by first | exact Gv.kb0 BK254.out | exact Gv.kb1 (Gv.kb0 BK254.out)) Try.underlying38 rfl (by kernel_rfl) ?_))
                go_ret
                exact ⟨Gv.rt, Gv.bw⟩
               ·rw [if_neg c91] at H
                have c91b0 : (a0_0 == 5) = false := beq_eq_false_iff_ne.mpr c91
                have c91b1 : (a0_0 != 5) = true := bne_iff_ne.mpr c91
                by_cases c94 : a0_0 = 7
                ·rw [if_pos c94] at H
                 have c94b0 : (a0_0 == 7) = true := beq_iff_eq.mpr c94
                 have c94b1 : (a0_0 != 7) = false := bne_eq_false_iff_eq.mpr c94
                 clear c94
                 by_cases c95 : a0_16 ≥ 1
                 ·rw [if_pos c95] at H
                  have c95b0 : decide (1 ≤ a0_16) = true := decide_eq_true c95
                  clear c95
                  obtain rfl := Option.some.inj H
                  obtain ⟨hcz96_0, hcz96_1, hcz96_2, hcz96_3, hcz96_4, hcz96_5, hcz96_6, hcz96_7, hcz96_8, hcz96_9, hcz96_10, hcz96_11, hcz96_12, hcz96_13, hcz96_14, hcz96_15, hcz96_16⟩ := Gv.c17 BK254.out
                  obtain ⟨hfz96_0, hfz96_1, hfz96_2, hfz96_3, hfz96_4, hfz96_5, hfz96_6, hfz96_7, hfz96_8, hfz96_9, hfz96_10, hfz96_11, hfz96_12, hfz96_13, hfz96_14, hfz96_15, hfz96_16⟩ := Gv.f17 BK254.out
                  go_wp2_with (first | ((with_reducible refine Gv.gate_load (t := 38) rfl ?_); (try (refine gate_guard (by rfl) ?_; dsimp only)); refine wpList_load_row rfl 38 _ rfl gb254 rfl 38 _ _ _ (by first | exact Gv.kb0 BK254.out | exact Gv.kb1 (Gv.kb0 BK254.out)) Try.underlying38 rfl (by kernel_rfl) ?_))
                  go_ret
                  exact ⟨Gv.rt, Gv.bw⟩
                 ·rw [if_neg c95] at H
                  have c95b0 : decide (1 ≤ a0_16) = false := decide_eq_false c95
                  clear c95
                  obtain rfl := Option.some.inj H
                  obtain ⟨hcz97_0, hcz97_1, hcz97_2, hcz97_3, hcz97_4, hcz97_5, hcz97_6, hcz97_7, hcz97_8, hcz97_9, hcz97_10, hcz97_11, hcz97_12, hcz97_13, hcz97_14, hcz97_15, hcz97_16⟩ := Gv.c17 BK254.out
                  obtain ⟨hfz97_0, hfz97_1, hfz97_2, hfz97_3, hfz97_4, hfz97_5, hfz97_6, hfz97_7, hfz97_8, hfz97_9, hfz97_10, hfz97_11, hfz97_12, hfz97_13, hfz97_14, hfz97_15, hfz97_16⟩ := Gv.f17 BK254.out
                  go_wp2_with (first | ((with_reducible refine Gv.gate_load (t := 38) rfl ?_); (try (refine gate_guard (by rfl) ?_; dsimp only)); refine wpList_load_row rfl 38 _ rfl gb254 rfl 38 _ _ _ (by first | exact Gv.kb0 BK254.out | exact Gv.kb1 (Gv.kb0 BK254.out)) Try.underlying38 rfl (by kernel_rfl) ?_))
                  go_ret
                  exact ⟨Gv.rt, Gv.bw⟩
                ·rw [if_neg c94] at H
                 have c94b0 : (a0_0 == 7) = false := beq_eq_false_iff_ne.mpr c94
                 have c94b1 : (a0_0 != 7) = true := bne_iff_ne.mpr c94
                 obtain rfl := Option.some.inj H
                 go_wp2_with (first | ((with_reducible refine Gv.gate_load (t := 38) rfl ?_); (try (refine gate_guard (by rfl) ?_; dsimp only)); refine wpList_load_row rfl 38 _ rfl gb254 rfl 38 _ _ _ (by first | exact Gv.kb0 BK254.out | exact Gv.kb1 (Gv.kb0 BK254.out)) Try.underlying38 rfl (by kernel_rfl) ?_))
                 go_ret
                 exact ⟨Gv.rt, Gv.bw⟩

/-! ### spec_ChainOk: function 17 -/
def spec_ChainOk.l0 : Nat → List (S38) → Int → Option (Bool)
 | 0, _, _ => none
 | k + 1, x0, x3 => if x3 < (x0.length : Int) then (if 0 ≤ x3 then ((spec_ModuleOk.f k ((rd_T38 x0 x3).f0) ((rd_T38 x0 x3).f1.f0.f0) ((rd_T38 x0 x3).f1.f0.f1) ((rd_T38 x0 x3).f1.f0.f2) ((rd_T38 x0 x3).f1.f0.f3) ((rd_T38 x0 x3).f1.f0.f4) ((rd_T38 x0 x3).f1.f1) ((rd_T38 x0 x3).f2.f0.f0) ((rd_T38 x0 x3).f2.f0.f1) ((rd_T38 x0 x3).f2.f0.f2) ((rd_T38 x0 x3).f2.f0.f3) ((rd_T38 x0 x3).f2.f0.f4) ((rd_T38 x0 x3).f2.f1) ((rd_T38 x0 x3).f3) ((rd_T38 x0 x3).f4) ((rd_T38 x0 x3).f5) ((rd_T38 x0 x3).f6)).bind fun t265 => (if t265 = true then (spec_ChainOk.l0 k x0 (wrap64 (x3 + 1))) else (some false))) else (none)) else (some true)
def spec_ChainOk.f (k : Nat) (l0 : List (S38)) : Option (Bool) := if (l0.length : Int) > 8 then (some false) else (spec_ChainOk.l0 k l0 0)
theorem spec_ChainOk.mono_l : ∀ k, (∀ y0 y1, LeO (spec_ChainOk.l0 k y0 y1) (spec_ChainOk.l0 (k + 1) y0 y1))
 | 0 => fun _ _ r h => by simp [spec_ChainOk.l0] at h
 | k + 1 => by
  have ih0 := spec_ChainOk.mono_l k
  ·intro y0 y1
   unfold spec_ChainOk.l0
   repeat' first
   | (with_reducible exact ih0 _ _)
   | (with_reducible exact spec_ModuleOk.mono _ _ _ _ _ _ _ _ _ _ _ _ _ _ _ _ _ _)
   | (with_reducible exact LeO.refl _)
   | (with_reducible exact LeO.none _)
   | (with_reducible refine LeO.ite ?_ ?_)
   | (with_reducible refine LeO.bind ?_ (fun _ => ?_))
   | exact ih0 _ _
   | exact spec_ModuleOk.mono _ _ _ _ _ _ _ _ _ _ _ _ _ _ _ _ _ _
   | exact LeO.none _
   | refine LeO.ite ?_ ?_
   | refine LeO.bind ?_ (fun _ => ?_)
theorem spec_ChainOk.mono : ∀ a0 k, LeO (spec_ChainOk.f k a0) (spec_ChainOk.f (k + 1) a0) := by
 intro a0 k
 have ih0 := spec_ChainOk.mono_l k
 unfold spec_ChainOk.f
 repeat' first
   | (with_reducible exact ih0 _ _)
   | (with_reducible exact spec_ModuleOk.mono _ _ _ _ _ _ _ _ _ _ _ _ _ _ _ _ _ _)
   | (with_reducible exact LeO.refl _)
   | (with_reducible exact LeO.none _)
   | (with_reducible refine LeO.ite ?_ ?_)
   | (with_reducible refine LeO.bind ?_ (fun _ => ?_))
   | exact ih0 _ _
   | exact spec_ModuleOk.mono _ _ _ _ _ _ _ _ _ _ _ _ _ _ _ _ _ _
   | exact LeO.none _
   | refine LeO.ite ?_ ?_
   | refine LeO.bind ?_ (fun _ => ?_)
set_option maxHeartbeats 8000000 in
set_option maxRecDepth 100000 in
theorem spec_ChainOk.calls (k : Nat) (A0 : Option Addr) (c0 : Nat) (l0 : List (S38)) (r : Bool) (w : World) (hr0 : Kd.C k38 w A0 l0.length l0) (hc0 : l0.length ≤ c0) (h : spec_ChainOk.f k l0 = some r) :
  Calls Try.prog 17 #[.slice A0 l0.length c0] w fun e w' => e = .returned (.bool r) ∧ Below w.heap.size w w' := by
 have hu38 := Try.underlying38
 have HR0 := Gv.a0 hr0
 have HC0 := Gv.a0 hc0
 clear hr0 hc0
 have HB := Gv.a0 (Below.refl w.heap.size w)
 have H : (if (l0.length : Int) > 8 then (some false) else (spec_ChainOk.l0 k l0 0)) = some r := h
 clear h
 by_cases c2 : (l0.length : Int) > 8
 ·rw [if_pos c2] at H
  have c2b0 : decide (8 < (l0.length : Int)) = true := decide_eq_true c2
  have c2b1 : decide (8 < l0.length) = true := decide_eq_true (by omega)
  clear c2
  obtain rfl := Option.some.inj H
  go_enter Try.func17, Try.ntmps17
  go_wp2
  go_ret
  exact ⟨Gv.rt, Gv.bw⟩
 ·rw [if_neg c2] at H
  have c2b0 : decide (8 < (l0.length : Int)) = false := decide_eq_false c2
  have c2b1 : decide (8 < l0.length) = false := decide_eq_false (by omega)
  clear c2
  have H' := Gv.a0 H
  clear H
  go_enter Try.func17, Try.ntmps17
  go_wp2
  go_loopg [3] k (fun kq v3 w' => ∃ (x3_1 : Int), v3 = .int .i64 x3_1 ∧ Aside0 (spec_ChainOk.l0 kq l0 x3_1 = some r) ∧ Aside0 (kq ≤ k) ∧ Aside0 (Below w.heap.size w w'))
  case atStart => exact ⟨(0), Gv.rq, H', ⟨Nat.le_refl _⟩, ⟨Gv.bw⟩⟩
  case round =>
   clear H'
   try clear c1
   try clear c2
   try clear c2b0
   try clear c2b1
   try clear p2
   obtain ⟨x3_1, rfl, HA, HK1, HB⟩ := hrel
   cases gk with
   | zero => exact absurd HA.out (by simp [spec_ChainOk.l0])
   | succ k1 =>
    have H := HA.out
    clear HA
    simp only [spec_ChainOk.l0] at H
    by_cases c3 : x3_1 < (l0.length : Int)
    ·rw [if_pos c3] at H
     have c3b0 : decide (x3_1 < (l0.length : Int)) = true := decide_eq_true c3
     clear c3
     by_cases c4 : 0 ≤ x3_1
     ·rw [if_pos c4] at H
      have c4b0 : decide (0 ≤ x3_1) = true := decide_eq_true c4
      clear c4
      replace H := Option.bind_eq_some_iff.mp H
      obtain ⟨t265, A50, H⟩ := H
      replace H : (if t265 = true then (spec_ChainOk.l0 k1 l0 (wrap64 (x3_1 + 1))) else (some false)) = some r := H
      have A5 := Gv.a0 A50
      clear A50
      by_cases c6 : t265 = true
      ·subst c6
       have H1 : (spec_ChainOk.l0 k1 l0 (wrap64 (x3_1 + 1))) = some r := by rw [if_pos rfl] at H; exact H
       clear H
       have H := H1
       clear H1
       have H' := Gv.a0 H
       clear H
       have p264 : 0 ≤ (x3_1 : Int) := of_decide_eq_true (by first | (with_reducible assumption) | assumption)
       have q264 : x3_1 < (l0.length : Int) := of_decide_eq_true (by first | (with_reducible assumption) | assumption)
       obtain ⟨ad264, e264, hx264_0, hx264_1, hx264_2, hx264_3, hx264_4, hx264_5, hx264_6, hx264_7, hx264_8, hx264_9, hx264_10, hx264_11, hx264_12, hx264_13, hx264_14, hx264_15, hx264_16⟩ := at_T38 HR0.out x3_1 p264 q264
       cases e264
       replace hx264_0 := Gv.bx HB.out hx264_0
       replace hx264_1 := Gv.bx HB.out hx264_1
       replace hx264_2 := Gv.bx HB.out hx264_2
       replace hx264_3 := Gv.bx HB.out hx264_3
       replace hx264_4 := Gv.bx HB.out hx264_4
       replace hx264_5 := Gv.bx HB.out hx264_5
       replace hx264_6 := Gv.bx HB.out hx264_6
       replace hx264_7 := Gv.bx HB.out hx264_7
       replace hx264_8 := Gv.bx HB.out hx264_8
       replace hx264_9 := Gv.bx HB.out hx264_9
       replace hx264_10 := Gv.bx HB.out hx264_10
       replace hx264_11 := Gv.bx HB.out hx264_11
       replace hx264_12 := Gv.bx HB.out hx264_12
       replace hx264_13 := Gv.bx HB.out hx264_13
       replace hx264_14 := Gv.bx HB.out hx264_14
       replace hx264_15 := Gv.bx HB.out hx264_15
       replace hx264_16 := Gv.bx HB.out hx264_16
       replace p264 := eq_true p264
       replace q264 := eq_true q264
       go_wp2_with (first | ((with_reducible refine gate_callee (f := 13) rfl ?_); refine goesL_ (some 17) rfl rfl Try.func13 (by kernel_rfl) rfl #[.agg #[.int .i64 ((rd_T38 l0 x3_1).f0), .int .i64 ((rd_T38 l0 x3_1).f1.f0.f0), .int .i64 ((rd_T38 l0 x3_1).f1.f0.f1), .int .i64 ((rd_T38 l0 x3_1).f1.f0.f2), .int .i64 ((rd_T38 l0 x3_1).f1.f0.f3), .int .i64 ((rd_T38 l0 x3_1).f1.f0.f4), .int .i64 ((rd_T38 l0 x3_1).f1.f1), .int .i64 ((rd_T38 l0 x3_1).f2.f0.f0), .int .i64 ((rd_T38 l0 x3_1).f2.f0.f1), .int .i64 ((rd_T38 l0 x3_1).f2.f0.f2), .int .i64 ((rd_T38 l0 x3_1).f2.f0.f3), .int .i64 ((rd_T38 l0 x3_1).f2.f0.f4), .int .i64 ((rd_T38 l0 x3_1).f2.f1), .int .i64 ((rd_T38 l0 x3_1).f3), .int .i64 ((rd_T38 l0 x3_1).f4), .int .i64 ((rd_T38 l0 x3_1).f5), .int .i64 ((rd_T38 l0 x3_1).f6)]] rfl Gv.lm ?_; (with_reducible refine (spec_ModuleOk.calls k1 _ _ _ _ _ _ _ _ _ _ _ _ _ _ _ _ _ true _ A5.out).mono ?_); rintro e w7 ⟨rfl, hb⟩; refine ⟨_, rfl, ?_⟩; have n0_ := Gv.a0 (below_step Gv.bw hb); clear HB; have HB := n0_; clear n0_; (try clear hb); (try clear hb2); (try clear hk); (try clear hi)) | ((with_reducible refine Gv.gate_load (t := 38) rfl ?_); refine Gv.load_event (cs := [_, _, _, _, _, _, _, _, _, _, _, _, _, _, _, _, _]) rfl rfl rfl ⟨hx264_0, hx264_1, hx264_2, hx264_3, hx264_4, hx264_5, hx264_6, hx264_7, hx264_8, hx264_9, hx264_10, hx264_11, hx264_12, hx264_13, hx264_14, hx264_15, hx264_16, trivial⟩ Try.underlying38 rfl (by kernel_rfl) ?_))
       go_roundg k1
       case measure => have := HK1.out; omega
       case rel => exact ⟨(wrap64 (x3_1 + 1)), Gv.rq, H', ⟨by have := HK1.out; omega⟩, ⟨Gv.bw⟩⟩
      ·replace c6 := Bool.eq_false_iff.mpr c6
       subst c6
       have H1 : (some false) = some r := by rw [if_neg (show ¬ (false = true) by decide)] at H; exact H
       clear H
       have H := H1
       clear H1
       obtain rfl := Option.some.inj H
       have p264 : 0 ≤ (x3_1 : Int) := of_decide_eq_true (by first | (with_reducible assumption) | assumption)
       have q264 : x3_1 < (l0.length : Int) := of_decide_eq_true (by first | (with_reducible assumption) | assumption)
       obtain ⟨ad264, e264, hx264_0, hx264_1, hx264_2, hx264_3, hx264_4, hx264_5, hx264_6, hx264_7, hx264_8, hx264_9, hx264_10, hx264_11, hx264_12, hx264_13, hx264_14, hx264_15, hx264_16⟩ := at_T38 HR0.out x3_1 p264 q264
       cases e264
       replace hx264_0 := Gv.bx HB.out hx264_0
       replace hx264_1 := Gv.bx HB.out hx264_1
       replace hx264_2 := Gv.bx HB.out hx264_2
       replace hx264_3 := Gv.bx HB.out hx264_3
       replace hx264_4 := Gv.bx HB.out hx264_4
       replace hx264_5 := Gv.bx HB.out hx264_5
       replace hx264_6 := Gv.bx HB.out hx264_6
       replace hx264_7 := Gv.bx HB.out hx264_7
       replace hx264_8 := Gv.bx HB.out hx264_8
       replace hx264_9 := Gv.bx HB.out hx264_9
       replace hx264_10 := Gv.bx HB.out hx264_10
       replace hx264_11 := Gv.bx HB.out hx264_11
       replace hx264_12 := Gv.bx HB.out hx264_12
       replace hx264_13 := Gv.bx HB.out hx264_13
       replace hx264_14 := Gv.bx HB.out hx264_14
       replace hx264_15 := Gv.bx HB.out hx264_15
       replace hx264_16 := Gv.bx HB.out hx264_16
       replace p264 := eq_true p264
       replace q264 := eq_true q264
       go_wp2_with (first | ((with_reducible refine gate_callee (f := 13) rfl ?_); refine goesL_ (some 17) rfl rfl Try.func13 (by kernel_rfl) rfl #[.agg #[.int .i64 ((rd_T38 l0 x3_1).f0), .int .i64 ((rd_T38 l0 x3_1).f1.f0.f0), .int .i64 ((rd_T38 l0 x3_1).f1.f0.f1), .int .i64 ((rd_T38 l0 x3_1).f1.f0.f2), .int .i64 ((rd_T38 l0 x3_1).f1.f0.f3), .int .i64 ((rd_T38 l0 x3_1).f1.f0.f4), .int .i64 ((rd_T38 l0 x3_1).f1.f1), .int .i64 ((rd_T38 l0 x3_1).f2.f0.f0), .int .i64 ((rd_T38 l0 x3_1).f2.f0.f1), .int .i64 ((rd_T38 l0 x3_1).f2.f0.f2), .int .i64 ((rd_T38 l0 x3_1).f2.f0.f3), .int .i64 ((rd_T38 l0 x3_1).f2.f0.f4), .int .i64 ((rd_T38 l0 x3_1).f2.f1), .int .i64 ((rd_T38 l0 x3_1).f3), .int .i64 ((rd_T38 l0 x3_1).f4), .int .i64 ((rd_T38 l0 x3_1).f5), .int .i64 ((rd_T38 l0 x3_1).f6)]] rfl Gv.lm ?_; (with_reducible refine (spec_ModuleOk.calls k1 _ _ _ _ _ _ _ _ _ _ _ _ _ _ _ _ _ false _ A5.out).mono ?_); rintro e w8 ⟨rfl, hb⟩; refine ⟨_, rfl, ?_⟩; have n0_ := Gv.a0 (below_step Gv.bw hb); clear HB; have HB := n0_; clear n0_; (try clear hb); (try clear hb2); (try clear hk); (try clear hi)) | ((with_reducible refine Gv.gate_load (t := 38) rfl ?_); refine Gv.load_event (cs := [_, _, _, _, _, _, _, _, _, _, _, _, _, _, _, _, _]) rfl rfl rfl ⟨hx264_0, hx264_1, hx264_2, hx264_3, hx264_4, hx264_5, hx264_6, hx264_7, hx264_8, hx264_9, hx264_10, hx264_11, hx264_12, hx264_13, hx264_14, hx264_15, hx264_16, trivial⟩ Try.underlying38 rfl (by kernel_rfl) ?_))
       go_ret
       exact ⟨Gv.rt, Gv.bw⟩
     ·rw [if_neg c4] at H
      exact absurd H (by simp)
    ·rw [if_neg c3] at H
     have c3b0 : decide (x3_1 < (l0.length : Int)) = false := decide_eq_false c3
     clear c3
     obtain rfl := Option.some.inj H
     go_wp2
     go_ret
     exact ⟨Gv.rt, Gv.bw⟩

/-! ### spec_l13All: function 73 -/
def spec_l13All.f (a0_0 : Int) (a0_1 : Int) (a0_2 : Int) (a1 : Int) (a2 : Int) : Option (Bool) := if a0_0 ≥ a1 then (if a0_0 ≤ a2 then (if a0_1 ≥ a1 then (if a0_1 ≤ a2 then (if a0_2 ≥ a1 then (some (decide (a0_2 ≤ a2))) else (some false)) else (some false)) else (some false)) else (some false)) else (some false)
set_option maxHeartbeats 8000000 in
set_option maxRecDepth 100000 in
theorem spec_l13All.calls (a0_0 : Int) (a0_1 : Int) (a0_2 : Int) (a1 : Int) (a2 : Int) (r : Bool) (w : World) (h : spec_l13All.f a0_0 a0_1 a0_2 a1 a2 = some r) :
  Calls Try.prog 73 #[.agg #[.int .i64 a0_0, .int .i64 a0_1, .int .i64 a0_2], .int .i64 a1, .int .i64 a2] w fun e w' => e = .returned (.bool r) ∧ Below w.heap.size w w' := by
 have hu51 := Try.underlying51
 have HB := Gv.a0 (Below.refl w.heap.size w)
 have H : (if a0_0 ≥ a1 then (if a0_0 ≤ a2 then (if a0_1 ≥ a1 then (if a0_1 ≤ a2 then (if a0_2 ≥ a1 then (some (decide (a0_2 ≤ a2))) else (some false)) else (some false)) else (some false)) else (some false)) else (some false)) = some r := h
 clear h
 by_cases c4 : a0_0 ≥ a1
 ·rw [if_pos c4] at H
  have c4b0 : decide (a1 ≤ a0_0) = true := decide_eq_true c4
  clear c4
  by_cases c5 : a0_0 ≤ a2
  ·rw [if_pos c5] at H
   have c5b0 : decide (a0_0 ≤ a2) = true := decide_eq_true c5
   clear c5
   by_cases c6 : a0_1 ≥ a1
   ·rw [if_pos c6] at H
    have c6b0 : decide (a1 ≤ a0_1) = true := decide_eq_true c6
    clear c6
    by_cases c7 : a0_1 ≤ a2
    ·rw [if_pos c7] at H
     have c7b0 : decide (a0_1 ≤ a2) = true := decide_eq_true c7
     clear c7
     by_cases c8 : a0_2 ≥ a1
     ·rw [if_pos c8] at H
      have c8b0 : decide (a1 ≤ a0_2) = true := decide_eq_true c8
      clear c8
      obtain rfl := Option.some.inj H
      go_enter Try.func73, Try.ntmps73
      go_wp2_with (first | ((with_reducible refine gate_dst (N := 3) rfl ?_); refine box_event ?hg (N := 3) ?hd (cs := #[.int .i64 a0_0, .int .i64 a0_1, .int .i64 a0_2]) (t := 51) ?hr ?_; (case hd => rfl); (case hg => rfl); (case hr => first | (go_simp; done) | (go_simp; rfl)); intro gb266 hg w9 hbox hb; have n0_ := Gv.a0 (below_step Gv.bw hb); have n1_ := Gv.a0 (hbox); have n2_ := Gv.a0 ((Gv.ble hg Gv.bw : w.heap.size ≤ gb266)); have n3_ := Gv.a0 ((Gv.ble hg Gv.bw : w.heap.size ≤ gb266)); clear HB; have HB := n0_; have BK266 := n1_; have GW266 := n2_; have GE266 := n3_; clear n0_ n1_ n2_ n3_; clear hb hbox hg; have hcz10_0 : w9.cell? ⟨gb266, 0, none⟩ = some (.int .i64 a0_0) := (blk_cell BK266.out 0).trans rfl; have hcz10_1 : w9.cell? ⟨gb266, 1, none⟩ = some (.int .i64 a0_1) := (blk_cell BK266.out 1).trans rfl; have hcz10_2 : w9.cell? ⟨gb266, 2, none⟩ = some (.int .i64 a0_2) := (blk_cell BK266.out 2).trans rfl; have hfz10_0 := blk_frozen BK266.out 0; have hfz10_1 := blk_frozen BK266.out 1; have hfz10_2 := blk_frozen BK266.out 2))
      go_ret
      exact ⟨Gv.rt, Gv.bw⟩
     ·rw [if_neg c8] at H
      have c8b0 : decide (a1 ≤ a0_2) = false := decide_eq_false c8
      clear c8
      obtain rfl := Option.some.inj H
      go_enter Try.func73, Try.ntmps73
      go_wp2_with (first | ((with_reducible refine gate_dst (N := 3) rfl ?_); refine box_event ?hg (N := 3) ?hd (cs := #[.int .i64 a0_0, .int .i64 a0_1, .int .i64 a0_2]) (t := 51) ?hr ?_; (case hd => rfl); (case hg => rfl); (case hr => first | (go_simp; done) | (go_simp; rfl)); intro gb266 hg w11 hbox hb; have n0_ := Gv.a0 (below_step Gv.bw hb); have n1_ := Gv.a0 (hbox); have n2_ := Gv.a0 ((Gv.ble hg Gv.bw : w.heap.size ≤ gb266)); have n3_ := Gv.a0 ((Gv.ble hg Gv.bw : w.heap.size ≤ gb266)); clear HB; have HB := n0_; have BK266 := n1_; have GW266 := n2_; have GE266 := n3_; clear n0_ n1_ n2_ n3_; clear hb hbox hg; have hcz12_0 : w11.cell? ⟨gb266, 0, none⟩ = some (.int .i64 a0_0) := (blk_cell BK266.out 0).trans rfl; have hcz12_1 : w11.cell? ⟨gb266, 1, none⟩ = some (.int .i64 a0_1) := (blk_cell BK266.out 1).trans rfl; have hcz12_2 : w11.cell? ⟨gb266, 2, none⟩ = some (.int .i64 a0_2) := (blk_cell BK266.out 2).trans rfl; have hfz12_0 := blk_frozen BK266.out 0; have hfz12_1 := blk_frozen BK266.out 1; have hfz12_2 := blk_frozen BK266.out 2))
      go_ret
      exact ⟨Gv.rt, Gv.bw⟩
    ·rw [if_neg c7] at H
     have c7b0 : decide (a0_1 ≤ a2) = false := decide_eq_false c7
     clear c7
     obtain rfl := Option.some.inj H
     go_enter Try.func73, Try.ntmps73
     go_wp2_with (first | ((with_reducible refine gate_dst (N := 3) rfl ?_); refine box_event ?hg (N := 3) ?hd (cs := #[.int .i64 a0_0, .int .i64 a0_1, .int .i64 a0_2]) (t := 51) ?hr ?_; (case hd => rfl); (case hg => rfl); (case hr => first | (go_simp; done) | (go_simp; rfl)); intro gb266 hg w13 hbox hb; have n0_ := Gv.a0 (below_step Gv.bw hb); have n1_ := Gv.a0 (hbox); have n2_ := Gv.a0 ((Gv.ble hg Gv.bw : w.heap.size ≤ gb266)); have n3_ := Gv.a0 ((Gv.ble hg Gv.bw : w.heap.size ≤ gb266)); clear HB; have HB := n0_; have BK266 := n1_; have GW266 := n2_; have GE266 := n3_; clear n0_ n1_ n2_ n3_; clear hb hbox hg; have hcz14_0 : w13.cell? ⟨gb266, 0, none⟩ = some (.int .i64 a0_0) := (blk_cell BK266.out 0).trans rfl; have hcz14_1 : w13.cell? ⟨gb266, 1, none⟩ = some (.int .i64 a0_1) := (blk_cell BK266.out 1).trans rfl; have hcz14_2 : w13.cell? ⟨gb266, 2, none⟩ = some (.int .i64 a0_2) := (blk_cell BK266.out 2).trans rfl; have hfz14_0 := blk_frozen BK266.out 0; have hfz14_1 := blk_frozen BK266.out 1; have hfz14_2 := blk_frozen BK266.out 2))
     go_ret
     exact ⟨Gv.rt, Gv.bw⟩
   ·rw [if_neg c6] at H
    have c6b0 : decide (a1 ≤ a0_1) = false := decide_eq_false c6
    clear c6
    obtain rfl := Option.some.inj H
    go_enter Try.func73, Try.ntmps73
    go_wp2_with (first | ((with_reducible refine gate_dst (N := 3) rfl ?_); refine box_event ?hg (N := 3) ?hd (cs := #[.int .i64 a0_0, .int .i64 a0_1, .int .i64 a0_2]) (t := 51) ?hr ?_; (case hd => rfl); (case hg => rfl); (case hr => first | (go_simp; done) | (go_simp; rfl)); intro gb266 hg w15 hbox hb; have n0_ := Gv.a0 (below_step Gv.bw hb); have n1_ := Gv.a0 (hbox); have n2_ := Gv.a0 ((Gv.ble hg Gv.bw : w.heap.size ≤ gb266)); have n3_ := Gv.a0 ((Gv.ble hg Gv.bw : w.heap.size ≤ gb266)); clear HB; have HB := n0_; have BK266 := n1_; have GW266 := n2_; have GE266 := n3_; clear n0_ n1_ n2_ n3_; clear hb hbox hg; have hcz16_0 : w15.cell? ⟨gb266, 0, none⟩ = some (.int .i64 a0_0) := (blk_cell BK266.out 0).trans rfl; have hcz16_1 : w15.cell? ⟨gb266, 1, none⟩ = some (.int .i64 a0_1) := (blk_cell BK266.out 1).trans rfl; have hcz16_2 : w15.cell? ⟨gb266, 2, none⟩ = some (.int .i64 a0_2) := (blk_cell BK266.out 2).trans rfl; have hfz16_0 := blk_frozen BK266.out 0; have hfz16_1 := blk_frozen BK266.out 1; have hfz16_2 := blk_frozen BK266.out 2))
    go_ret
    exact ⟨Gv.rt, Gv.bw⟩
  ·rw [if_neg c5] at H
   have c5b0 : decide (a0_0 ≤ a2) = false := decide_eq_false c5
   clear c5
   obtain rfl := Option.some.inj H
   go_enter Try.func73, Try.ntmps73
   go_wp2_with (first | ((with_reducible refine gate_dst (N := 3) rfl ?_); refine box_event ?hg (N := 3) ?hd (cs := #[.int .i64 a0_0, .int .i64 a0_1, .int .i64 a0_2]) (t := 51) ?hr ?_; (case hd => rfl); (case hg => rfl); (case hr => first | (go_simp; done) | (go_simp; rfl)); intro gb266 hg w17 hbox hb; have n0_ := Gv.a0 (below_step Gv.bw hb); have n1_ := Gv.a0 (hbox); have n2_ := Gv.a0 ((Gv.ble hg Gv.bw : w.heap.size ≤ gb266)); have n3_ := Gv.a0 ((Gv.ble hg Gv.bw : w.heap.size ≤ gb266)); clear HB; have HB := n0_; have BK266 := n1_; have GW266 := n2_; have GE266 := n3_; clear n0_ n1_ n2_ n3_; clear hb hbox hg; have hcz18_0 : w17.cell? ⟨gb266, 0, none⟩ = some (.int .i64 a0_0) := (blk_cell BK266.out 0).trans rfl; have hcz18_1 : w17.cell? ⟨gb266, 1, none⟩ = some (.int .i64 a0_1) := (blk_cell BK266.out 1).trans rfl; have hcz18_2 : w17.cell? ⟨gb266, 2, none⟩ = some (.int .i64 a0_2) := (blk_cell BK266.out 2).trans rfl; have hfz18_0 := blk_frozen BK266.out 0; have hfz18_1 := blk_frozen BK266.out 1; have hfz18_2 := blk_frozen BK266.out 2))
   go_ret
   exact ⟨Gv.rt, Gv.bw⟩
 ·rw [if_neg c4] at H
  have c4b0 : decide (a1 ≤ a0_0) = false := decide_eq_false c4
  clear c4
  obtain rfl := Option.some.inj H
  go_enter Try.func73, Try.ntmps73
  go_wp2_with (first | ((with_reducible refine gate_dst (N := 3) rfl ?_); refine box_event ?hg (N := 3) ?hd (cs := #[.int .i64 a0_0, .int .i64 a0_1, .int .i64 a0_2]) (t := 51) ?hr ?_; (case hd => rfl); (case hg => rfl); (case hr => first | (go_simp; done) | (go_simp; rfl)); intro gb266 hg w19 hbox hb; have n0_ := Gv.a0 (below_step Gv.bw hb); have n1_ := Gv.a0 (hbox); have n2_ := Gv.a0 ((Gv.ble hg Gv.bw : w.heap.size ≤ gb266)); have n3_ := Gv.a0 ((Gv.ble hg Gv.bw : w.heap.size ≤ gb266)); clear HB; have HB := n0_; have BK266 := n1_; have GW266 := n2_; have GE266 := n3_; clear n0_ n1_ n2_ n3_; clear hb hbox hg; have hcz20_0 : w19.cell? ⟨gb266, 0, none⟩ = some (.int .i64 a0_0) := (blk_cell BK266.out 0).trans rfl; have hcz20_1 : w19.cell? ⟨gb266, 1, none⟩ = some (.int .i64 a0_1) := (blk_cell BK266.out 1).trans rfl; have hcz20_2 : w19.cell? ⟨gb266, 2, none⟩ = some (.int .i64 a0_2) := (blk_cell BK266.out 2).trans rfl; have hfz20_0 := blk_frozen BK266.out 0; have hfz20_1 := blk_frozen BK266.out 1; have hfz20_2 := blk_frozen BK266.out 2))
  go_ret
  exact ⟨Gv.rt, Gv.bw⟩

/-! ### spec_ProfOk: function 49 -/
def spec_ProfOk.f (a0_0 : Int) (a0_1 : Int) (a0_2 : Int) (a0_3 : Int) (a0_4 : Int) (a0_5 : Int) : Option (Bool) := (spec_l13All.f a0_0 a0_1 a0_2 0 1000).bind fun t268 => (if t268 = true then ((spec_l13All.f a0_3 a0_4 a0_5 0 1000).bind fun t269 => (some t269)) else (some false))
set_option maxHeartbeats 8000000 in
set_option maxRecDepth 100000 in
theorem spec_ProfOk.calls (a0_0 : Int) (a0_1 : Int) (a0_2 : Int) (a0_3 : Int) (a0_4 : Int) (a0_5 : Int) (r : Bool) (w : World) (h : spec_ProfOk.f a0_0 a0_1 a0_2 a0_3 a0_4 a0_5 = some r) :
  Calls Try.prog 49 #[.agg #[.int .i64 a0_0, .int .i64 a0_1, .int .i64 a0_2, .int .i64 a0_3, .int .i64 a0_4, .int .i64 a0_5]] w fun e w' => e = .returned (.bool r) ∧ Below w.heap.size w w' := by
 have hu75 := Try.underlying75
 have hu51 := Try.underlying51
 have HB := Gv.a0 (Below.refl w.heap.size w)
 have H : ((spec_l13All.f a0_0 a0_1 a0_2 0 1000).bind fun t268 => (if t268 = true then ((spec_l13All.f a0_3 a0_4 a0_5 0 1000).bind fun t269 => (some t269)) else (some false))) = some r := h
 clear h
 replace H := Option.bind_eq_some_iff.mp H
 obtain ⟨t268, A20, H⟩ := H
 replace H : (if t268 = true then ((spec_l13All.f a0_3 a0_4 a0_5 0 1000).bind fun t269 => (some t269)) else (some false)) = some r := H
 have A2 := Gv.a0 A20
 clear A20
 by_cases c3 : t268 = true
 ·subst c3
  have H1 : ((spec_l13All.f a0_3 a0_4 a0_5 0 1000).bind fun t269 => (some t269)) = some r := by rw [if_pos rfl] at H; exact H
  clear H
  have H := H1
  clear H1
  replace H := Option.bind_eq_some_iff.mp H
  obtain ⟨t269, A40, H⟩ := H
  replace H : (some t269) = some r := H
  have A4 := Gv.a0 A40
  clear A40
  obtain rfl := Option.some.inj H
  go_enter Try.func49, Try.ntmps49
  go_wp2_with (first | ((with_reducible refine gate_dst (N := 1) rfl ?_); refine box_event ?hg (N := 1) ?hd (cs := #[.int .i64 a0_0, .int .i64 a0_1, .int .i64 a0_2, .int .i64 a0_3, .int .i64 a0_4, .int .i64 a0_5]) (t := 75) ?hr ?_; (case hd => rfl); (case hg => rfl); (case hr => first | (go_simp; done) | (go_simp; rfl)); intro gb267 hg w5 hbox hb; have n0_ := Gv.a0 (below_step Gv.bw hb); have n1_ := Gv.a0 (hbox); have n2_ := Gv.a0 ((Gv.ble hg Gv.bw : w.heap.size ≤ gb267)); have n3_ := Gv.a0 ((Gv.ble hg Gv.bw : w.heap.size ≤ gb267)); clear HB; have HB := n0_; have BK267 := n1_; have GW267 := n2_; have GE267 := n3_; clear n0_ n1_ n2_ n3_; clear hb hbox hg; obtain ⟨hcz6_0, hcz6_1, hcz6_2, hcz6_3, hcz6_4, hcz6_5⟩ := Gv.c6 BK267.out; obtain ⟨hfz6_0, hfz6_1, hfz6_2, hfz6_3, hfz6_4, hfz6_5⟩ := Gv.f6 BK267.out) | ((with_reducible refine gate_callee (f := 73) rfl ?_); refine goesL_ (some 5) rfl rfl Try.func73 (by kernel_rfl) rfl #[.agg #[.int .i64 a0_0, .int .i64 a0_1, .int .i64 a0_2], .int .i64 0, .int .i64 1000] rfl Gv.lm ?_; (with_reducible refine (spec_l13All.calls a0_0 a0_1 a0_2 0 1000 true _ A2.out).mono ?_); rintro e w7 ⟨rfl, hb⟩; refine ⟨_, rfl, ?_⟩; have n0_ := Gv.a0 (Gv.bb BK267.out hb); have n1_ := Gv.a0 (below_step Gv.bw hb); clear BK267; clear HB; have BK267 := n0_; have HB := n1_; clear n0_ n1_; (try clear hb); (try clear hb2); (try clear hk); (try clear hi); obtain ⟨hcz8_0, hcz8_1, hcz8_2, hcz8_3, hcz8_4, hcz8_5⟩ := Gv.c6 BK267.out; obtain ⟨hfz8_0, hfz8_1, hfz8_2, hfz8_3, hfz8_4, hfz8_5⟩ := Gv.f6 BK267.out) | (go_at_call 73; (with_reducible refine (spec_l13All.calls a0_3 a0_4 a0_5 0 1000 t269 _ A4.out).mono ?_); rintro e w9 ⟨rfl, hb⟩; have n0_ := Gv.a0 (Gv.bb BK267.out hb); have n1_ := Gv.a0 (below_step Gv.bw hb); clear BK267; clear HB; have BK267 := n0_; have HB := n1_; clear n0_ n1_; (try clear hb); (try clear hb2); (try clear hk); (try clear hi)))
  go_ret
  exact ⟨Gv.rt, Gv.bw⟩
 ·replace c3 := Bool.eq_false_iff.mpr c3
  subst c3
  have H1 : (some false) = some r := by rw [if_neg (show ¬ (false = true) by decide)] at H; exact H
  clear H
  have H := H1
  clear H1
  obtain rfl := Option.some.inj H
  go_enter Try.func49, Try.ntmps49
  go_wp2_with (first | ((with_reducible refine gate_dst (N := 1) rfl ?_); refine box_event ?hg (N := 1) ?hd (cs := #[.int .i64 a0_0, .int .i64 a0_1, .int .i64 a0_2, .int .i64 a0_3, .int .i64 a0_4, .int .i64 a0_5]) (t := 75) ?hr ?_; (case hd => rfl); (case hg => rfl); (case hr => first | (go_simp; done) | (go_simp; rfl)); intro gb267 hg w10 hbox hb; have n0_ := Gv.a0 (below_step Gv.bw hb); have n1_ := Gv.a0 (hbox); have n2_ := Gv.a0 ((Gv.ble hg Gv.bw : w.heap.size ≤ gb267)); have n3_ := Gv.a0 ((Gv.ble hg Gv.bw : w.heap.size ≤ gb267)); clear HB; have HB := n0_; have BK267 := n1_; have GW267 := n2_; have GE267 := n3_; clear n0_ n1_ n2_ n3_; clear hb hbox hg; obtain ⟨hcz11_0, hcz11_1, hcz11_2, hcz11_3, hcz11_4, hcz11_5⟩ := Gv.c6 BK267.out; obtain ⟨hfz11_0, hfz11_1, hfz11_2, hfz11_3, hfz11_4, hfz11_5⟩ := Gv.f6 BK267.out) | ((with_reducible refine gate_callee (f := 73) rfl ?_); refine goesL_ (some 5) rfl rfl Try.func73 (by kernel_rfl) rfl #[.agg #[.int .i64 a0_0, .int .i64 a0_1, .int .i64 a0_2], .int .i64 0, .int .i64 1000] rfl Gv.lm ?_; (with_reducible refine (spec_l13All.calls a0_0 a0_1 a0_2 0 1000 false _ A2.out).mono ?_); rintro e w12 ⟨rfl, hb⟩; refine ⟨_, rfl, ?_⟩; have n0_ := Gv.a0 (Gv.bb BK267.out hb); have n1_ := Gv.a0 (below_step Gv.bw hb); clear BK267; clear HB; have BK267 := n0_; have HB := n1_; clear n0_ n1_; (try clear hb); (try clear hb2); (try clear hk); (try clear hi)))
  go_ret
  exact ⟨Gv.rt, Gv.bw⟩

/-! ### spec_ProfCost: function 50 -/
def spec_ProfCost.f (a0_0 : Int) (a0_1 : Int) (a0_2 : Int) (a0_3 : Int) (a0_4 : Int) (a0_5 : Int) (a1 : Int) : Option (Int × Int × Int) := (spec_ProfOk.f a0_0 a0_1 a0_2 a0_3 a0_4 a0_5).bind fun t272 => (if t272 = true then (if a1 < 0 then (some (0, 0, 0)) else (if a1 > 1600 then (some (0, 0, 0)) else (some (wrap64 (a0_0 + (wrap64 (Int.tdiv (wrap64 (a0_3 * a1)) 64))), wrap64 (a0_1 + (wrap64 (Int.tdiv (wrap64 (a0_4 * a1)) 64))), wrap64 (a0_2 + (wrap64 (Int.tdiv (wrap64 (a0_5 * a1)) 64))))))) else (some (0, 0, 0)))
set_option maxHeartbeats 8000000 in
set_option maxRecDepth 100000 in
theorem spec_ProfCost.calls (a0_0 : Int) (a0_1 : Int) (a0_2 : Int) (a0_3 : Int) (a0_4 : Int) (a0_5 : Int) (a1 : Int) (r1 : Int) (r2 : Int) (r3 : Int) (w : World) (h : spec_ProfCost.f a0_0 a0_1 a0_2 a0_3 a0_4 a0_5 a1 = some (r1, r2, r3)) :
  Calls Try.prog 50 #[.agg #[.int .i64 a0_0, .int .i64 a0_1, .int .i64 a0_2, .int .i64 a0_3, .int .i64 a0_4, .int .i64 a0_5], .int .i64 a1] w fun e w' => e = .returned (.agg #[.int .i64 r1, .int .i64 r2, .int .i64 r3]) ∧ Below w.heap.size w w' := by
 have hu75 := Try.underlying75
 have hu51 := Try.underlying51
 have HB := Gv.a0 (Below.refl w.heap.size w)
 have H : ((spec_ProfOk.f a0_0 a0_1 a0_2 a0_3 a0_4 a0_5).bind fun t272 => (if t272 = true then (if a1 < 0 then (some (0, 0, 0)) else (if a1 > 1600 then (some (0, 0, 0)) else (some (wrap64 (a0_0 + (wrap64 (Int.tdiv (wrap64 (a0_3 * a1)) 64))), wrap64 (a0_1 + (wrap64 (Int.tdiv (wrap64 (a0_4 * a1)) 64))), wrap64 (a0_2 + (wrap64 (Int.tdiv (wrap64 (a0_5 * a1)) 64))))))) else (some (0, 0, 0)))) = some (r1, r2, r3) := h
 clear h
 replace H := Option.bind_eq_some_iff.mp H
 obtain ⟨t272, A30, H⟩ := H
 replace H : (if t272 = true then (if a1 < 0 then (some (0, 0, 0)) else (if a1 > 1600 then (some (0, 0, 0)) else (some (wrap64 (a0_0 + (wrap64 (Int.tdiv (wrap64 (a0_3 * a1)) 64))), wrap64 (a0_1 + (wrap64 (Int.tdiv (wrap64 (a0_4 * a1)) 64))), wrap64 (a0_2 + (wrap64 (Int.tdiv (wrap64 (a0_5 * a1)) 64))))))) else (some (0, 0, 0))) = some (r1, r2, r3) := H
 have A3 := Gv.a0 A30
 clear A30
 by_cases c4 : t272 = true
 ·subst c4
  have H1 : (if a1 < 0 then (some (0, 0, 0)) else (if a1 > 1600 then (some (0, 0, 0)) else (some (wrap64 (a0_0 + (wrap64 (Int.tdiv (wrap64 (a0_3 * a1)) 64))), wrap64 (a0_1 + (wrap64 (Int.tdiv (wrap64 (a0_4 * a1)) 64))), wrap64 (a0_2 + (wrap64 (Int.tdiv (wrap64 (a0_5 * a1)) 64))))))) = some (r1, r2, r3) := by rw [if_pos rfl] at H; exact H
  clear H
  have H := H1
  clear H1
  by_cases c5 : a1 < 0
  ·rw [if_pos c5] at H
   have c5b0 : decide (a1 < 0) = true := decide_eq_true c5
   clear c5
   simp only [Option.some.injEq, Prod.mk.injEq] at H
   obtain ⟨rfl, rfl, rfl⟩ := H
   go_enter Try.func50, Try.ntmps50
   go_wp2_with (first | ((with_reducible refine gate_dst (N := 2) rfl ?_); refine box_event ?hg (N := 2) ?hd (cs := #[.int .i64 a0_0, .int .i64 a0_1, .int .i64 a0_2, .int .i64 a0_3, .int .i64 a0_4, .int .i64 a0_5]) (t := 75) ?hr ?_; (case hd => rfl); (case hg => rfl); (case hr => first | (go_simp; done) | (go_simp; rfl)); intro gb270 hg w6 hbox hb; have n0_ := Gv.a0 (below_step Gv.bw hb); have n1_ := Gv.a0 (hbox); have n2_ := Gv.a0 ((Gv.ble hg Gv.bw : w.heap.size ≤ gb270)); have n3_ := Gv.a0 ((Gv.ble hg Gv.bw : w.heap.size ≤ gb270)); clear HB; have HB := n0_; have BK270 := n1_; have GW270 := n2_; have GE270 := n3_; clear n0_ n1_ n2_ n3_; clear hb hbox hg) | ((with_reducible refine gate_dst (N := 4) rfl ?_); refine box_event ?hg (N := 4) ?hd (cs := #[.int .i64 0, .int .i64 0, .int .i64 0]) (t := 51) ?hr ?_; (case hd => rfl); (case hg => rfl); (case hr => first | (go_simp; done) | (go_simp; rfl)); intro gb271 hg w7 hbox hb; have n0_ := Gv.a0 (Gv.bb BK270.out hb); have n1_ := Gv.a0 (below_step Gv.bw hb); have n2_ := Gv.a0 (hbox); have n3_ := Gv.a0 ((Gv.ble hg Gv.bw : w.heap.size ≤ gb271)); have n4_ := Gv.a0 ((Gv.ble hg Gv.bw : w.heap.size ≤ gb271)); have n5_ := Gv.a0 ((Gv.nlt hg (Gv.kb BK270.out) : gb270 ≠ gb271)); have n6_ := Gv.a0 ((Gv.ngt hg (Gv.kb BK270.out) : gb271 ≠ gb270)); clear BK270; clear HB; have BK270 := n0_; have HB := n1_; have BK271 := n2_; have GW271 := n3_; have GE271 := n4_; have NB270_271 := n5_; have NB271_270 := n6_; clear n0_ n1_ n2_ n3_ n4_ n5_ n6_; clear hb hbox hg; have hnb8 := NB270_271.out; have hnc8 := NB271_270.out; obtain ⟨hcz9_0, hcz9_1, hcz9_2, hcz9_3, hcz9_4, hcz9_5⟩ := Gv.c6 BK270.out; obtain ⟨hfz9_0, hfz9_1, hfz9_2, hfz9_3, hfz9_4, hfz9_5⟩ := Gv.f6 BK270.out) | ((with_reducible refine gate_callee (f := 49) rfl ?_); refine goesL_ (some 6) rfl rfl Try.func49 (by kernel_rfl) rfl #[.agg #[.int .i64 a0_0, .int .i64 a0_1, .int .i64 a0_2, .int .i64 a0_3, .int .i64 a0_4, .int .i64 a0_5]] rfl Gv.lm ?_; (with_reducible refine (spec_ProfOk.calls a0_0 a0_1 a0_2 a0_3 a0_4 a0_5 true _ A3.out).mono ?_); rintro e w10 ⟨rfl, hb⟩; refine ⟨_, rfl, ?_⟩; have n0_ := Gv.a0 (Gv.bb BK270.out hb); have n1_ := Gv.a0 (Gv.bb BK271.out hb); have n2_ := Gv.a0 (below_step Gv.bw hb); clear BK270; clear BK271; clear HB; have BK270 := n0_; have BK271 := n1_; have HB := n2_; clear n0_ n1_ n2_; (try clear hb); (try clear hb2); (try clear hk); (try clear hi); have hcz11_0 : w10.cell? ⟨gb271, 0, none⟩ = some (.int .i64 0) := (blk_cell BK271.out 0).trans rfl; have hcz11_1 : w10.cell? ⟨gb271, 1, none⟩ = some (.int .i64 0) := (blk_cell BK271.out 1).trans rfl; have hcz11_2 : w10.cell? ⟨gb271, 2, none⟩ = some (.int .i64 0) := (blk_cell BK271.out 2).trans rfl; have hfz11_0 := blk_frozen BK271.out 0; have hfz11_1 := blk_frozen BK271.out 1; have hfz11_2 := blk_frozen BK271.out 2))
   refine bodyPost_ret (results_cell_row rfl _ _ gb271 51 #[.int .i64 0, .int .i64 0, .int .i64 0] (0, 0) _ rfl (by (with_reducible repeat (first | refine blk_drewN ?_ _ | refine blk_drew ?_ | refine blk_alloc ?_ _)); refine blk_put (cs := #[.int .i64 0, .int .i64 0, .int .i64 0]) ?_ 2 _ rfl; (with_reducible repeat (first | refine blk_drewN ?_ _ | refine blk_drew ?_ | refine blk_alloc ?_ _)); refine blk_put (cs := #[.int .i64 0, .int .i64 0, .int .i64 0]) ?_ 1 _ rfl; (with_reducible repeat (first | refine blk_drewN ?_ _ | refine blk_drew ?_ | refine blk_alloc ?_ _)); refine blk_put (cs := #[.int .i64 0, .int .i64 0, .int .i64 0]) ?_ 0 _ rfl; (with_reducible repeat (first | refine blk_drewN ?_ _ | refine blk_drew ?_ | refine blk_alloc ?_ _)); exact BK271.out) Try.underlying51 rfl (by kernel_rfl)) rfl ?_
   exact ⟨Gv.rt, Gv.bw⟩
  ·rw [if_neg c5] at H
   have c5b0 : decide (a1 < 0) = false := decide_eq_false c5
   clear c5
   by_cases c12 : a1 > 1600
   ·rw [if_pos c12] at H
    have c12b0 : decide (1600 < a1) = true := decide_eq_true c12
    clear c12
    simp only [Option.some.injEq, Prod.mk.injEq] at H
    obtain ⟨rfl, rfl, rfl⟩ := H
    go_enter Try.func50, Try.ntmps50
    go_wp2_with (first | ((with_reducible refine gate_dst (N := 2) rfl ?_); refine box_event ?hg (N := 2) ?hd (cs := #[.int .i64 a0_0, .int .i64 a0_1, .int .i64 a0_2, .int .i64 a0_3, .int .i64 a0_4, .int .i64 a0_5]) (t := 75) ?hr ?_; (case hd => rfl); (case hg => rfl); (case hr => first | (go_simp; done) | (go_simp; rfl)); intro gb270 hg w13 hbox hb; have n0_ := Gv.a0 (below_step Gv.bw hb); have n1_ := Gv.a0 (hbox); have n2_ := Gv.a0 ((Gv.ble hg Gv.bw : w.heap.size ≤ gb270)); have n3_ := Gv.a0 ((Gv.ble hg Gv.bw : w.heap.size ≤ gb270)); clear HB; have HB := n0_; have BK270 := n1_; have GW270 := n2_; have GE270 := n3_; clear n0_ n1_ n2_ n3_; clear hb hbox hg) | ((with_reducible refine gate_dst (N := 4) rfl ?_); refine box_event ?hg (N := 4) ?hd (cs := #[.int .i64 0, .int .i64 0, .int .i64 0]) (t := 51) ?hr ?_; (case hd => rfl); (case hg => rfl); (case hr => first | (go_simp; done) | (go_simp; rfl)); intro gb271 hg w14 hbox hb; have n0_ := Gv.a0 (Gv.bb BK270.out hb); have n1_ := Gv.a0 (below_step Gv.bw hb); have n2_ := Gv.a0 (hbox); have n3_ := Gv.a0 ((Gv.ble hg Gv.bw : w.heap.size ≤ gb271)); have n4_ := Gv.a0 ((Gv.ble hg Gv.bw : w.heap.size ≤ gb271)); have n5_ := Gv.a0 ((Gv.nlt hg (Gv.kb BK270.out) : gb270 ≠ gb271)); have n6_ := Gv.a0 ((Gv.ngt hg (Gv.kb BK270.out) : gb271 ≠ gb270)); clear BK270; clear HB; have BK270 := n0_; have HB := n1_; have BK271 := n2_; have GW271 := n3_; have GE271 := n4_; have NB270_271 := n5_; have NB271_270 := n6_; clear n0_ n1_ n2_ n3_ n4_ n5_ n6_; clear hb hbox hg; have hnb15 := NB270_271.out; have hnc15 := NB271_270.out; obtain ⟨hcz16_0, hcz16_1, hcz16_2, hcz16_3, hcz16_4, hcz16_5⟩ := Gv.c6 BK270.out; obtain ⟨hfz16_0, hfz16_1, hfz16_2, hfz16_3, hfz16_4, hfz16_5⟩ := Gv.f6 BK270.out) | ((with_reducible refine gate_callee (f := 49) rfl ?_); refine goesL_ (some 6) rfl rfl Try.func49 (by kernel_rfl) rfl #[.agg #[.int .i64 a0_0, .int .i64 a0_1, .int .i64 a0_2, .int .i64 a0_3, .int .i64 a0_4, .int .i64 a0_5]] rfl Gv.lm ?_; (with_reducible refine (spec_ProfOk.calls a0_0 a0_1 a0_2 a0_3 a0_4 a0_5 true _ A3.out).mono ?_); rintro e w17 ⟨rfl, hb⟩; refine ⟨_, rfl, ?_⟩; have n0_ := Gv.a0 (Gv.bb BK270.out hb); have n1_ := Gv.a0 (Gv.bb BK271.out hb); have n2_ := Gv.a0 (below_step Gv.bw hb); clear BK270; clear BK271; clear HB; have BK270 := n0_; have BK271 := n1_; have HB := n2_; clear n0_ n1_ n2_; (try clear hb); (try clear hb2); (try clear hk); (try clear hi); have hcz18_0 : w17.cell? ⟨gb271, 0, none⟩ = some (.int .i64 0) := (blk_cell BK271.out 0).trans rfl; have hcz18_1 : w17.cell? ⟨gb271, 1, none⟩ = some (.int .i64 0) := (blk_cell BK271.out 1).trans rfl; have hcz18_2 : w17.cell? ⟨gb271, 2, none⟩ = some (.int .i64 0) := (blk_cell BK271.out 2).trans rfl; have hfz18_0 := blk_frozen BK271.out 0; have hfz18_1 := blk_frozen BK271.out 1; have hfz18_2 := blk_frozen BK271.out 2))
    refine bodyPost_ret (results_cell_row rfl _ _ gb271 51 #[.int .i64 0, .int .i64 0, .int .i64 0] (0, 0) _ rfl (by (with_reducible repeat (first | refine blk_drewN ?_ _ | refine blk_drew ?_ | refine blk_alloc ?_ _)); refine blk_put (cs := #[.int .i64 0, .int .i64 0, .int .i64 0]) ?_ 2 _ rfl; (with_reducible repeat (first | refine blk_drewN ?_ _ | refine blk_drew ?_ | refine blk_alloc ?_ _)); refine blk_put (cs := #[.int .i64 0, .int .i64 0, .int .i64 0]) ?_ 1 _ rfl; (with_reducible repeat (first | refine blk_drewN ?_ _ | refine blk_drew ?_ | refine blk_alloc ?_ _)); refine blk_put (cs := #[.int .i64 0, .int .i64 0, .int .i64 0]) ?_ 0 _ rfl; (with_reducible repeat (first | refine blk_drewN ?_ _ | refine blk_drew ?_ | refine blk_alloc ?_ _)); exact BK271.out) Try.underlying51 rfl (by kernel_rfl)) rfl ?_
    exact ⟨Gv.rt, Gv.bw⟩
   ·rw [if_neg c12] at H
    have c12b0 : decide (1600 < a1) = false := decide_eq_false c12
    clear c12
    simp only [Option.some.injEq, Prod.mk.injEq] at H
    obtain ⟨rfl, rfl, rfl⟩ := H
    go_enter Try.func50, Try.ntmps50
    go_wp2_with (first | ((with_reducible refine gate_dst (N := 2) rfl ?_); refine box_event ?hg (N := 2) ?hd (cs := #[.int .i64 a0_0, .int .i64 a0_1, .int .i64 a0_2, .int .i64 a0_3, .int .i64 a0_4, .int .i64 a0_5]) (t := 75) ?hr ?_; (case hd => rfl); (case hg => rfl); (case hr => first | (go_simp; done) | (go_simp; rfl)); intro gb270 hg w19 hbox hb; have n0_ := Gv.a0 (below_step Gv.bw hb); have n1_ := Gv.a0 (hbox); have n2_ := Gv.a0 ((Gv.ble hg Gv.bw : w.heap.size ≤ gb270)); have n3_ := Gv.a0 ((Gv.ble hg Gv.bw : w.heap.size ≤ gb270)); clear HB; have HB := n0_; have BK270 := n1_; have GW270 := n2_; have GE270 := n3_; clear n0_ n1_ n2_ n3_; clear hb hbox hg) | ((with_reducible refine gate_dst (N := 4) rfl ?_); refine box_event ?hg (N := 4) ?hd (cs := #[.int .i64 0, .int .i64 0, .int .i64 0]) (t := 51) ?hr ?_; (case hd => rfl); (case hg => rfl); (case hr => first | (go_simp; done) | (go_simp; rfl)); intro gb271 hg w20 hbox hb; have n0_ := Gv.a0 (Gv.bb BK270.out hb); have n1_ := Gv.a0 (below_step Gv.bw hb); have n2_ := Gv.a0 (hbox); have n3_ := Gv.a0 ((Gv.ble hg Gv.bw : w.heap.size ≤ gb271)); have n4_ := Gv.a0 ((Gv.ble hg Gv.bw : w.heap.size ≤ gb271)); have n5_ := Gv.a0 ((Gv.nlt hg (Gv.kb BK270.out) : gb270 ≠ gb271)); have n6_ := Gv.a0 ((Gv.ngt hg (Gv.kb BK270.out) : gb271 ≠ gb270)); clear BK270; clear HB; have BK270 := n0_; have HB := n1_; have BK271 := n2_; have GW271 := n3_; have GE271 := n4_; have NB270_271 := n5_; have NB271_270 := n6_; clear n0_ n1_ n2_ n3_ n4_ n5_ n6_; clear hb hbox hg; have hnb21 := NB270_271.out; have hnc21 := NB271_270.out; obtain ⟨hcz22_0, hcz22_1, hcz22_2, hcz22_3, hcz22_4, hcz22_5⟩ := Gv.c6 BK270.out; obtain ⟨hfz22_0, hfz22_1, hfz22_2, hfz22_3, hfz22_4, hfz22_5⟩ := Gv.f6 BK270.out) | ((with_reducible refine gate_callee (f := 49) rfl ?_); refine goesL_ (some 6) rfl rfl Try.func49 (by kernel_rfl) rfl #[.agg #[.int .i64 a0_0, .int .i64 a0_1, .int .i64 a0_2, .int .i64 a0_3, .int .i64 a0_4, .int .i64 a0_5]] rfl Gv.lm ?_; (with_reducible refine (spec_ProfOk.calls a0_0 a0_1 a0_2 a0_3 a0_4 a0_5 true _ A3.out).mono ?_); rintro e w23 ⟨rfl, hb⟩; refine ⟨_, rfl, ?_⟩; have n0_ := Gv.a0 (Gv.bb BK270.out hb); have n1_ := Gv.a0 (Gv.bb BK271.out hb); have n2_ := Gv.a0 (below_step Gv.bw hb); clear BK270; clear BK271; clear HB; have BK270 := n0_; have BK271 := n1_; have HB := n2_; clear n0_ n1_ n2_; (try clear hb); (try clear hb2); (try clear hk); (try clear hi); obtain ⟨hcz24_0, hcz24_1, hcz24_2, hcz24_3, hcz24_4, hcz24_5⟩ := Gv.c6 BK270.out; obtain ⟨hfz24_0, hfz24_1, hfz24_2, hfz24_3, hfz24_4, hfz24_5⟩ := Gv.f6 BK270.out; have hcz25_0 : w23.cell? ⟨gb271, 0, none⟩ = some (.int .i64 0) := (blk_cell BK271.out 0).trans rfl; have hcz25_1 : w23.cell? ⟨gb271, 1, none⟩ = some (.int .i64 0) := (blk_cell BK271.out 1).trans rfl; have hcz25_2 : w23.cell? ⟨gb271, 2, none⟩ = some (.int .i64 0) := (blk_cell BK271.out 2).trans rfl; have hfz25_0 := blk_frozen BK271.out 0; have hfz25_1 := blk_frozen BK271.out 1; have hfz25_2 := blk_frozen BK271.out 2))
    refine bodyPost_ret (results_cell_row rfl _ _ gb271 51 #[.int .i64 (wrap64 (a0_0 + (wrap64 (Int.tdiv (wrap64 (a0_3 * a1)) 64)))), .int .i64 (wrap64 (a0_1 + (wrap64 (Int.tdiv (wrap64 (a0_4 * a1)) 64)))), .int .i64 (wrap64 (a0_2 + (wrap64 (Int.tdiv (wrap64 (a0_5 * a1)) 64))))] (0, 0) _ rfl (by (with_reducible repeat (first | refine blk_drewN ?_ _ | refine blk_drew ?_ | refine blk_alloc ?_ _)); refine blk_put (cs := #[.int .i64 (wrap64 (a0_0 + (wrap64 (Int.tdiv (wrap64 (a0_3 * a1)) 64)))), .int .i64 (wrap64 (a0_1 + (wrap64 (Int.tdiv (wrap64 (a0_4 * a1)) 64)))), .int .i64 0]) ?_ 2 _ rfl; (with_reducible repeat (first | refine blk_drewN ?_ _ | refine blk_drew ?_ | refine blk_alloc ?_ _)); refine blk_put (cs := #[.int .i64 (wrap64 (a0_0 + (wrap64 (Int.tdiv (wrap64 (a0_3 * a1)) 64)))), .int .i64 0, .int .i64 0]) ?_ 1 _ rfl; (with_reducible repeat (first | refine blk_drewN ?_ _ | refine blk_drew ?_ | refine blk_alloc ?_ _)); refine blk_put (cs := #[.int .i64 0, .int .i64 0, .int .i64 0]) ?_ 0 _ rfl; (with_reducible repeat (first | refine blk_drewN ?_ _ | refine blk_drew ?_ | refine blk_alloc ?_ _)); exact BK271.out) Try.underlying51 rfl (by kernel_rfl)) rfl ?_
    exact ⟨Gv.rt, Gv.bw⟩
 ·replace c4 := Bool.eq_false_iff.mpr c4
  subst c4
  have H1 : (some (0, 0, 0)) = some (r1, r2, r3) := by rw [if_neg (show ¬ (false = true) by decide)] at H; exact H
  clear H
  have H := H1
  clear H1
  simp only [Option.some.injEq, Prod.mk.injEq] at H
  obtain ⟨rfl, rfl, rfl⟩ := H
  go_enter Try.func50, Try.ntmps50
  go_wp2_with (first | ((with_reducible refine gate_dst (N := 2) rfl ?_); refine box_event ?hg (N := 2) ?hd (cs := #[.int .i64 a0_0, .int .i64 a0_1, .int .i64 a0_2, .int .i64 a0_3, .int .i64 a0_4, .int .i64 a0_5]) (t := 75) ?hr ?_; (case hd => rfl); (case hg => rfl); (case hr => first | (go_simp; done) | (go_simp; rfl)); intro gb270 hg w26 hbox hb; have n0_ := Gv.a0 (below_step Gv.bw hb); have n1_ := Gv.a0 (hbox); have n2_ := Gv.a0 ((Gv.ble hg Gv.bw : w.heap.size ≤ gb270)); have n3_ := Gv.a0 ((Gv.ble hg Gv.bw : w.heap.size ≤ gb270)); clear HB; have HB := n0_; have BK270 := n1_; have GW270 := n2_; have GE270 := n3_; clear n0_ n1_ n2_ n3_; clear hb hbox hg) | ((with_reducible refine gate_dst (N := 4) rfl ?_); refine box_event ?hg (N := 4) ?hd (cs := #[.int .i64 0, .int .i64 0, .int .i64 0]) (t := 51) ?hr ?_; (case hd => rfl); (case hg => rfl); (case hr => first | (go_simp; done) | (go_simp; rfl)); intro gb271 hg w27 hbox hb; have n0_ := Gv.a0 (Gv.bb BK270.out hb); have n1_ := Gv.a0 (below_step Gv.bw hb); have n2_ := Gv.a0 (hbox); have n3_ := Gv.a0 ((Gv.ble hg Gv.bw : w.heap.size ≤ gb271)); have n4_ := Gv.a0 ((Gv.ble hg Gv.bw : w.heap.size ≤ gb271)); have n5_ := Gv.a0 ((Gv.nlt hg (Gv.kb BK270.out) : gb270 ≠ gb271)); have n6_ := Gv.a0 ((Gv.ngt hg (Gv.kb BK270.out) : gb271 ≠ gb270)); clear BK270; clear HB; have BK270 := n0_; have HB := n1_; have BK271 := n2_; have GW271 := n3_; have GE271 := n4_; have NB270_271 := n5_; have NB271_270 := n6_; clear n0_ n1_ n2_ n3_ n4_ n5_ n6_; clear hb hbox hg; have hnb28 := NB270_271.out; have hnc28 := NB271_270.out; obtain ⟨hcz29_0, hcz29_1, hcz29_2, hcz29_3, hcz29_4, hcz29_5⟩ := Gv.c6 BK270.out; obtain ⟨hfz29_0, hfz29_1, hfz29_2, hfz29_3, hfz29_4, hfz29_5⟩ := Gv.f6 BK270.out) | ((with_reducible refine gate_callee (f := 49) rfl ?_); refine goesL_ (some 6) rfl rfl Try.func49 (by kernel_rfl) rfl #[.agg #[.int .i64 a0_0, .int .i64 a0_1, .int .i64 a0_2, .int .i64 a0_3, .int .i64 a0_4, .int .i64 a0_5]] rfl Gv.lm ?_; (with_reducible refine (spec_ProfOk.calls a0_0 a0_1 a0_2 a0_3 a0_4 a0_5 false _ A3.out).mono ?_); rintro e w30 ⟨rfl, hb⟩; refine ⟨_, rfl, ?_⟩; have n0_ := Gv.a0 (Gv.bb BK270.out hb); have n1_ := Gv.a0 (Gv.bb BK271.out hb); have n2_ := Gv.a0 (below_step Gv.bw hb); clear BK270; clear BK271; clear HB; have BK270 := n0_; have BK271 := n1_; have HB := n2_; clear n0_ n1_ n2_; (try clear hb); (try clear hb2); (try clear hk); (try clear hi); have hcz31_0 : w30.cell? ⟨gb271, 0, none⟩ = some (.int .i64 0) := (blk_cell BK271.out 0).trans rfl; have hcz31_1 : w30.cell? ⟨gb271, 1, none⟩ = some (.int .i64 0) := (blk_cell BK271.out 1).trans rfl; have hcz31_2 : w30.cell? ⟨gb271, 2, none⟩ = some (.int .i64 0) := (blk_cell BK271.out 2).trans rfl; have hfz31_0 := blk_frozen BK271.out 0; have hfz31_1 := blk_frozen BK271.out 1; have hfz31_2 := blk_frozen BK271.out 2))
  refine bodyPost_ret (results_cell_row rfl _ _ gb271 51 #[.int .i64 0, .int .i64 0, .int .i64 0] (0, 0) _ rfl (by (with_reducible repeat (first | refine blk_drewN ?_ _ | refine blk_drew ?_ | refine blk_alloc ?_ _)); refine blk_put (cs := #[.int .i64 0, .int .i64 0, .int .i64 0]) ?_ 2 _ rfl; (with_reducible repeat (first | refine blk_drewN ?_ _ | refine blk_drew ?_ | refine blk_alloc ?_ _)); refine blk_put (cs := #[.int .i64 0, .int .i64 0, .int .i64 0]) ?_ 1 _ rfl; (with_reducible repeat (first | refine blk_drewN ?_ _ | refine blk_drew ?_ | refine blk_alloc ?_ _)); refine blk_put (cs := #[.int .i64 0, .int .i64 0, .int .i64 0]) ?_ 0 _ rfl; (with_reducible repeat (first | refine blk_drewN ?_ _ | refine blk_drew ?_ | refine blk_alloc ?_ _)); exact BK271.out) Try.underlying51 rfl (by kernel_rfl)) rfl ?_
  exact ⟨Gv.rt, Gv.bw⟩

/-! ### spec_Clip: function 51 -/
def spec_Clip.f (a0 : Int) (a1 : Int) (a2 : Int) : Option (Int) := if a0 < a1 then (some a1) else (if a0 > a2 then (some a2) else (some a0))
set_option maxHeartbeats 8000000 in
set_option maxRecDepth 100000 in
theorem spec_Clip.calls (a0 : Int) (a1 : Int) (a2 : Int) (r : Int) (w : World) (h : spec_Clip.f a0 a1 a2 = some r) :
  Calls Try.prog 51 #[.int .i64 a0, .int .i64 a1, .int .i64 a2] w fun e w' => e = .returned (.int .i64 r) ∧ Drawn0 w w' := by
 have H : (if a0 < a1 then (some a1) else (if a0 > a2 then (some a2) else (some a0))) = some r := h
 clear h
 by_cases c4 : a0 < a1
 ·rw [if_pos c4] at H
  have c4b0 : decide (a0 < a1) = true := decide_eq_true c4
  clear c4
  obtain rfl := Option.some.inj H
  go_enter Try.func51, Try.ntmps51
  go_wp2
  go_ret
  exact ⟨by first | rfl | (simp; done) | (simp [Int.tdiv_eq_ediv_of_nonneg]; done) | (simp [*]; done), by repeat (first | exact Drawn0.refl _ | apply Drawn0.step)⟩
 ·rw [if_neg c4] at H
  have c4b0 : decide (a0 < a1) = false := decide_eq_false c4
  clear c4
  by_cases c5 : a0 > a2
  ·rw [if_pos c5] at H
   have c5b0 : decide (a2 < a0) = true := decide_eq_true c5
   clear c5
   obtain rfl := Option.some.inj H
   go_enter Try.func51, Try.ntmps51
   go_wp2
   go_ret
   exact ⟨by first | rfl | (simp; done) | (simp [Int.tdiv_eq_ediv_of_nonneg]; done) | (simp [*]; done), by repeat (first | exact Drawn0.refl _ | apply Drawn0.step)⟩
  ·rw [if_neg c5] at H
   have c5b0 : decide (a2 < a0) = false := decide_eq_false c5
   clear c5
   obtain rfl := Option.some.inj H
   go_enter Try.func51, Try.ntmps51
   go_wp2
   go_ret
   exact ⟨by first | rfl | (simp; done) | (simp [Int.tdiv_eq_ediv_of_nonneg]; done) | (simp [*]; done), by repeat (first | exact Drawn0.refl _ | apply Drawn0.step)⟩

end Go.Proofs.Ytbpkmdghloapjaa.PCc
